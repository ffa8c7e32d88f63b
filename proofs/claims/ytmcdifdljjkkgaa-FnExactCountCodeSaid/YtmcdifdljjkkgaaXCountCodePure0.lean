/- What the functions compute: printed from their code by the evaluator. -/
import Derived.Test.YtmcdifdljjkkgaaVE
namespace Go.Proofs.Ytmcdifdljjkkgaa
set_option linter.unusedVariables false
abbrev TSig : Type := Int × Int
abbrev dSig : TSig := ((0 : Int), (0 : Int))
abbrev TSigned : Type := Int × Int × Int × Int × Int × Int × Int × Int × List Int × Int × List Int × Int × Int × List Int × Int × Bool × List TSig
abbrev dSigned : TSigned := ((0 : Int), (0 : Int), (0 : Int), (0 : Int), (0 : Int), (0 : Int), (0 : Int), (0 : Int), [], (0 : Int), [], (0 : Int), (0 : Int), [], (0 : Int), false, [])
abbrev TFork : Type := Int × Int × Int × Int × Int × Int × Int × Int × List Int × Int × List Int × Int × Int × List Int × Int × Bool × List TSig × Int × Int × Int × Int × Int × Int × Int × Int × List Int × Int × List Int × Int × Int × List Int × Int × Bool × List TSig × Int × Int × Int × Int × Int × Int × Int × Int × List Int × Int × List Int × Int × Int × List Int × Int × Bool × List TSig
abbrev dFork : TFork := ((0 : Int), (0 : Int), (0 : Int), (0 : Int), (0 : Int), (0 : Int), (0 : Int), (0 : Int), [], (0 : Int), [], (0 : Int), (0 : Int), [], (0 : Int), false, [], (0 : Int), (0 : Int), (0 : Int), (0 : Int), (0 : Int), (0 : Int), (0 : Int), (0 : Int), [], (0 : Int), [], (0 : Int), (0 : Int), [], (0 : Int), false, [], (0 : Int), (0 : Int), (0 : Int), (0 : Int), (0 : Int), (0 : Int), (0 : Int), (0 : Int), [], (0 : Int), [], (0 : Int), (0 : Int), [], (0 : Int), false, [])
abbrev TKnown : Type := List (List TSigned) × List TFork
abbrev dKnown : TKnown := ([], [])
abbrev TEntry : Type := ByteArray × Int × Int × List ByteArray
abbrev dEntry : TEntry := ((⟨#[]⟩ : ByteArray), (0 : Int), (0 : Int), [])
abbrev TLook : Type := List (List TSigned) × List TFork × Bool × ByteArray × Int × Int × List ByteArray × Bool × List Int
abbrev dLook : TLook := ([], [], false, (⟨#[]⟩ : ByteArray), (0 : Int), (0 : Int), [], false, [])
abbrev TKeys : Type := List Int × Int
abbrev dKeys : TKeys := ([], (0 : Int))
abbrev THead : Type := Int × Int × Int × Int × Int × Int × Int × Int × List Int × Int × List Int × Int × Int × List Int × Int × Bool
abbrev dHead : THead := ((0 : Int), (0 : Int), (0 : Int), (0 : Int), (0 : Int), (0 : Int), (0 : Int), (0 : Int), [], (0 : Int), [], (0 : Int), (0 : Int), [], (0 : Int), false)
noncomputable def laws_szIntS (x0 : List Int) (x1 : Int) : Option Int :=
  bif decide ((IntKind.i64.wrap (x1 - (x0.length : Int))) < (0 : Int)) then
  some (-1 : Int)
else some (IntKind.i64.wrap (x1 - (x0.length : Int)))
noncomputable def laws_szKeys (x0 : TKeys) (x1 : Int) : Option Int :=
  (laws_szIntS x0.1 x1).bind fun y1 =>
  bif decide (y1 < (0 : Int)) then
    some (-1 : Int)
  else some y1
noncomputable def laws_szHead (x0 : THead) (x1 : Int) : Option Int :=
  (laws_szKeys (x0.2.2.2.2.2.2.2.2.1, x0.2.2.2.2.2.2.2.2.2.1) x1).bind fun y1 =>
  bif decide (y1 < (0 : Int)) then
    some (-1 : Int)
  else
    (laws_szKeys (x0.2.2.2.2.2.2.2.2.2.2.1, x0.2.2.2.2.2.2.2.2.2.2.2.1) y1).bind fun y2 =>
      bif decide (y2 < (0 : Int)) then
        some (-1 : Int)
      else
        (laws_szKeys (x0.2.2.2.2.2.2.2.2.2.2.2.2.2.1, x0.2.2.2.2.2.2.2.2.2.2.2.2.2.2.1) y2).bind fun y3 =>
          bif decide (y3 < (0 : Int)) then
            some (-1 : Int)
          else some y3
noncomputable def laws_szSigS (x0 : List TSig) (x1 : Int) : Option Int :=
  bif decide ((IntKind.i64.wrap (x1 - (x0.length : Int))) < (0 : Int)) then
  some (-1 : Int)
else some (IntKind.i64.wrap (x1 - (x0.length : Int)))
noncomputable def laws_szSigned (x0 : TSigned) (x1 : Int) : Option Int :=
  (laws_szHead (x0.1, x0.2.1, x0.2.2.1, x0.2.2.2.1, x0.2.2.2.2.1, x0.2.2.2.2.2.1, x0.2.2.2.2.2.2.1, x0.2.2.2.2.2.2.2.1, x0.2.2.2.2.2.2.2.2.1, x0.2.2.2.2.2.2.2.2.2.1, x0.2.2.2.2.2.2.2.2.2.2.1, x0.2.2.2.2.2.2.2.2.2.2.2.1, x0.2.2.2.2.2.2.2.2.2.2.2.2.1, x0.2.2.2.2.2.2.2.2.2.2.2.2.2.1, x0.2.2.2.2.2.2.2.2.2.2.2.2.2.2.1, x0.2.2.2.2.2.2.2.2.2.2.2.2.2.2.2.1) x1).bind fun y1 =>
  bif decide (y1 < (0 : Int)) then
    some (-1 : Int)
  else
    (laws_szSigS x0.2.2.2.2.2.2.2.2.2.2.2.2.2.2.2.2 y1).bind fun y2 =>
      bif decide (y2 < (0 : Int)) then
        some (-1 : Int)
      else some y2
noncomputable abbrev laws_szSignedS.g10 (x0 : List TSigned) (r10 : Int → Int → Option Int) (v10_1 : Int) (v10_2 : Int) : Option Int :=
  bif decide (v10_2 < (x0.length : Int)) then
  bif decide (0 ≤ v10_2) then
    bif decide (v10_2 < (x0.length : Int)) then
      (laws_szSigned (x0.getD v10_2.toNat dSigned) v10_1).bind fun y1 =>
        bif decide (y1 < (0 : Int)) then
          some (-1 : Int)
        else r10 y1 (IntKind.i64.wrap (v10_2 + (1 : Int)))
    else none
  else none
else some v10_1
noncomputable def laws_szSignedS.l10 (x0 : List TSigned) (n : Nat) : Int → Int → Option Int :=
  V.iter (fun (r10 : Int → Int → Option Int) => fun v10_1 v10_2 => laws_szSignedS.g10 x0 r10 v10_1 v10_2) (fun _ _ => none) n
theorem laws_szSignedS.u10 (x0 : List TSigned) (n : Nat) (v10_1 : Int) (v10_2 : Int) : laws_szSignedS.l10 x0 (n + 1) v10_1 v10_2 = laws_szSignedS.g10 x0 (laws_szSignedS.l10 x0 n) v10_1 v10_2 := rfl
noncomputable abbrev laws_szSignedS.b (x0 : List TSigned) (x1 : Int) (L10 : Int → Int → Option Int) : Option Int :=
  bif decide ((IntKind.i64.wrap (x1 - (x0.length : Int))) < (0 : Int)) then
  some (-1 : Int)
else L10 (IntKind.i64.wrap (x1 - (x0.length : Int))) (0 : Int)
noncomputable def laws_szSignedS (x0 : List TSigned) (x1 : Int) : Option Int :=
  laws_szSignedS.b x0 x1 (laws_szSignedS.l10 x0 V.KK)
noncomputable abbrev laws_szSignedSS.g10 (x0 : List (List TSigned)) (r10 : Int → Int → Option Int) (v10_1 : Int) (v10_2 : Int) : Option Int :=
  bif decide (v10_2 < (x0.length : Int)) then
  bif decide (0 ≤ v10_2) then
    bif decide (v10_2 < (x0.length : Int)) then
      (laws_szSignedS (x0.getD v10_2.toNat []) v10_1).bind fun y1 =>
        bif decide (y1 < (0 : Int)) then
          some (-1 : Int)
        else r10 y1 (IntKind.i64.wrap (v10_2 + (1 : Int)))
    else none
  else none
else some v10_1
noncomputable def laws_szSignedSS.l10 (x0 : List (List TSigned)) (n : Nat) : Int → Int → Option Int :=
  V.iter (fun (r10 : Int → Int → Option Int) => fun v10_1 v10_2 => laws_szSignedSS.g10 x0 r10 v10_1 v10_2) (fun _ _ => none) n
theorem laws_szSignedSS.u10 (x0 : List (List TSigned)) (n : Nat) (v10_1 : Int) (v10_2 : Int) : laws_szSignedSS.l10 x0 (n + 1) v10_1 v10_2 = laws_szSignedSS.g10 x0 (laws_szSignedSS.l10 x0 n) v10_1 v10_2 := rfl
noncomputable abbrev laws_szSignedSS.b (x0 : List (List TSigned)) (x1 : Int) (L10 : Int → Int → Option Int) : Option Int :=
  bif decide ((IntKind.i64.wrap (x1 - (x0.length : Int))) < (0 : Int)) then
  some (-1 : Int)
else L10 (IntKind.i64.wrap (x1 - (x0.length : Int))) (0 : Int)
noncomputable def laws_szSignedSS (x0 : List (List TSigned)) (x1 : Int) : Option Int :=
  laws_szSignedSS.b x0 x1 (laws_szSignedSS.l10 x0 V.KK)
noncomputable def laws_szFork (x0 : TFork) (x1 : Int) : Option Int :=
  (laws_szSigned (x0.1, x0.2.1, x0.2.2.1, x0.2.2.2.1, x0.2.2.2.2.1, x0.2.2.2.2.2.1, x0.2.2.2.2.2.2.1, x0.2.2.2.2.2.2.2.1, x0.2.2.2.2.2.2.2.2.1, x0.2.2.2.2.2.2.2.2.2.1, x0.2.2.2.2.2.2.2.2.2.2.1, x0.2.2.2.2.2.2.2.2.2.2.2.1, x0.2.2.2.2.2.2.2.2.2.2.2.2.1, x0.2.2.2.2.2.2.2.2.2.2.2.2.2.1, x0.2.2.2.2.2.2.2.2.2.2.2.2.2.2.1, x0.2.2.2.2.2.2.2.2.2.2.2.2.2.2.2.1, x0.2.2.2.2.2.2.2.2.2.2.2.2.2.2.2.2.1) x1).bind fun y1 =>
  bif decide (y1 < (0 : Int)) then
    some (-1 : Int)
  else
    (laws_szSigned (x0.2.2.2.2.2.2.2.2.2.2.2.2.2.2.2.2.2.1, x0.2.2.2.2.2.2.2.2.2.2.2.2.2.2.2.2.2.2.1, x0.2.2.2.2.2.2.2.2.2.2.2.2.2.2.2.2.2.2.2.1, x0.2.2.2.2.2.2.2.2.2.2.2.2.2.2.2.2.2.2.2.2.1, x0.2.2.2.2.2.2.2.2.2.2.2.2.2.2.2.2.2.2.2.2.2.1, x0.2.2.2.2.2.2.2.2.2.2.2.2.2.2.2.2.2.2.2.2.2.2.1, x0.2.2.2.2.2.2.2.2.2.2.2.2.2.2.2.2.2.2.2.2.2.2.2.1, x0.2.2.2.2.2.2.2.2.2.2.2.2.2.2.2.2.2.2.2.2.2.2.2.2.1, x0.2.2.2.2.2.2.2.2.2.2.2.2.2.2.2.2.2.2.2.2.2.2.2.2.2.1, x0.2.2.2.2.2.2.2.2.2.2.2.2.2.2.2.2.2.2.2.2.2.2.2.2.2.2.1, x0.2.2.2.2.2.2.2.2.2.2.2.2.2.2.2.2.2.2.2.2.2.2.2.2.2.2.2.1, x0.2.2.2.2.2.2.2.2.2.2.2.2.2.2.2.2.2.2.2.2.2.2.2.2.2.2.2.2.1, x0.2.2.2.2.2.2.2.2.2.2.2.2.2.2.2.2.2.2.2.2.2.2.2.2.2.2.2.2.2.1, x0.2.2.2.2.2.2.2.2.2.2.2.2.2.2.2.2.2.2.2.2.2.2.2.2.2.2.2.2.2.2.1, x0.2.2.2.2.2.2.2.2.2.2.2.2.2.2.2.2.2.2.2.2.2.2.2.2.2.2.2.2.2.2.2.1, x0.2.2.2.2.2.2.2.2.2.2.2.2.2.2.2.2.2.2.2.2.2.2.2.2.2.2.2.2.2.2.2.2.1, x0.2.2.2.2.2.2.2.2.2.2.2.2.2.2.2.2.2.2.2.2.2.2.2.2.2.2.2.2.2.2.2.2.2.1) y1).bind fun y2 =>
      bif decide (y2 < (0 : Int)) then
        some (-1 : Int)
      else
        (laws_szSigned x0.2.2.2.2.2.2.2.2.2.2.2.2.2.2.2.2.2.2.2.2.2.2.2.2.2.2.2.2.2.2.2.2.2.2 y2).bind fun y3 =>
          bif decide (y3 < (0 : Int)) then
            some (-1 : Int)
          else some y3
noncomputable abbrev laws_szForkS.g10 (x0 : List TFork) (r10 : Int → Int → Option Int) (v10_1 : Int) (v10_2 : Int) : Option Int :=
  bif decide (v10_2 < (x0.length : Int)) then
  bif decide (0 ≤ v10_2) then
    bif decide (v10_2 < (x0.length : Int)) then
      (laws_szFork (x0.getD v10_2.toNat dFork) v10_1).bind fun y1 =>
        bif decide (y1 < (0 : Int)) then
          some (-1 : Int)
        else r10 y1 (IntKind.i64.wrap (v10_2 + (1 : Int)))
    else none
  else none
else some v10_1
noncomputable def laws_szForkS.l10 (x0 : List TFork) (n : Nat) : Int → Int → Option Int :=
  V.iter (fun (r10 : Int → Int → Option Int) => fun v10_1 v10_2 => laws_szForkS.g10 x0 r10 v10_1 v10_2) (fun _ _ => none) n
theorem laws_szForkS.u10 (x0 : List TFork) (n : Nat) (v10_1 : Int) (v10_2 : Int) : laws_szForkS.l10 x0 (n + 1) v10_1 v10_2 = laws_szForkS.g10 x0 (laws_szForkS.l10 x0 n) v10_1 v10_2 := rfl
noncomputable abbrev laws_szForkS.b (x0 : List TFork) (x1 : Int) (L10 : Int → Int → Option Int) : Option Int :=
  bif decide ((IntKind.i64.wrap (x1 - (x0.length : Int))) < (0 : Int)) then
  some (-1 : Int)
else L10 (IntKind.i64.wrap (x1 - (x0.length : Int))) (0 : Int)
noncomputable def laws_szForkS (x0 : List TFork) (x1 : Int) : Option Int :=
  laws_szForkS.b x0 x1 (laws_szForkS.l10 x0 V.KK)
noncomputable def laws_szKnown (x0 : TKnown) (x1 : Int) : Option Int :=
  (laws_szSignedSS x0.1 x1).bind fun y1 =>
  bif decide (y1 < (0 : Int)) then
    some (-1 : Int)
  else
    (laws_szForkS x0.2 y1).bind fun y2 =>
      bif decide (y2 < (0 : Int)) then
        some (-1 : Int)
      else some y2
noncomputable abbrev laws_szStringS.g10 (x0 : List ByteArray) (r10 : Int → Int → Option Int) (v10_1 : Int) (v10_2 : Int) : Option Int :=
  bif decide (v10_2 < (x0.length : Int)) then
  bif decide (0 ≤ v10_2) then
    bif decide (v10_2 < (x0.length : Int)) then
      bif decide ((IntKind.i64.wrap (v10_1 - ((x0.getD v10_2.toNat (⟨#[]⟩ : ByteArray)).size : Int))) < (0 : Int)) then
        some (-1 : Int)
      else r10 (IntKind.i64.wrap (v10_1 - ((x0.getD v10_2.toNat (⟨#[]⟩ : ByteArray)).size : Int))) (IntKind.i64.wrap (v10_2 + (1 : Int)))
    else none
  else none
else some v10_1
noncomputable def laws_szStringS.l10 (x0 : List ByteArray) (n : Nat) : Int → Int → Option Int :=
  V.iter (fun (r10 : Int → Int → Option Int) => fun v10_1 v10_2 => laws_szStringS.g10 x0 r10 v10_1 v10_2) (fun _ _ => none) n
theorem laws_szStringS.u10 (x0 : List ByteArray) (n : Nat) (v10_1 : Int) (v10_2 : Int) : laws_szStringS.l10 x0 (n + 1) v10_1 v10_2 = laws_szStringS.g10 x0 (laws_szStringS.l10 x0 n) v10_1 v10_2 := rfl
noncomputable abbrev laws_szStringS.b (x0 : List ByteArray) (x1 : Int) (L10 : Int → Int → Option Int) : Option Int :=
  bif decide ((IntKind.i64.wrap (x1 - (x0.length : Int))) < (0 : Int)) then
  some (-1 : Int)
else L10 (IntKind.i64.wrap (x1 - (x0.length : Int))) (0 : Int)
noncomputable def laws_szStringS (x0 : List ByteArray) (x1 : Int) : Option Int :=
  laws_szStringS.b x0 x1 (laws_szStringS.l10 x0 V.KK)
noncomputable def laws_szEntry (x0 : TEntry) (x1 : Int) : Option Int :=
  bif decide ((IntKind.i64.wrap (x1 - (x0.1.size : Int))) < (0 : Int)) then
  some (-1 : Int)
else
  (laws_szStringS x0.2.2.2 (IntKind.i64.wrap (x1 - (x0.1.size : Int)))).bind fun y1 =>
    bif decide (y1 < (0 : Int)) then
      some (-1 : Int)
    else some y1
noncomputable def laws_szLook (x0 : TLook) (x1 : Int) : Option Int :=
  (laws_szKnown (x0.1, x0.2.1) x1).bind fun y1 =>
  bif decide (y1 < (0 : Int)) then
    some (-1 : Int)
  else
    (laws_szEntry (x0.2.2.2.1, x0.2.2.2.2.1, x0.2.2.2.2.2.1, x0.2.2.2.2.2.2.1) y1).bind fun y2 =>
      bif decide (y2 < (0 : Int)) then
        some (-1 : Int)
      else
        (laws_szIntS x0.2.2.2.2.2.2.2.2 y2).bind fun y3 =>
          bif decide (y3 < (0 : Int)) then
            some (-1 : Int)
          else some y3
noncomputable abbrev laws_toIntS.g6 (x0 : List Int) (r6 : Int → (List Int) → Option (List Int)) (v6_1 : Int) (v6_2 : List Int) : Option (List Int) :=
  bif decide (v6_1 < (x0.length : Int)) then
  bif decide (0 ≤ v6_1) then
    bif decide (v6_1 < (x0.length : Int)) then
      bif decide (0 ≤ v6_1) then
        bif decide (v6_1 < (v6_2.length : Int)) then
          r6 (IntKind.i64.wrap (v6_1 + (1 : Int))) (v6_2.set v6_1.toNat (x0.getD v6_1.toNat (0 : Int)))
        else none
      else none
    else none
  else none
else some v6_2
noncomputable def laws_toIntS.l6 (x0 : List Int) (n : Nat) : Int → (List Int) → Option (List Int) :=
  V.iter (fun (r6 : Int → (List Int) → Option (List Int)) => fun v6_1 v6_2 => laws_toIntS.g6 x0 r6 v6_1 v6_2) (fun _ _ => none) n
theorem laws_toIntS.u6 (x0 : List Int) (n : Nat) (v6_1 : Int) (v6_2 : List Int) : laws_toIntS.l6 x0 (n + 1) v6_1 v6_2 = laws_toIntS.g6 x0 (laws_toIntS.l6 x0 n) v6_1 v6_2 := rfl
noncomputable abbrev laws_toIntS.b (x0 : List Int) (L6 : Int → (List Int) → Option (List Int)) : Option (List Int) :=
  bif ((x0.length : Int) == (x0.length : Int)) then
  bif decide (0 ≤ (x0.length : Int)) then
    bif decide ((x0.length : Int) < (68719476736 : Int)) then
      L6 (0 : Int) (List.replicate ((x0.length : Int).toNat) (0 : Int))
    else none
  else none
else none
noncomputable def laws_toIntS (x0 : List Int) : Option (List Int) :=
  laws_toIntS.b x0 (laws_toIntS.l6 x0 V.KK)
noncomputable def laws_toKeys (x0 : TKeys) : Option TKeys :=
  (laws_toIntS x0.1).bind fun y1 =>
  some (y1, x0.2)
noncomputable def laws_toHead (x0 : THead) : Option THead :=
  (laws_toKeys (x0.2.2.2.2.2.2.2.2.1, x0.2.2.2.2.2.2.2.2.2.1)).bind fun y1 =>
  (laws_toKeys (x0.2.2.2.2.2.2.2.2.2.2.1, x0.2.2.2.2.2.2.2.2.2.2.2.1)).bind fun y2 =>
    (laws_toKeys (x0.2.2.2.2.2.2.2.2.2.2.2.2.2.1, x0.2.2.2.2.2.2.2.2.2.2.2.2.2.2.1)).bind fun y3 =>
      some (x0.1, x0.2.1, x0.2.2.1, x0.2.2.2.1, x0.2.2.2.2.1, x0.2.2.2.2.2.1, x0.2.2.2.2.2.2.1, x0.2.2.2.2.2.2.2.1, y1.1, y1.2, y2.1, y2.2, x0.2.2.2.2.2.2.2.2.2.2.2.2.1, y3.1, y3.2, x0.2.2.2.2.2.2.2.2.2.2.2.2.2.2.2)
noncomputable def laws_toSig (x0 : TSig) : Option TSig :=
  some x0
noncomputable abbrev laws_toSigS.g6 (x0 : List TSig) (r6 : Int → (List TSig) → Option (List TSig)) (v6_1 : Int) (v6_2 : List TSig) : Option (List TSig) :=
  bif decide (v6_1 < (x0.length : Int)) then
  bif decide (0 ≤ v6_1) then
    bif decide (v6_1 < (x0.length : Int)) then
      (laws_toSig (x0.getD v6_1.toNat dSig)).bind fun y1 =>
        bif decide (0 ≤ v6_1) then
          bif decide (v6_1 < (v6_2.length : Int)) then
            r6 (IntKind.i64.wrap (v6_1 + (1 : Int))) (v6_2.set v6_1.toNat y1)
          else none
        else none
    else none
  else none
else some v6_2
noncomputable def laws_toSigS.l6 (x0 : List TSig) (n : Nat) : Int → (List TSig) → Option (List TSig) :=
  V.iter (fun (r6 : Int → (List TSig) → Option (List TSig)) => fun v6_1 v6_2 => laws_toSigS.g6 x0 r6 v6_1 v6_2) (fun _ _ => none) n
theorem laws_toSigS.u6 (x0 : List TSig) (n : Nat) (v6_1 : Int) (v6_2 : List TSig) : laws_toSigS.l6 x0 (n + 1) v6_1 v6_2 = laws_toSigS.g6 x0 (laws_toSigS.l6 x0 n) v6_1 v6_2 := rfl
noncomputable abbrev laws_toSigS.b (x0 : List TSig) (L6 : Int → (List TSig) → Option (List TSig)) : Option (List TSig) :=
  bif ((x0.length : Int) == (x0.length : Int)) then
  bif decide (0 ≤ (x0.length : Int)) then
    bif decide ((x0.length : Int) < (68719476736 : Int)) then
      L6 (0 : Int) (List.replicate ((x0.length : Int).toNat) dSig)
    else none
  else none
else none
noncomputable def laws_toSigS (x0 : List TSig) : Option (List TSig) :=
  laws_toSigS.b x0 (laws_toSigS.l6 x0 V.KK)
noncomputable def laws_toSigned (x0 : TSigned) : Option TSigned :=
  (laws_toHead (x0.1, x0.2.1, x0.2.2.1, x0.2.2.2.1, x0.2.2.2.2.1, x0.2.2.2.2.2.1, x0.2.2.2.2.2.2.1, x0.2.2.2.2.2.2.2.1, x0.2.2.2.2.2.2.2.2.1, x0.2.2.2.2.2.2.2.2.2.1, x0.2.2.2.2.2.2.2.2.2.2.1, x0.2.2.2.2.2.2.2.2.2.2.2.1, x0.2.2.2.2.2.2.2.2.2.2.2.2.1, x0.2.2.2.2.2.2.2.2.2.2.2.2.2.1, x0.2.2.2.2.2.2.2.2.2.2.2.2.2.2.1, x0.2.2.2.2.2.2.2.2.2.2.2.2.2.2.2.1)).bind fun y1 =>
  (laws_toSigS x0.2.2.2.2.2.2.2.2.2.2.2.2.2.2.2.2).bind fun y2 =>
    some (y1.1, y1.2.1, y1.2.2.1, y1.2.2.2.1, y1.2.2.2.2.1, y1.2.2.2.2.2.1, y1.2.2.2.2.2.2.1, y1.2.2.2.2.2.2.2.1, y1.2.2.2.2.2.2.2.2.1, y1.2.2.2.2.2.2.2.2.2.1, y1.2.2.2.2.2.2.2.2.2.2.1, y1.2.2.2.2.2.2.2.2.2.2.2.1, y1.2.2.2.2.2.2.2.2.2.2.2.2.1, y1.2.2.2.2.2.2.2.2.2.2.2.2.2.1, y1.2.2.2.2.2.2.2.2.2.2.2.2.2.2.1, y1.2.2.2.2.2.2.2.2.2.2.2.2.2.2.2, y2)
noncomputable abbrev laws_toSignedS.g6 (x0 : List TSigned) (r6 : Int → (List TSigned) → Option (List TSigned)) (v6_1 : Int) (v6_2 : List TSigned) : Option (List TSigned) :=
  bif decide (v6_1 < (x0.length : Int)) then
  bif decide (0 ≤ v6_1) then
    bif decide (v6_1 < (x0.length : Int)) then
      (laws_toSigned (x0.getD v6_1.toNat dSigned)).bind fun y1 =>
        bif decide (0 ≤ v6_1) then
          bif decide (v6_1 < (v6_2.length : Int)) then
            r6 (IntKind.i64.wrap (v6_1 + (1 : Int))) (v6_2.set v6_1.toNat y1)
          else none
        else none
    else none
  else none
else some v6_2
noncomputable def laws_toSignedS.l6 (x0 : List TSigned) (n : Nat) : Int → (List TSigned) → Option (List TSigned) :=
  V.iter (fun (r6 : Int → (List TSigned) → Option (List TSigned)) => fun v6_1 v6_2 => laws_toSignedS.g6 x0 r6 v6_1 v6_2) (fun _ _ => none) n
theorem laws_toSignedS.u6 (x0 : List TSigned) (n : Nat) (v6_1 : Int) (v6_2 : List TSigned) : laws_toSignedS.l6 x0 (n + 1) v6_1 v6_2 = laws_toSignedS.g6 x0 (laws_toSignedS.l6 x0 n) v6_1 v6_2 := rfl
noncomputable abbrev laws_toSignedS.b (x0 : List TSigned) (L6 : Int → (List TSigned) → Option (List TSigned)) : Option (List TSigned) :=
  bif ((x0.length : Int) == (x0.length : Int)) then
  bif decide (0 ≤ (x0.length : Int)) then
    bif decide ((x0.length : Int) < (68719476736 : Int)) then
      L6 (0 : Int) (List.replicate ((x0.length : Int).toNat) dSigned)
    else none
  else none
else none
noncomputable def laws_toSignedS (x0 : List TSigned) : Option (List TSigned) :=
  laws_toSignedS.b x0 (laws_toSignedS.l6 x0 V.KK)
noncomputable abbrev laws_toSignedSS.g6 (x0 : List (List TSigned)) (r6 : Int → (List (List TSigned)) → Option (List (List TSigned))) (v6_1 : Int) (v6_2 : List (List TSigned)) : Option (List (List TSigned)) :=
  bif decide (v6_1 < (x0.length : Int)) then
  bif decide (0 ≤ v6_1) then
    bif decide (v6_1 < (x0.length : Int)) then
      (laws_toSignedS (x0.getD v6_1.toNat [])).bind fun y1 =>
        bif decide (0 ≤ v6_1) then
          bif decide (v6_1 < (v6_2.length : Int)) then
            r6 (IntKind.i64.wrap (v6_1 + (1 : Int))) (v6_2.set v6_1.toNat y1)
          else none
        else none
    else none
  else none
else some v6_2
noncomputable def laws_toSignedSS.l6 (x0 : List (List TSigned)) (n : Nat) : Int → (List (List TSigned)) → Option (List (List TSigned)) :=
  V.iter (fun (r6 : Int → (List (List TSigned)) → Option (List (List TSigned))) => fun v6_1 v6_2 => laws_toSignedSS.g6 x0 r6 v6_1 v6_2) (fun _ _ => none) n
theorem laws_toSignedSS.u6 (x0 : List (List TSigned)) (n : Nat) (v6_1 : Int) (v6_2 : List (List TSigned)) : laws_toSignedSS.l6 x0 (n + 1) v6_1 v6_2 = laws_toSignedSS.g6 x0 (laws_toSignedSS.l6 x0 n) v6_1 v6_2 := rfl
noncomputable abbrev laws_toSignedSS.b (x0 : List (List TSigned)) (L6 : Int → (List (List TSigned)) → Option (List (List TSigned))) : Option (List (List TSigned)) :=
  bif ((x0.length : Int) == (x0.length : Int)) then
  bif decide (0 ≤ (x0.length : Int)) then
    bif decide ((x0.length : Int) < (68719476736 : Int)) then
      L6 (0 : Int) (List.replicate ((x0.length : Int).toNat) [])
    else none
  else none
else none
noncomputable def laws_toSignedSS (x0 : List (List TSigned)) : Option (List (List TSigned)) :=
  laws_toSignedSS.b x0 (laws_toSignedSS.l6 x0 V.KK)
noncomputable def laws_toFork (x0 : TFork) : Option TFork :=
  (laws_toSigned (x0.1, x0.2.1, x0.2.2.1, x0.2.2.2.1, x0.2.2.2.2.1, x0.2.2.2.2.2.1, x0.2.2.2.2.2.2.1, x0.2.2.2.2.2.2.2.1, x0.2.2.2.2.2.2.2.2.1, x0.2.2.2.2.2.2.2.2.2.1, x0.2.2.2.2.2.2.2.2.2.2.1, x0.2.2.2.2.2.2.2.2.2.2.2.1, x0.2.2.2.2.2.2.2.2.2.2.2.2.1, x0.2.2.2.2.2.2.2.2.2.2.2.2.2.1, x0.2.2.2.2.2.2.2.2.2.2.2.2.2.2.1, x0.2.2.2.2.2.2.2.2.2.2.2.2.2.2.2.1, x0.2.2.2.2.2.2.2.2.2.2.2.2.2.2.2.2.1)).bind fun y1 =>
  (laws_toSigned (x0.2.2.2.2.2.2.2.2.2.2.2.2.2.2.2.2.2.1, x0.2.2.2.2.2.2.2.2.2.2.2.2.2.2.2.2.2.2.1, x0.2.2.2.2.2.2.2.2.2.2.2.2.2.2.2.2.2.2.2.1, x0.2.2.2.2.2.2.2.2.2.2.2.2.2.2.2.2.2.2.2.2.1, x0.2.2.2.2.2.2.2.2.2.2.2.2.2.2.2.2.2.2.2.2.2.1, x0.2.2.2.2.2.2.2.2.2.2.2.2.2.2.2.2.2.2.2.2.2.2.1, x0.2.2.2.2.2.2.2.2.2.2.2.2.2.2.2.2.2.2.2.2.2.2.2.1, x0.2.2.2.2.2.2.2.2.2.2.2.2.2.2.2.2.2.2.2.2.2.2.2.2.1, x0.2.2.2.2.2.2.2.2.2.2.2.2.2.2.2.2.2.2.2.2.2.2.2.2.2.1, x0.2.2.2.2.2.2.2.2.2.2.2.2.2.2.2.2.2.2.2.2.2.2.2.2.2.2.1, x0.2.2.2.2.2.2.2.2.2.2.2.2.2.2.2.2.2.2.2.2.2.2.2.2.2.2.2.1, x0.2.2.2.2.2.2.2.2.2.2.2.2.2.2.2.2.2.2.2.2.2.2.2.2.2.2.2.2.1, x0.2.2.2.2.2.2.2.2.2.2.2.2.2.2.2.2.2.2.2.2.2.2.2.2.2.2.2.2.2.1, x0.2.2.2.2.2.2.2.2.2.2.2.2.2.2.2.2.2.2.2.2.2.2.2.2.2.2.2.2.2.2.1, x0.2.2.2.2.2.2.2.2.2.2.2.2.2.2.2.2.2.2.2.2.2.2.2.2.2.2.2.2.2.2.2.1, x0.2.2.2.2.2.2.2.2.2.2.2.2.2.2.2.2.2.2.2.2.2.2.2.2.2.2.2.2.2.2.2.2.1, x0.2.2.2.2.2.2.2.2.2.2.2.2.2.2.2.2.2.2.2.2.2.2.2.2.2.2.2.2.2.2.2.2.2.1)).bind fun y2 =>
    (laws_toSigned x0.2.2.2.2.2.2.2.2.2.2.2.2.2.2.2.2.2.2.2.2.2.2.2.2.2.2.2.2.2.2.2.2.2.2).bind fun y3 =>
      some (y1.1, y1.2.1, y1.2.2.1, y1.2.2.2.1, y1.2.2.2.2.1, y1.2.2.2.2.2.1, y1.2.2.2.2.2.2.1, y1.2.2.2.2.2.2.2.1, y1.2.2.2.2.2.2.2.2.1, y1.2.2.2.2.2.2.2.2.2.1, y1.2.2.2.2.2.2.2.2.2.2.1, y1.2.2.2.2.2.2.2.2.2.2.2.1, y1.2.2.2.2.2.2.2.2.2.2.2.2.1, y1.2.2.2.2.2.2.2.2.2.2.2.2.2.1, y1.2.2.2.2.2.2.2.2.2.2.2.2.2.2.1, y1.2.2.2.2.2.2.2.2.2.2.2.2.2.2.2.1, y1.2.2.2.2.2.2.2.2.2.2.2.2.2.2.2.2, y2.1, y2.2.1, y2.2.2.1, y2.2.2.2.1, y2.2.2.2.2.1, y2.2.2.2.2.2.1, y2.2.2.2.2.2.2.1, y2.2.2.2.2.2.2.2.1, y2.2.2.2.2.2.2.2.2.1, y2.2.2.2.2.2.2.2.2.2.1, y2.2.2.2.2.2.2.2.2.2.2.1, y2.2.2.2.2.2.2.2.2.2.2.2.1, y2.2.2.2.2.2.2.2.2.2.2.2.2.1, y2.2.2.2.2.2.2.2.2.2.2.2.2.2.1, y2.2.2.2.2.2.2.2.2.2.2.2.2.2.2.1, y2.2.2.2.2.2.2.2.2.2.2.2.2.2.2.2.1, y2.2.2.2.2.2.2.2.2.2.2.2.2.2.2.2.2, y3.1, y3.2.1, y3.2.2.1, y3.2.2.2.1, y3.2.2.2.2.1, y3.2.2.2.2.2.1, y3.2.2.2.2.2.2.1, y3.2.2.2.2.2.2.2.1, y3.2.2.2.2.2.2.2.2.1, y3.2.2.2.2.2.2.2.2.2.1, y3.2.2.2.2.2.2.2.2.2.2.1, y3.2.2.2.2.2.2.2.2.2.2.2.1, y3.2.2.2.2.2.2.2.2.2.2.2.2.1, y3.2.2.2.2.2.2.2.2.2.2.2.2.2.1, y3.2.2.2.2.2.2.2.2.2.2.2.2.2.2.1, y3.2.2.2.2.2.2.2.2.2.2.2.2.2.2.2.1, y3.2.2.2.2.2.2.2.2.2.2.2.2.2.2.2.2)
noncomputable abbrev laws_toForkS.g6 (x0 : List TFork) (r6 : Int → (List TFork) → Option (List TFork)) (v6_1 : Int) (v6_2 : List TFork) : Option (List TFork) :=
  bif decide (v6_1 < (x0.length : Int)) then
  bif decide (0 ≤ v6_1) then
    bif decide (v6_1 < (x0.length : Int)) then
      (laws_toFork (x0.getD v6_1.toNat dFork)).bind fun y1 =>
        bif decide (0 ≤ v6_1) then
          bif decide (v6_1 < (v6_2.length : Int)) then
            r6 (IntKind.i64.wrap (v6_1 + (1 : Int))) (v6_2.set v6_1.toNat y1)
          else none
        else none
    else none
  else none
else some v6_2
noncomputable def laws_toForkS.l6 (x0 : List TFork) (n : Nat) : Int → (List TFork) → Option (List TFork) :=
  V.iter (fun (r6 : Int → (List TFork) → Option (List TFork)) => fun v6_1 v6_2 => laws_toForkS.g6 x0 r6 v6_1 v6_2) (fun _ _ => none) n
theorem laws_toForkS.u6 (x0 : List TFork) (n : Nat) (v6_1 : Int) (v6_2 : List TFork) : laws_toForkS.l6 x0 (n + 1) v6_1 v6_2 = laws_toForkS.g6 x0 (laws_toForkS.l6 x0 n) v6_1 v6_2 := rfl
noncomputable abbrev laws_toForkS.b (x0 : List TFork) (L6 : Int → (List TFork) → Option (List TFork)) : Option (List TFork) :=
  bif ((x0.length : Int) == (x0.length : Int)) then
  bif decide (0 ≤ (x0.length : Int)) then
    bif decide ((x0.length : Int) < (68719476736 : Int)) then
      L6 (0 : Int) (List.replicate ((x0.length : Int).toNat) dFork)
    else none
  else none
else none
noncomputable def laws_toForkS (x0 : List TFork) : Option (List TFork) :=
  laws_toForkS.b x0 (laws_toForkS.l6 x0 V.KK)
noncomputable def laws_toKnown (x0 : TKnown) : Option TKnown :=
  (laws_toSignedSS x0.1).bind fun y1 =>
  (laws_toForkS x0.2).bind fun y2 =>
    some (y1, y2)
noncomputable abbrev laws_toStringS.g6 (x0 : List ByteArray) (r6 : Int → (List ByteArray) → Option (List ByteArray)) (v6_1 : Int) (v6_2 : List ByteArray) : Option (List ByteArray) :=
  bif decide (v6_1 < (x0.length : Int)) then
  bif decide (0 ≤ v6_1) then
    bif decide (v6_1 < (x0.length : Int)) then
      bif decide (0 ≤ v6_1) then
        bif decide (v6_1 < (v6_2.length : Int)) then
          r6 (IntKind.i64.wrap (v6_1 + (1 : Int))) (v6_2.set v6_1.toNat (x0.getD v6_1.toNat (⟨#[]⟩ : ByteArray)))
        else none
      else none
    else none
  else none
else some v6_2
noncomputable def laws_toStringS.l6 (x0 : List ByteArray) (n : Nat) : Int → (List ByteArray) → Option (List ByteArray) :=
  V.iter (fun (r6 : Int → (List ByteArray) → Option (List ByteArray)) => fun v6_1 v6_2 => laws_toStringS.g6 x0 r6 v6_1 v6_2) (fun _ _ => none) n
theorem laws_toStringS.u6 (x0 : List ByteArray) (n : Nat) (v6_1 : Int) (v6_2 : List ByteArray) : laws_toStringS.l6 x0 (n + 1) v6_1 v6_2 = laws_toStringS.g6 x0 (laws_toStringS.l6 x0 n) v6_1 v6_2 := rfl
noncomputable abbrev laws_toStringS.b (x0 : List ByteArray) (L6 : Int → (List ByteArray) → Option (List ByteArray)) : Option (List ByteArray) :=
  bif ((x0.length : Int) == (x0.length : Int)) then
  bif decide (0 ≤ (x0.length : Int)) then
    bif decide ((x0.length : Int) < (68719476736 : Int)) then
      L6 (0 : Int) (List.replicate ((x0.length : Int).toNat) (⟨#[]⟩ : ByteArray))
    else none
  else none
else none
noncomputable def laws_toStringS (x0 : List ByteArray) : Option (List ByteArray) :=
  laws_toStringS.b x0 (laws_toStringS.l6 x0 V.KK)
noncomputable def laws_toEntry (x0 : TEntry) : Option TEntry :=
  (laws_toStringS x0.2.2.2).bind fun y1 =>
  some (x0.1, x0.2.1, x0.2.2.1, y1)
noncomputable def laws_toLook (x0 : TLook) : Option TLook :=
  (laws_toKnown (x0.1, x0.2.1)).bind fun y1 =>
  (laws_toEntry (x0.2.2.2.1, x0.2.2.2.2.1, x0.2.2.2.2.2.1, x0.2.2.2.2.2.2.1)).bind fun y2 =>
    (laws_toIntS x0.2.2.2.2.2.2.2.2).bind fun y3 =>
      some (y1.1, y1.2, x0.2.2.1, y2.1, y2.2.1, y2.2.2.1, y2.2.2.2, x0.2.2.2.2.2.2.2.1, y3)
noncomputable abbrev spec_CountCode.g6 (x0 : TLook) (x1 : Int) (r6 : Int → Int → Option Int) (v6_1 : Int) (v6_2 : Int) : Option Int :=
  bif decide (v6_2 < (x0.2.2.2.2.2.2.2.2.length : Int)) then
  bif decide (0 ≤ v6_2) then
    bif decide (v6_2 < (x0.2.2.2.2.2.2.2.2.length : Int)) then
      bif (x0.2.2.2.2.2.2.2.2.getD v6_2.toNat (0 : Int)) == x1 then
        r6 (IntKind.i64.wrap (v6_1 + (1 : Int))) (IntKind.i64.wrap (v6_2 + (1 : Int)))
      else r6 v6_1 (IntKind.i64.wrap (v6_2 + (1 : Int)))
    else none
  else none
else some v6_1
noncomputable def spec_CountCode.l6 (x0 : TLook) (x1 : Int) (n : Nat) : Int → Int → Option Int :=
  V.iter (fun (r6 : Int → Int → Option Int) => fun v6_1 v6_2 => spec_CountCode.g6 x0 x1 r6 v6_1 v6_2) (fun _ _ => none) n
theorem spec_CountCode.u6 (x0 : TLook) (x1 : Int) (n : Nat) (v6_1 : Int) (v6_2 : Int) : spec_CountCode.l6 x0 x1 (n + 1) v6_1 v6_2 = spec_CountCode.g6 x0 x1 (spec_CountCode.l6 x0 x1 n) v6_1 v6_2 := rfl
noncomputable abbrev spec_CountCode.b (x0 : TLook) (x1 : Int) (L6 : Int → Int → Option Int) : Option Int :=
  L6 (0 : Int) (0 : Int)
noncomputable def spec_CountCode (x0 : TLook) (x1 : Int) : Option Int :=
  spec_CountCode.b x0 x1 (spec_CountCode.l6 x0 x1 V.KK)
noncomputable def impl_bit (x0 : Bool) : Option Int :=
  bif x0 then
  some (1 : Int)
else some (0 : Int)
noncomputable abbrev impl_CountCode.g6 (x0 : TLook) (x1 : Int) (r6 : Int → Int → Int → Option Int) (v6_1 : Int) (v6_3 : Int) (v6_4 : Int) : Option Int :=
  bif decide (v6_4 < v6_3) then
  bif decide (0 ≤ v6_4) then
    bif decide (v6_4 < (x0.2.2.2.2.2.2.2.2.length : Int)) then
      (impl_bit ((x0.2.2.2.2.2.2.2.2.getD v6_4.toNat (0 : Int)) == x1)).bind fun y1 =>
        r6 (IntKind.i64.wrap (v6_1 + y1)) v6_3 (IntKind.i64.wrap (v6_4 + (1 : Int)))
    else none
  else none
else some v6_1
noncomputable def impl_CountCode.l6 (x0 : TLook) (x1 : Int) (n : Nat) : Int → Int → Int → Option Int :=
  V.iter (fun (r6 : Int → Int → Int → Option Int) => fun v6_1 v6_3 v6_4 => impl_CountCode.g6 x0 x1 r6 v6_1 v6_3 v6_4) (fun _ _ _ => none) n
theorem impl_CountCode.u6 (x0 : TLook) (x1 : Int) (n : Nat) (v6_1 : Int) (v6_3 : Int) (v6_4 : Int) : impl_CountCode.l6 x0 x1 (n + 1) v6_1 v6_3 v6_4 = impl_CountCode.g6 x0 x1 (impl_CountCode.l6 x0 x1 n) v6_1 v6_3 v6_4 := rfl
noncomputable abbrev impl_CountCode.b (x0 : TLook) (x1 : Int) (L6 : Int → Int → Int → Option Int) : Option Int :=
  L6 (0 : Int) (x0.2.2.2.2.2.2.2.2.length : Int) (0 : Int)
noncomputable def impl_CountCode (x0 : TLook) (x1 : Int) : Option Int :=
  impl_CountCode.b x0 x1 (impl_CountCode.l6 x0 x1 V.KK)
noncomputable abbrev laws_eqIntS.g8 (x0 : List Int) (x1 : List Int) (r8 : Int → Option Bool) (v8_2 : Int) : Option Bool :=
  bif decide (v8_2 < (x0.length : Int)) then
  bif decide (0 ≤ v8_2) then
    bif decide (v8_2 < (x0.length : Int)) then
      bif decide (0 ≤ v8_2) then
        bif decide (v8_2 < (x1.length : Int)) then
          bif (x0.getD v8_2.toNat (0 : Int)) != (x1.getD v8_2.toNat (0 : Int)) then
            some false
          else r8 (IntKind.i64.wrap (v8_2 + (1 : Int)))
        else none
      else none
    else none
  else none
else some true
noncomputable def laws_eqIntS.l8 (x0 : List Int) (x1 : List Int) (n : Nat) : Int → Option Bool :=
  V.iter (fun (r8 : Int → Option Bool) => fun v8_2 => laws_eqIntS.g8 x0 x1 r8 v8_2) (fun _ => none) n
theorem laws_eqIntS.u8 (x0 : List Int) (x1 : List Int) (n : Nat) (v8_2 : Int) : laws_eqIntS.l8 x0 x1 (n + 1) v8_2 = laws_eqIntS.g8 x0 x1 (laws_eqIntS.l8 x0 x1 n) v8_2 := rfl
noncomputable abbrev laws_eqIntS.b (x0 : List Int) (x1 : List Int) (L8 : Int → Option Bool) : Option Bool :=
  bif (x0.length : Int) != (x1.length : Int) then
  some false
else L8 (0 : Int)
noncomputable def laws_eqIntS (x0 : List Int) (x1 : List Int) : Option Bool :=
  laws_eqIntS.b x0 x1 (laws_eqIntS.l8 x0 x1 V.KK)
noncomputable def laws_eqKeys (x0 : TKeys) (x1 : TKeys) : Option Bool :=
  (laws_eqIntS x0.1 x1.1).bind fun y1 =>
  bif !y1 then
    some false
  else
    bif x0.2 != x1.2 then
      some false
    else some true
noncomputable def laws_eqHead (x0 : THead) (x1 : THead) : Option Bool :=
  bif x0.1 != x1.1 then
  some false
else
  bif x0.2.1 != x1.2.1 then
    some false
  else
    bif x0.2.2.1 != x1.2.2.1 then
      some false
    else
      bif x0.2.2.2.1 != x1.2.2.2.1 then
        some false
      else
        bif x0.2.2.2.2.1 != x1.2.2.2.2.1 then
          some false
        else
          bif x0.2.2.2.2.2.1 != x1.2.2.2.2.2.1 then
            some false
          else
            bif x0.2.2.2.2.2.2.1 != x1.2.2.2.2.2.2.1 then
              some false
            else
              bif x0.2.2.2.2.2.2.2.1 != x1.2.2.2.2.2.2.2.1 then
                some false
              else
                (laws_eqKeys (x0.2.2.2.2.2.2.2.2.1, x0.2.2.2.2.2.2.2.2.2.1) (x1.2.2.2.2.2.2.2.2.1, x1.2.2.2.2.2.2.2.2.2.1)).bind fun y1 =>
                  bif !y1 then
                    some false
                  else
                    (laws_eqKeys (x0.2.2.2.2.2.2.2.2.2.2.1, x0.2.2.2.2.2.2.2.2.2.2.2.1) (x1.2.2.2.2.2.2.2.2.2.2.1, x1.2.2.2.2.2.2.2.2.2.2.2.1)).bind fun y2 =>
                      bif !y2 then
                        some false
                      else
                        bif x0.2.2.2.2.2.2.2.2.2.2.2.2.1 != x1.2.2.2.2.2.2.2.2.2.2.2.2.1 then
                          some false
                        else
                          (laws_eqKeys (x0.2.2.2.2.2.2.2.2.2.2.2.2.2.1, x0.2.2.2.2.2.2.2.2.2.2.2.2.2.2.1) (x1.2.2.2.2.2.2.2.2.2.2.2.2.2.1, x1.2.2.2.2.2.2.2.2.2.2.2.2.2.2.1)).bind fun y3 =>
                            bif !y3 then
                              some false
                            else
                              bif !(x0.2.2.2.2.2.2.2.2.2.2.2.2.2.2.2 == x1.2.2.2.2.2.2.2.2.2.2.2.2.2.2.2) then
                                some false
                              else some true
noncomputable def laws_eqSig (x0 : TSig) (x1 : TSig) : Option Bool :=
  bif x0.1 != x1.1 then
  some false
else
  bif x0.2 != x1.2 then
    some false
  else some true
noncomputable abbrev laws_eqSigS.g8 (x0 : List TSig) (x1 : List TSig) (r8 : Int → Option Bool) (v8_2 : Int) : Option Bool :=
  bif decide (v8_2 < (x0.length : Int)) then
  bif decide (0 ≤ v8_2) then
    bif decide (v8_2 < (x0.length : Int)) then
      bif decide (0 ≤ v8_2) then
        bif decide (v8_2 < (x1.length : Int)) then
          (laws_eqSig (x0.getD v8_2.toNat dSig) (x1.getD v8_2.toNat dSig)).bind fun y1 =>
            bif !y1 then
              some false
            else r8 (IntKind.i64.wrap (v8_2 + (1 : Int)))
        else none
      else none
    else none
  else none
else some true
noncomputable def laws_eqSigS.l8 (x0 : List TSig) (x1 : List TSig) (n : Nat) : Int → Option Bool :=
  V.iter (fun (r8 : Int → Option Bool) => fun v8_2 => laws_eqSigS.g8 x0 x1 r8 v8_2) (fun _ => none) n
theorem laws_eqSigS.u8 (x0 : List TSig) (x1 : List TSig) (n : Nat) (v8_2 : Int) : laws_eqSigS.l8 x0 x1 (n + 1) v8_2 = laws_eqSigS.g8 x0 x1 (laws_eqSigS.l8 x0 x1 n) v8_2 := rfl
noncomputable abbrev laws_eqSigS.b (x0 : List TSig) (x1 : List TSig) (L8 : Int → Option Bool) : Option Bool :=
  bif (x0.length : Int) != (x1.length : Int) then
  some false
else L8 (0 : Int)
noncomputable def laws_eqSigS (x0 : List TSig) (x1 : List TSig) : Option Bool :=
  laws_eqSigS.b x0 x1 (laws_eqSigS.l8 x0 x1 V.KK)
noncomputable def laws_eqSigned (x0 : TSigned) (x1 : TSigned) : Option Bool :=
  (laws_eqHead (x0.1, x0.2.1, x0.2.2.1, x0.2.2.2.1, x0.2.2.2.2.1, x0.2.2.2.2.2.1, x0.2.2.2.2.2.2.1, x0.2.2.2.2.2.2.2.1, x0.2.2.2.2.2.2.2.2.1, x0.2.2.2.2.2.2.2.2.2.1, x0.2.2.2.2.2.2.2.2.2.2.1, x0.2.2.2.2.2.2.2.2.2.2.2.1, x0.2.2.2.2.2.2.2.2.2.2.2.2.1, x0.2.2.2.2.2.2.2.2.2.2.2.2.2.1, x0.2.2.2.2.2.2.2.2.2.2.2.2.2.2.1, x0.2.2.2.2.2.2.2.2.2.2.2.2.2.2.2.1) (x1.1, x1.2.1, x1.2.2.1, x1.2.2.2.1, x1.2.2.2.2.1, x1.2.2.2.2.2.1, x1.2.2.2.2.2.2.1, x1.2.2.2.2.2.2.2.1, x1.2.2.2.2.2.2.2.2.1, x1.2.2.2.2.2.2.2.2.2.1, x1.2.2.2.2.2.2.2.2.2.2.1, x1.2.2.2.2.2.2.2.2.2.2.2.1, x1.2.2.2.2.2.2.2.2.2.2.2.2.1, x1.2.2.2.2.2.2.2.2.2.2.2.2.2.1, x1.2.2.2.2.2.2.2.2.2.2.2.2.2.2.1, x1.2.2.2.2.2.2.2.2.2.2.2.2.2.2.2.1)).bind fun y1 =>
  bif !y1 then
    some false
  else
    (laws_eqSigS x0.2.2.2.2.2.2.2.2.2.2.2.2.2.2.2.2 x1.2.2.2.2.2.2.2.2.2.2.2.2.2.2.2.2).bind fun y2 =>
      bif !y2 then
        some false
      else some true
noncomputable abbrev laws_eqSignedS.g8 (x0 : List TSigned) (x1 : List TSigned) (r8 : Int → Option Bool) (v8_2 : Int) : Option Bool :=
  bif decide (v8_2 < (x0.length : Int)) then
  bif decide (0 ≤ v8_2) then
    bif decide (v8_2 < (x0.length : Int)) then
      bif decide (0 ≤ v8_2) then
        bif decide (v8_2 < (x1.length : Int)) then
          (laws_eqSigned (x0.getD v8_2.toNat dSigned) (x1.getD v8_2.toNat dSigned)).bind fun y1 =>
            bif !y1 then
              some false
            else r8 (IntKind.i64.wrap (v8_2 + (1 : Int)))
        else none
      else none
    else none
  else none
else some true
noncomputable def laws_eqSignedS.l8 (x0 : List TSigned) (x1 : List TSigned) (n : Nat) : Int → Option Bool :=
  V.iter (fun (r8 : Int → Option Bool) => fun v8_2 => laws_eqSignedS.g8 x0 x1 r8 v8_2) (fun _ => none) n
theorem laws_eqSignedS.u8 (x0 : List TSigned) (x1 : List TSigned) (n : Nat) (v8_2 : Int) : laws_eqSignedS.l8 x0 x1 (n + 1) v8_2 = laws_eqSignedS.g8 x0 x1 (laws_eqSignedS.l8 x0 x1 n) v8_2 := rfl
noncomputable abbrev laws_eqSignedS.b (x0 : List TSigned) (x1 : List TSigned) (L8 : Int → Option Bool) : Option Bool :=
  bif (x0.length : Int) != (x1.length : Int) then
  some false
else L8 (0 : Int)
noncomputable def laws_eqSignedS (x0 : List TSigned) (x1 : List TSigned) : Option Bool :=
  laws_eqSignedS.b x0 x1 (laws_eqSignedS.l8 x0 x1 V.KK)
noncomputable abbrev laws_eqSignedSS.g8 (x0 : List (List TSigned)) (x1 : List (List TSigned)) (r8 : Int → Option Bool) (v8_2 : Int) : Option Bool :=
  bif decide (v8_2 < (x0.length : Int)) then
  bif decide (0 ≤ v8_2) then
    bif decide (v8_2 < (x0.length : Int)) then
      bif decide (0 ≤ v8_2) then
        bif decide (v8_2 < (x1.length : Int)) then
          (laws_eqSignedS (x0.getD v8_2.toNat []) (x1.getD v8_2.toNat [])).bind fun y1 =>
            bif !y1 then
              some false
            else r8 (IntKind.i64.wrap (v8_2 + (1 : Int)))
        else none
      else none
    else none
  else none
else some true
noncomputable def laws_eqSignedSS.l8 (x0 : List (List TSigned)) (x1 : List (List TSigned)) (n : Nat) : Int → Option Bool :=
  V.iter (fun (r8 : Int → Option Bool) => fun v8_2 => laws_eqSignedSS.g8 x0 x1 r8 v8_2) (fun _ => none) n
theorem laws_eqSignedSS.u8 (x0 : List (List TSigned)) (x1 : List (List TSigned)) (n : Nat) (v8_2 : Int) : laws_eqSignedSS.l8 x0 x1 (n + 1) v8_2 = laws_eqSignedSS.g8 x0 x1 (laws_eqSignedSS.l8 x0 x1 n) v8_2 := rfl
noncomputable abbrev laws_eqSignedSS.b (x0 : List (List TSigned)) (x1 : List (List TSigned)) (L8 : Int → Option Bool) : Option Bool :=
  bif (x0.length : Int) != (x1.length : Int) then
  some false
else L8 (0 : Int)
noncomputable def laws_eqSignedSS (x0 : List (List TSigned)) (x1 : List (List TSigned)) : Option Bool :=
  laws_eqSignedSS.b x0 x1 (laws_eqSignedSS.l8 x0 x1 V.KK)
noncomputable def laws_eqFork (x0 : TFork) (x1 : TFork) : Option Bool :=
  (laws_eqSigned (x0.1, x0.2.1, x0.2.2.1, x0.2.2.2.1, x0.2.2.2.2.1, x0.2.2.2.2.2.1, x0.2.2.2.2.2.2.1, x0.2.2.2.2.2.2.2.1, x0.2.2.2.2.2.2.2.2.1, x0.2.2.2.2.2.2.2.2.2.1, x0.2.2.2.2.2.2.2.2.2.2.1, x0.2.2.2.2.2.2.2.2.2.2.2.1, x0.2.2.2.2.2.2.2.2.2.2.2.2.1, x0.2.2.2.2.2.2.2.2.2.2.2.2.2.1, x0.2.2.2.2.2.2.2.2.2.2.2.2.2.2.1, x0.2.2.2.2.2.2.2.2.2.2.2.2.2.2.2.1, x0.2.2.2.2.2.2.2.2.2.2.2.2.2.2.2.2.1) (x1.1, x1.2.1, x1.2.2.1, x1.2.2.2.1, x1.2.2.2.2.1, x1.2.2.2.2.2.1, x1.2.2.2.2.2.2.1, x1.2.2.2.2.2.2.2.1, x1.2.2.2.2.2.2.2.2.1, x1.2.2.2.2.2.2.2.2.2.1, x1.2.2.2.2.2.2.2.2.2.2.1, x1.2.2.2.2.2.2.2.2.2.2.2.1, x1.2.2.2.2.2.2.2.2.2.2.2.2.1, x1.2.2.2.2.2.2.2.2.2.2.2.2.2.1, x1.2.2.2.2.2.2.2.2.2.2.2.2.2.2.1, x1.2.2.2.2.2.2.2.2.2.2.2.2.2.2.2.1, x1.2.2.2.2.2.2.2.2.2.2.2.2.2.2.2.2.1)).bind fun y1 =>
  bif !y1 then
    some false
  else
    (laws_eqSigned (x0.2.2.2.2.2.2.2.2.2.2.2.2.2.2.2.2.2.1, x0.2.2.2.2.2.2.2.2.2.2.2.2.2.2.2.2.2.2.1, x0.2.2.2.2.2.2.2.2.2.2.2.2.2.2.2.2.2.2.2.1, x0.2.2.2.2.2.2.2.2.2.2.2.2.2.2.2.2.2.2.2.2.1, x0.2.2.2.2.2.2.2.2.2.2.2.2.2.2.2.2.2.2.2.2.2.1, x0.2.2.2.2.2.2.2.2.2.2.2.2.2.2.2.2.2.2.2.2.2.2.1, x0.2.2.2.2.2.2.2.2.2.2.2.2.2.2.2.2.2.2.2.2.2.2.2.1, x0.2.2.2.2.2.2.2.2.2.2.2.2.2.2.2.2.2.2.2.2.2.2.2.2.1, x0.2.2.2.2.2.2.2.2.2.2.2.2.2.2.2.2.2.2.2.2.2.2.2.2.2.1, x0.2.2.2.2.2.2.2.2.2.2.2.2.2.2.2.2.2.2.2.2.2.2.2.2.2.2.1, x0.2.2.2.2.2.2.2.2.2.2.2.2.2.2.2.2.2.2.2.2.2.2.2.2.2.2.2.1, x0.2.2.2.2.2.2.2.2.2.2.2.2.2.2.2.2.2.2.2.2.2.2.2.2.2.2.2.2.1, x0.2.2.2.2.2.2.2.2.2.2.2.2.2.2.2.2.2.2.2.2.2.2.2.2.2.2.2.2.2.1, x0.2.2.2.2.2.2.2.2.2.2.2.2.2.2.2.2.2.2.2.2.2.2.2.2.2.2.2.2.2.2.1, x0.2.2.2.2.2.2.2.2.2.2.2.2.2.2.2.2.2.2.2.2.2.2.2.2.2.2.2.2.2.2.2.1, x0.2.2.2.2.2.2.2.2.2.2.2.2.2.2.2.2.2.2.2.2.2.2.2.2.2.2.2.2.2.2.2.2.1, x0.2.2.2.2.2.2.2.2.2.2.2.2.2.2.2.2.2.2.2.2.2.2.2.2.2.2.2.2.2.2.2.2.2.1) (x1.2.2.2.2.2.2.2.2.2.2.2.2.2.2.2.2.2.1, x1.2.2.2.2.2.2.2.2.2.2.2.2.2.2.2.2.2.2.1, x1.2.2.2.2.2.2.2.2.2.2.2.2.2.2.2.2.2.2.2.1, x1.2.2.2.2.2.2.2.2.2.2.2.2.2.2.2.2.2.2.2.2.1, x1.2.2.2.2.2.2.2.2.2.2.2.2.2.2.2.2.2.2.2.2.2.1, x1.2.2.2.2.2.2.2.2.2.2.2.2.2.2.2.2.2.2.2.2.2.2.1, x1.2.2.2.2.2.2.2.2.2.2.2.2.2.2.2.2.2.2.2.2.2.2.2.1, x1.2.2.2.2.2.2.2.2.2.2.2.2.2.2.2.2.2.2.2.2.2.2.2.2.1, x1.2.2.2.2.2.2.2.2.2.2.2.2.2.2.2.2.2.2.2.2.2.2.2.2.2.1, x1.2.2.2.2.2.2.2.2.2.2.2.2.2.2.2.2.2.2.2.2.2.2.2.2.2.2.1, x1.2.2.2.2.2.2.2.2.2.2.2.2.2.2.2.2.2.2.2.2.2.2.2.2.2.2.2.1, x1.2.2.2.2.2.2.2.2.2.2.2.2.2.2.2.2.2.2.2.2.2.2.2.2.2.2.2.2.1, x1.2.2.2.2.2.2.2.2.2.2.2.2.2.2.2.2.2.2.2.2.2.2.2.2.2.2.2.2.2.1, x1.2.2.2.2.2.2.2.2.2.2.2.2.2.2.2.2.2.2.2.2.2.2.2.2.2.2.2.2.2.2.1, x1.2.2.2.2.2.2.2.2.2.2.2.2.2.2.2.2.2.2.2.2.2.2.2.2.2.2.2.2.2.2.2.1, x1.2.2.2.2.2.2.2.2.2.2.2.2.2.2.2.2.2.2.2.2.2.2.2.2.2.2.2.2.2.2.2.2.1, x1.2.2.2.2.2.2.2.2.2.2.2.2.2.2.2.2.2.2.2.2.2.2.2.2.2.2.2.2.2.2.2.2.2.1)).bind fun y2 =>
      bif !y2 then
        some false
      else
        (laws_eqSigned x0.2.2.2.2.2.2.2.2.2.2.2.2.2.2.2.2.2.2.2.2.2.2.2.2.2.2.2.2.2.2.2.2.2.2 x1.2.2.2.2.2.2.2.2.2.2.2.2.2.2.2.2.2.2.2.2.2.2.2.2.2.2.2.2.2.2.2.2.2.2).bind fun y3 =>
          bif !y3 then
            some false
          else some true
noncomputable abbrev laws_eqForkS.g8 (x0 : List TFork) (x1 : List TFork) (r8 : Int → Option Bool) (v8_2 : Int) : Option Bool :=
  bif decide (v8_2 < (x0.length : Int)) then
  bif decide (0 ≤ v8_2) then
    bif decide (v8_2 < (x0.length : Int)) then
      bif decide (0 ≤ v8_2) then
        bif decide (v8_2 < (x1.length : Int)) then
          (laws_eqFork (x0.getD v8_2.toNat dFork) (x1.getD v8_2.toNat dFork)).bind fun y1 =>
            bif !y1 then
              some false
            else r8 (IntKind.i64.wrap (v8_2 + (1 : Int)))
        else none
      else none
    else none
  else none
else some true
noncomputable def laws_eqForkS.l8 (x0 : List TFork) (x1 : List TFork) (n : Nat) : Int → Option Bool :=
  V.iter (fun (r8 : Int → Option Bool) => fun v8_2 => laws_eqForkS.g8 x0 x1 r8 v8_2) (fun _ => none) n
theorem laws_eqForkS.u8 (x0 : List TFork) (x1 : List TFork) (n : Nat) (v8_2 : Int) : laws_eqForkS.l8 x0 x1 (n + 1) v8_2 = laws_eqForkS.g8 x0 x1 (laws_eqForkS.l8 x0 x1 n) v8_2 := rfl
noncomputable abbrev laws_eqForkS.b (x0 : List TFork) (x1 : List TFork) (L8 : Int → Option Bool) : Option Bool :=
  bif (x0.length : Int) != (x1.length : Int) then
  some false
else L8 (0 : Int)
noncomputable def laws_eqForkS (x0 : List TFork) (x1 : List TFork) : Option Bool :=
  laws_eqForkS.b x0 x1 (laws_eqForkS.l8 x0 x1 V.KK)
noncomputable def laws_eqKnown (x0 : TKnown) (x1 : TKnown) : Option Bool :=
  (laws_eqSignedSS x0.1 x1.1).bind fun y1 =>
  bif !y1 then
    some false
  else
    (laws_eqForkS x0.2 x1.2).bind fun y2 =>
      bif !y2 then
        some false
      else some true
noncomputable abbrev laws_eqStringS.g8 (x0 : List ByteArray) (x1 : List ByteArray) (r8 : Int → Option Bool) (v8_2 : Int) : Option Bool :=
  bif decide (v8_2 < (x0.length : Int)) then
  bif decide (0 ≤ v8_2) then
    bif decide (v8_2 < (x0.length : Int)) then
      bif decide (0 ≤ v8_2) then
        bif decide (v8_2 < (x1.length : Int)) then
          bif !((x0.getD v8_2.toNat (⟨#[]⟩ : ByteArray)).toList == (x1.getD v8_2.toNat (⟨#[]⟩ : ByteArray)).toList) then
            some false
          else r8 (IntKind.i64.wrap (v8_2 + (1 : Int)))
        else none
      else none
    else none
  else none
else some true
noncomputable def laws_eqStringS.l8 (x0 : List ByteArray) (x1 : List ByteArray) (n : Nat) : Int → Option Bool :=
  V.iter (fun (r8 : Int → Option Bool) => fun v8_2 => laws_eqStringS.g8 x0 x1 r8 v8_2) (fun _ => none) n
theorem laws_eqStringS.u8 (x0 : List ByteArray) (x1 : List ByteArray) (n : Nat) (v8_2 : Int) : laws_eqStringS.l8 x0 x1 (n + 1) v8_2 = laws_eqStringS.g8 x0 x1 (laws_eqStringS.l8 x0 x1 n) v8_2 := rfl
noncomputable abbrev laws_eqStringS.b (x0 : List ByteArray) (x1 : List ByteArray) (L8 : Int → Option Bool) : Option Bool :=
  bif (x0.length : Int) != (x1.length : Int) then
  some false
else L8 (0 : Int)
noncomputable def laws_eqStringS (x0 : List ByteArray) (x1 : List ByteArray) : Option Bool :=
  laws_eqStringS.b x0 x1 (laws_eqStringS.l8 x0 x1 V.KK)
noncomputable def laws_eqEntry (x0 : TEntry) (x1 : TEntry) : Option Bool :=
  bif !(x0.1.toList == x1.1.toList) then
  some false
else
  bif x0.2.1 != x1.2.1 then
    some false
  else
    bif x0.2.2.1 != x1.2.2.1 then
      some false
    else
      (laws_eqStringS x0.2.2.2 x1.2.2.2).bind fun y1 =>
        bif !y1 then
          some false
        else some true
noncomputable def laws_eqLook (x0 : TLook) (x1 : TLook) : Option Bool :=
  (laws_eqKnown (x0.1, x0.2.1) (x1.1, x1.2.1)).bind fun y1 =>
  bif !y1 then
    some false
  else
    bif !(x0.2.2.1 == x1.2.2.1) then
      some false
    else
      (laws_eqEntry (x0.2.2.2.1, x0.2.2.2.2.1, x0.2.2.2.2.2.1, x0.2.2.2.2.2.2.1) (x1.2.2.2.1, x1.2.2.2.2.1, x1.2.2.2.2.2.1, x1.2.2.2.2.2.2.1)).bind fun y2 =>
        bif !y2 then
          some false
        else
          bif !(x0.2.2.2.2.2.2.2.1 == x1.2.2.2.2.2.2.2.1) then
            some false
          else
            (laws_eqIntS x0.2.2.2.2.2.2.2.2 x1.2.2.2.2.2.2.2.2).bind fun y3 =>
              bif !y3 then
                some false
              else some true
noncomputable def laws_FnExactCountCode (x0 : TLook) (x1 : Int) : Option Bool :=
  (laws_szLook x0 (1048576 : Int)).bind fun y1 =>
  bif decide (y1 < (0 : Int)) then
    some true
  else
    (laws_toLook x0).bind fun y2 =>
      (spec_CountCode y2 x1).bind fun y3 =>
        (laws_toLook x0).bind fun y4 =>
          (impl_CountCode y4 x1).bind fun y5 =>
            bif y5 != y3 then
              some false
            else
              (laws_toLook x0).bind fun y6 =>
                (laws_eqLook y4 y6).bind fun y7 =>
                  bif !y7 then
                    some false
                  else some true
end Go.Proofs.Ytmcdifdljjkkgaa
