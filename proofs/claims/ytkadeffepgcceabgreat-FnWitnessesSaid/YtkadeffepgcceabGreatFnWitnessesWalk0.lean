/- That the functions compute it. -/
import Derived.Test.YtkadeffepgcceabGreatFnWitnessesPure0
import Derived.Test.YtkadeffepgcceabGreatProg
namespace Go.Proofs.YtkadeffepgcceabGreat
set_option linter.unusedVariables false
set_option maxRecDepth 100000
namespace V
abbrev eEntry : ETy := (.cons .str (V.ci (V.ci (.cons (.sl (.cons .str .nil)) .nil))))
abbrev eFork : ETy := (V.ci (V.ci (V.ci (V.ci (V.ci (V.ci (V.ci (V.ci (.cons (.sl (V.ci .nil)) (V.ci (.cons (.sl (V.ci .nil)) (V.ci (V.ci (.cons (.sl (V.ci .nil)) (V.ci (.cons .bool (.cons (.sl (V.ci (V.ci .nil))) (V.ci (V.ci (V.ci (V.ci (V.ci (V.ci (V.ci (V.ci (.cons (.sl (V.ci .nil)) (V.ci (.cons (.sl (V.ci .nil)) (V.ci (V.ci (.cons (.sl (V.ci .nil)) (V.ci (.cons .bool (.cons (.sl (V.ci (V.ci .nil))) (V.ci (V.ci (V.ci (V.ci (V.ci (V.ci (V.ci (V.ci (.cons (.sl (V.ci .nil)) (V.ci (.cons (.sl (V.ci .nil)) (V.ci (V.ci (.cons (.sl (V.ci .nil)) (V.ci (.cons .bool (.cons (.sl (V.ci (V.ci .nil))) .nil)))))))))))))))))))))))))))))))))))))))))))))))))))
abbrev eHead : ETy := (V.ci (V.ci (V.ci (V.ci (V.ci (V.ci (V.ci (V.ci (.cons (.sl (V.ci .nil)) (V.ci (.cons (.sl (V.ci .nil)) (V.ci (V.ci (.cons (.sl (V.ci .nil)) (V.ci (.cons .bool .nil))))))))))))))))
abbrev eRForkBool : ETy := (V.ci (V.ci (V.ci (V.ci (V.ci (V.ci (V.ci (V.ci (.cons (.sl (V.ci .nil)) (V.ci (.cons (.sl (V.ci .nil)) (V.ci (V.ci (.cons (.sl (V.ci .nil)) (V.ci (.cons .bool (.cons (.sl (V.ci (V.ci .nil))) (V.ci (V.ci (V.ci (V.ci (V.ci (V.ci (V.ci (V.ci (.cons (.sl (V.ci .nil)) (V.ci (.cons (.sl (V.ci .nil)) (V.ci (V.ci (.cons (.sl (V.ci .nil)) (V.ci (.cons .bool (.cons (.sl (V.ci (V.ci .nil))) (V.ci (V.ci (V.ci (V.ci (V.ci (V.ci (V.ci (V.ci (.cons (.sl (V.ci .nil)) (V.ci (.cons (.sl (V.ci .nil)) (V.ci (V.ci (.cons (.sl (V.ci .nil)) (V.ci (.cons .bool (.cons (.sl (V.ci (V.ci .nil))) (.cons .bool .nil))))))))))))))))))))))))))))))))))))))))))))))))))))
abbrev eRHeadBool : ETy := (V.ci (V.ci (V.ci (V.ci (V.ci (V.ci (V.ci (V.ci (.cons (.sl (V.ci .nil)) (V.ci (.cons (.sl (V.ci .nil)) (V.ci (V.ci (.cons (.sl (V.ci .nil)) (V.ci (.cons .bool (.cons .bool .nil)))))))))))))))))
abbrev eRKeysHeadList : ETy := (.cons (.sl (V.ci .nil)) (V.ci (V.ci (V.ci (V.ci (V.ci (V.ci (V.ci (V.ci (V.ci (.cons (.sl (V.ci .nil)) (V.ci (.cons (.sl (V.ci .nil)) (V.ci (V.ci (.cons (.sl (V.ci .nil)) (V.ci (.cons .bool (.cons (.sl (V.ci (V.ci .nil))) .nil)))))))))))))))))))
abbrev eRWitnessSigBool : ETy := (V.ci (.cons (.sl (V.ci (V.ci (V.ci .nil)))) (V.ci (V.ci (.cons .bool .nil)))))
abbrev eSigned : ETy := (V.ci (V.ci (V.ci (V.ci (V.ci (V.ci (V.ci (V.ci (.cons (.sl (V.ci .nil)) (V.ci (.cons (.sl (V.ci .nil)) (V.ci (V.ci (.cons (.sl (V.ci .nil)) (V.ci (.cons .bool (.cons (.sl (V.ci (V.ci .nil))) .nil)))))))))))))))))
abbrev D0 : Type := Int × Int × Int × Int × Int × Int × Int × Int × List Int × Int × List Int × Int × Int × List Int × Int × Bool
abbrev A0 : ETy := eHead
abbrev fl0 (x0 : THead) : D0 := (x0.1, x0.2.1, x0.2.2.1, x0.2.2.2.1, x0.2.2.2.2.1, x0.2.2.2.2.2.1, x0.2.2.2.2.2.2.1, x0.2.2.2.2.2.2.2.1, x0.2.2.2.2.2.2.2.2.1, x0.2.2.2.2.2.2.2.2.2.1, x0.2.2.2.2.2.2.2.2.2.2.1, x0.2.2.2.2.2.2.2.2.2.2.2.1, x0.2.2.2.2.2.2.2.2.2.2.2.2.1, x0.2.2.2.2.2.2.2.2.2.2.2.2.2.1, x0.2.2.2.2.2.2.2.2.2.2.2.2.2.2.1, x0.2.2.2.2.2.2.2.2.2.2.2.2.2.2.2)
abbrev p0_0 (x : D0) : THead := x
abbrev D1 : Type := List Int × List Int × Int × Int × Int × Int × Int × Int × Int × Int × Int × List Int × Int × List Int × Int × Int × List Int × Int × Bool
abbrev A1 : ETy := (.cons (.sl (V.ci .nil)) (.cons (.sl (V.ci .nil)) (V.ci (V.ci (V.ci (V.ci (V.ci (V.ci (V.ci (V.ci (V.ci (.cons (.sl (V.ci .nil)) (V.ci (.cons (.sl (V.ci .nil)) (V.ci (V.ci (.cons (.sl (V.ci .nil)) (V.ci (.cons .bool .nil)))))))))))))))))))
abbrev fl1 (x0 : List Int) (x1 : TKeys) (x2 : THead) : D1 := (x0, x1.1, x1.2, x2.1, x2.2.1, x2.2.2.1, x2.2.2.2.1, x2.2.2.2.2.1, x2.2.2.2.2.2.1, x2.2.2.2.2.2.2.1, x2.2.2.2.2.2.2.2.1, x2.2.2.2.2.2.2.2.2.1, x2.2.2.2.2.2.2.2.2.2.1, x2.2.2.2.2.2.2.2.2.2.2.1, x2.2.2.2.2.2.2.2.2.2.2.2.1, x2.2.2.2.2.2.2.2.2.2.2.2.2.1, x2.2.2.2.2.2.2.2.2.2.2.2.2.2.1, x2.2.2.2.2.2.2.2.2.2.2.2.2.2.2.1, x2.2.2.2.2.2.2.2.2.2.2.2.2.2.2.2)
abbrev p1_0 (x : D1) : List Int := x.1
abbrev p1_1 (x : D1) : TKeys := (x.2.1, x.2.2.1)
abbrev p1_2 (x : D1) : THead := x.2.2.2
abbrev D2 : Type := (Tl1Cur) × Int × Int × Int × Int × Int × Int × Int × Int × List Int × Int × List Int × Int × Int × List Int × Int × Bool
abbrev A2 : ETy := (.cons (.ptr (.cons (.sl (.cons (.int .u8) .nil)) (V.ci (V.ci .nil)))) (V.ci (V.ci (V.ci (V.ci (V.ci (V.ci (V.ci (V.ci (.cons (.sl (V.ci .nil)) (V.ci (.cons (.sl (V.ci .nil)) (V.ci (V.ci (.cons (.sl (V.ci .nil)) (V.ci (.cons .bool .nil)))))))))))))))))
abbrev fl2 (x0 : (Tl1Cur)) (x1 : THead) : D2 := (x0, x1.1, x1.2.1, x1.2.2.1, x1.2.2.2.1, x1.2.2.2.2.1, x1.2.2.2.2.2.1, x1.2.2.2.2.2.2.1, x1.2.2.2.2.2.2.2.1, x1.2.2.2.2.2.2.2.2.1, x1.2.2.2.2.2.2.2.2.2.1, x1.2.2.2.2.2.2.2.2.2.2.1, x1.2.2.2.2.2.2.2.2.2.2.2.1, x1.2.2.2.2.2.2.2.2.2.2.2.2.1, x1.2.2.2.2.2.2.2.2.2.2.2.2.2.1, x1.2.2.2.2.2.2.2.2.2.2.2.2.2.2.1, x1.2.2.2.2.2.2.2.2.2.2.2.2.2.2.2)
abbrev p2_0 (x : D2) : (Tl1Cur) := x.1
abbrev p2_1 (x : D2) : THead := x.2
abbrev D3 : Type := Int × Int × Int × Int × Int × Int × Int × Int × List Int × Int × List Int × Int × Int × List Int × Int × Bool × List TSig
abbrev A3 : ETy := eSigned
abbrev fl3 (x0 : TSigned) : D3 := (x0.1, x0.2.1, x0.2.2.1, x0.2.2.2.1, x0.2.2.2.2.1, x0.2.2.2.2.2.1, x0.2.2.2.2.2.2.1, x0.2.2.2.2.2.2.2.1, x0.2.2.2.2.2.2.2.2.1, x0.2.2.2.2.2.2.2.2.2.1, x0.2.2.2.2.2.2.2.2.2.2.1, x0.2.2.2.2.2.2.2.2.2.2.2.1, x0.2.2.2.2.2.2.2.2.2.2.2.2.1, x0.2.2.2.2.2.2.2.2.2.2.2.2.2.1, x0.2.2.2.2.2.2.2.2.2.2.2.2.2.2.1, x0.2.2.2.2.2.2.2.2.2.2.2.2.2.2.2.1, x0.2.2.2.2.2.2.2.2.2.2.2.2.2.2.2.2)
abbrev p3_0 (x : D3) : TSigned := x
abbrev D4 : Type := Int × Int × Int × Int × Int × Int × Int × Int × List Int × Int × List Int × Int × Int × List Int × Int × Bool × Int × Int × Int × Int × Int × Int × Int × Int × List Int × Int × List Int × Int × Int × List Int × Int × Bool
abbrev A4 : ETy := (V.ci (V.ci (V.ci (V.ci (V.ci (V.ci (V.ci (V.ci (.cons (.sl (V.ci .nil)) (V.ci (.cons (.sl (V.ci .nil)) (V.ci (V.ci (.cons (.sl (V.ci .nil)) (V.ci (.cons .bool (V.ci (V.ci (V.ci (V.ci (V.ci (V.ci (V.ci (V.ci (.cons (.sl (V.ci .nil)) (V.ci (.cons (.sl (V.ci .nil)) (V.ci (V.ci (.cons (.sl (V.ci .nil)) (V.ci (.cons .bool .nil))))))))))))))))))))))))))))))))
abbrev fl4 (x0 : THead) (x1 : THead) : D4 := (x0.1, x0.2.1, x0.2.2.1, x0.2.2.2.1, x0.2.2.2.2.1, x0.2.2.2.2.2.1, x0.2.2.2.2.2.2.1, x0.2.2.2.2.2.2.2.1, x0.2.2.2.2.2.2.2.2.1, x0.2.2.2.2.2.2.2.2.2.1, x0.2.2.2.2.2.2.2.2.2.2.1, x0.2.2.2.2.2.2.2.2.2.2.2.1, x0.2.2.2.2.2.2.2.2.2.2.2.2.1, x0.2.2.2.2.2.2.2.2.2.2.2.2.2.1, x0.2.2.2.2.2.2.2.2.2.2.2.2.2.2.1, x0.2.2.2.2.2.2.2.2.2.2.2.2.2.2.2, x1.1, x1.2.1, x1.2.2.1, x1.2.2.2.1, x1.2.2.2.2.1, x1.2.2.2.2.2.1, x1.2.2.2.2.2.2.1, x1.2.2.2.2.2.2.2.1, x1.2.2.2.2.2.2.2.2.1, x1.2.2.2.2.2.2.2.2.2.1, x1.2.2.2.2.2.2.2.2.2.2.1, x1.2.2.2.2.2.2.2.2.2.2.2.1, x1.2.2.2.2.2.2.2.2.2.2.2.2.1, x1.2.2.2.2.2.2.2.2.2.2.2.2.2.1, x1.2.2.2.2.2.2.2.2.2.2.2.2.2.2.1, x1.2.2.2.2.2.2.2.2.2.2.2.2.2.2.2)
abbrev p4_0 (x : D4) : THead := (x.1, x.2.1, x.2.2.1, x.2.2.2.1, x.2.2.2.2.1, x.2.2.2.2.2.1, x.2.2.2.2.2.2.1, x.2.2.2.2.2.2.2.1, x.2.2.2.2.2.2.2.2.1, x.2.2.2.2.2.2.2.2.2.1, x.2.2.2.2.2.2.2.2.2.2.1, x.2.2.2.2.2.2.2.2.2.2.2.1, x.2.2.2.2.2.2.2.2.2.2.2.2.1, x.2.2.2.2.2.2.2.2.2.2.2.2.2.1, x.2.2.2.2.2.2.2.2.2.2.2.2.2.2.1, x.2.2.2.2.2.2.2.2.2.2.2.2.2.2.2.1)
abbrev p4_1 (x : D4) : THead := x.2.2.2.2.2.2.2.2.2.2.2.2.2.2.2.2
abbrev D5 : Type := Int × Int × Int × Int × Int × Int × Int × Int × List Int × Int × List Int × Int × Int × List Int × Int × Bool × Int × Int × Int × Int × Int × Int × Int × Int × List Int × Int × List Int × Int × Int × List Int × Int × Bool × List TSig
abbrev A5 : ETy := (V.ci (V.ci (V.ci (V.ci (V.ci (V.ci (V.ci (V.ci (.cons (.sl (V.ci .nil)) (V.ci (.cons (.sl (V.ci .nil)) (V.ci (V.ci (.cons (.sl (V.ci .nil)) (V.ci (.cons .bool (V.ci (V.ci (V.ci (V.ci (V.ci (V.ci (V.ci (V.ci (.cons (.sl (V.ci .nil)) (V.ci (.cons (.sl (V.ci .nil)) (V.ci (V.ci (.cons (.sl (V.ci .nil)) (V.ci (.cons .bool (.cons (.sl (V.ci (V.ci .nil))) .nil)))))))))))))))))))))))))))))))))
abbrev fl5 (x0 : THead) (x1 : TSigned) : D5 := (x0.1, x0.2.1, x0.2.2.1, x0.2.2.2.1, x0.2.2.2.2.1, x0.2.2.2.2.2.1, x0.2.2.2.2.2.2.1, x0.2.2.2.2.2.2.2.1, x0.2.2.2.2.2.2.2.2.1, x0.2.2.2.2.2.2.2.2.2.1, x0.2.2.2.2.2.2.2.2.2.2.1, x0.2.2.2.2.2.2.2.2.2.2.2.1, x0.2.2.2.2.2.2.2.2.2.2.2.2.1, x0.2.2.2.2.2.2.2.2.2.2.2.2.2.1, x0.2.2.2.2.2.2.2.2.2.2.2.2.2.2.1, x0.2.2.2.2.2.2.2.2.2.2.2.2.2.2.2, x1.1, x1.2.1, x1.2.2.1, x1.2.2.2.1, x1.2.2.2.2.1, x1.2.2.2.2.2.1, x1.2.2.2.2.2.2.1, x1.2.2.2.2.2.2.2.1, x1.2.2.2.2.2.2.2.2.1, x1.2.2.2.2.2.2.2.2.2.1, x1.2.2.2.2.2.2.2.2.2.2.1, x1.2.2.2.2.2.2.2.2.2.2.2.1, x1.2.2.2.2.2.2.2.2.2.2.2.2.1, x1.2.2.2.2.2.2.2.2.2.2.2.2.2.1, x1.2.2.2.2.2.2.2.2.2.2.2.2.2.2.1, x1.2.2.2.2.2.2.2.2.2.2.2.2.2.2.2.1, x1.2.2.2.2.2.2.2.2.2.2.2.2.2.2.2.2)
abbrev p5_0 (x : D5) : THead := (x.1, x.2.1, x.2.2.1, x.2.2.2.1, x.2.2.2.2.1, x.2.2.2.2.2.1, x.2.2.2.2.2.2.1, x.2.2.2.2.2.2.2.1, x.2.2.2.2.2.2.2.2.1, x.2.2.2.2.2.2.2.2.2.1, x.2.2.2.2.2.2.2.2.2.2.1, x.2.2.2.2.2.2.2.2.2.2.2.1, x.2.2.2.2.2.2.2.2.2.2.2.2.1, x.2.2.2.2.2.2.2.2.2.2.2.2.2.1, x.2.2.2.2.2.2.2.2.2.2.2.2.2.2.1, x.2.2.2.2.2.2.2.2.2.2.2.2.2.2.2.1)
abbrev p5_1 (x : D5) : TSigned := x.2.2.2.2.2.2.2.2.2.2.2.2.2.2.2.2
abbrev D6 : Type := List TSigned × Int × Int × Int × Int × Int × Int × Int × Int × List Int × Int × List Int × Int × Int × List Int × Int × Bool × List TSig
abbrev A6 : ETy := (.cons (.sl eSigned) (V.ci (V.ci (V.ci (V.ci (V.ci (V.ci (V.ci (V.ci (.cons (.sl (V.ci .nil)) (V.ci (.cons (.sl (V.ci .nil)) (V.ci (V.ci (.cons (.sl (V.ci .nil)) (V.ci (.cons .bool (.cons (.sl (V.ci (V.ci .nil))) .nil))))))))))))))))))
abbrev fl6 (x0 : List TSigned) (x1 : TSigned) : D6 := (x0, x1.1, x1.2.1, x1.2.2.1, x1.2.2.2.1, x1.2.2.2.2.1, x1.2.2.2.2.2.1, x1.2.2.2.2.2.2.1, x1.2.2.2.2.2.2.2.1, x1.2.2.2.2.2.2.2.2.1, x1.2.2.2.2.2.2.2.2.2.1, x1.2.2.2.2.2.2.2.2.2.2.1, x1.2.2.2.2.2.2.2.2.2.2.2.1, x1.2.2.2.2.2.2.2.2.2.2.2.2.1, x1.2.2.2.2.2.2.2.2.2.2.2.2.2.1, x1.2.2.2.2.2.2.2.2.2.2.2.2.2.2.1, x1.2.2.2.2.2.2.2.2.2.2.2.2.2.2.2.1, x1.2.2.2.2.2.2.2.2.2.2.2.2.2.2.2.2)
abbrev p6_0 (x : D6) : List TSigned := x.1
abbrev p6_1 (x : D6) : TSigned := x.2
abbrev D7 : Type := Int × Int × Int × Int × Int × Int × Int × Int × List Int × Int × List Int × Int × Int × List Int × Int × Bool × List TSig × List Int × Int
abbrev A7 : ETy := (V.ci (V.ci (V.ci (V.ci (V.ci (V.ci (V.ci (V.ci (.cons (.sl (V.ci .nil)) (V.ci (.cons (.sl (V.ci .nil)) (V.ci (V.ci (.cons (.sl (V.ci .nil)) (V.ci (.cons .bool (.cons (.sl (V.ci (V.ci .nil))) (.cons (.sl (V.ci .nil)) (V.ci .nil)))))))))))))))))))
abbrev fl7 (x0 : TSigned) (x1 : TKeys) : D7 := (x0.1, x0.2.1, x0.2.2.1, x0.2.2.2.1, x0.2.2.2.2.1, x0.2.2.2.2.2.1, x0.2.2.2.2.2.2.1, x0.2.2.2.2.2.2.2.1, x0.2.2.2.2.2.2.2.2.1, x0.2.2.2.2.2.2.2.2.2.1, x0.2.2.2.2.2.2.2.2.2.2.1, x0.2.2.2.2.2.2.2.2.2.2.2.1, x0.2.2.2.2.2.2.2.2.2.2.2.2.1, x0.2.2.2.2.2.2.2.2.2.2.2.2.2.1, x0.2.2.2.2.2.2.2.2.2.2.2.2.2.2.1, x0.2.2.2.2.2.2.2.2.2.2.2.2.2.2.2.1, x0.2.2.2.2.2.2.2.2.2.2.2.2.2.2.2.2, x1.1, x1.2)
abbrev p7_0 (x : D7) : TSigned := (x.1, x.2.1, x.2.2.1, x.2.2.2.1, x.2.2.2.2.1, x.2.2.2.2.2.1, x.2.2.2.2.2.2.1, x.2.2.2.2.2.2.2.1, x.2.2.2.2.2.2.2.2.1, x.2.2.2.2.2.2.2.2.2.1, x.2.2.2.2.2.2.2.2.2.2.1, x.2.2.2.2.2.2.2.2.2.2.2.1, x.2.2.2.2.2.2.2.2.2.2.2.2.1, x.2.2.2.2.2.2.2.2.2.2.2.2.2.1, x.2.2.2.2.2.2.2.2.2.2.2.2.2.2.1, x.2.2.2.2.2.2.2.2.2.2.2.2.2.2.2.1, x.2.2.2.2.2.2.2.2.2.2.2.2.2.2.2.2.1)
abbrev p7_1 (x : D7) : TKeys := x.2.2.2.2.2.2.2.2.2.2.2.2.2.2.2.2.2
abbrev D8 : Type := Int × Int × Int × Int × Int × Int × Int × Int × List Int × Int × List Int × Int × Int × List Int × Int × Bool × List TSig × (TMark)
abbrev A8 : ETy := (V.ci (V.ci (V.ci (V.ci (V.ci (V.ci (V.ci (V.ci (.cons (.sl (V.ci .nil)) (V.ci (.cons (.sl (V.ci .nil)) (V.ci (V.ci (.cons (.sl (V.ci .nil)) (V.ci (.cons .bool (.cons (.sl (V.ci (V.ci .nil))) (.cons (.ptr (V.ci (V.ci (V.ci .nil)))) .nil))))))))))))))))))
abbrev fl8 (x0 : TSigned) (x1 : (TMark)) : D8 := (x0.1, x0.2.1, x0.2.2.1, x0.2.2.2.1, x0.2.2.2.2.1, x0.2.2.2.2.2.1, x0.2.2.2.2.2.2.1, x0.2.2.2.2.2.2.2.1, x0.2.2.2.2.2.2.2.2.1, x0.2.2.2.2.2.2.2.2.2.1, x0.2.2.2.2.2.2.2.2.2.2.1, x0.2.2.2.2.2.2.2.2.2.2.2.1, x0.2.2.2.2.2.2.2.2.2.2.2.2.1, x0.2.2.2.2.2.2.2.2.2.2.2.2.2.1, x0.2.2.2.2.2.2.2.2.2.2.2.2.2.2.1, x0.2.2.2.2.2.2.2.2.2.2.2.2.2.2.2.1, x0.2.2.2.2.2.2.2.2.2.2.2.2.2.2.2.2, x1)
abbrev p8_0 (x : D8) : TSigned := (x.1, x.2.1, x.2.2.1, x.2.2.2.1, x.2.2.2.2.1, x.2.2.2.2.2.1, x.2.2.2.2.2.2.1, x.2.2.2.2.2.2.2.1, x.2.2.2.2.2.2.2.2.1, x.2.2.2.2.2.2.2.2.2.1, x.2.2.2.2.2.2.2.2.2.2.1, x.2.2.2.2.2.2.2.2.2.2.2.1, x.2.2.2.2.2.2.2.2.2.2.2.2.1, x.2.2.2.2.2.2.2.2.2.2.2.2.2.1, x.2.2.2.2.2.2.2.2.2.2.2.2.2.2.1, x.2.2.2.2.2.2.2.2.2.2.2.2.2.2.2.1, x.2.2.2.2.2.2.2.2.2.2.2.2.2.2.2.2.1)
abbrev p8_1 (x : D8) : (TMark) := x.2.2.2.2.2.2.2.2.2.2.2.2.2.2.2.2.2
abbrev D9 : Type := List Int × Int × Int × Int × Int × Int × Int × Int × Int × Int × List Int × Int × List Int × Int × Int × List Int × Int × Bool × List TSig
abbrev A9 : ETy := eRKeysHeadList
abbrev fl9 (x0 : TKeys) (x1 : THead) (x2 : List TSig) : D9 := (x0.1, x0.2, x1.1, x1.2.1, x1.2.2.1, x1.2.2.2.1, x1.2.2.2.2.1, x1.2.2.2.2.2.1, x1.2.2.2.2.2.2.1, x1.2.2.2.2.2.2.2.1, x1.2.2.2.2.2.2.2.2.1, x1.2.2.2.2.2.2.2.2.2.1, x1.2.2.2.2.2.2.2.2.2.2.1, x1.2.2.2.2.2.2.2.2.2.2.2.1, x1.2.2.2.2.2.2.2.2.2.2.2.2.1, x1.2.2.2.2.2.2.2.2.2.2.2.2.2.1, x1.2.2.2.2.2.2.2.2.2.2.2.2.2.2.1, x1.2.2.2.2.2.2.2.2.2.2.2.2.2.2.2, x2)
abbrev p9_0 (x : D9) : TKeys := (x.1, x.2.1)
abbrev p9_1 (x : D9) : THead := (x.2.2.1, x.2.2.2.1, x.2.2.2.2.1, x.2.2.2.2.2.1, x.2.2.2.2.2.2.1, x.2.2.2.2.2.2.2.1, x.2.2.2.2.2.2.2.2.1, x.2.2.2.2.2.2.2.2.2.1, x.2.2.2.2.2.2.2.2.2.2.1, x.2.2.2.2.2.2.2.2.2.2.2.1, x.2.2.2.2.2.2.2.2.2.2.2.2.1, x.2.2.2.2.2.2.2.2.2.2.2.2.2.1, x.2.2.2.2.2.2.2.2.2.2.2.2.2.2.1, x.2.2.2.2.2.2.2.2.2.2.2.2.2.2.2.1, x.2.2.2.2.2.2.2.2.2.2.2.2.2.2.2.2.1, x.2.2.2.2.2.2.2.2.2.2.2.2.2.2.2.2.2.1)
abbrev p9_2 (x : D9) : List TSig := x.2.2.2.2.2.2.2.2.2.2.2.2.2.2.2.2.2.2
noncomputable abbrev lsHead (x : THead) : List Lf := [.vi (x.1), .vi (x.2.1), .vi (x.2.2.1), .vi (x.2.2.2.1), .vi (x.2.2.2.2.1), .vi (x.2.2.2.2.2.1), .vi (x.2.2.2.2.2.2.1), .vi (x.2.2.2.2.2.2.2.1), .val (.sl (V.ci .nil) x.2.2.2.2.2.2.2.2.1), .vi (x.2.2.2.2.2.2.2.2.2.1), .val (.sl (V.ci .nil) x.2.2.2.2.2.2.2.2.2.2.1), .vi (x.2.2.2.2.2.2.2.2.2.2.2.1), .vi (x.2.2.2.2.2.2.2.2.2.2.2.2.1), .val (.sl (V.ci .nil) x.2.2.2.2.2.2.2.2.2.2.2.2.2.1), .vi (x.2.2.2.2.2.2.2.2.2.2.2.2.2.2.1), .val (.bool x.2.2.2.2.2.2.2.2.2.2.2.2.2.2.2)]
noncomputable abbrev lsSigned (x : TSigned) : List Lf := [.vi (x.1), .vi (x.2.1), .vi (x.2.2.1), .vi (x.2.2.2.1), .vi (x.2.2.2.2.1), .vi (x.2.2.2.2.2.1), .vi (x.2.2.2.2.2.2.1), .vi (x.2.2.2.2.2.2.2.1), .val (.sl (V.ci .nil) x.2.2.2.2.2.2.2.2.1), .vi (x.2.2.2.2.2.2.2.2.2.1), .val (.sl (V.ci .nil) x.2.2.2.2.2.2.2.2.2.2.1), .vi (x.2.2.2.2.2.2.2.2.2.2.2.1), .vi (x.2.2.2.2.2.2.2.2.2.2.2.2.1), .val (.sl (V.ci .nil) x.2.2.2.2.2.2.2.2.2.2.2.2.2.1), .vi (x.2.2.2.2.2.2.2.2.2.2.2.2.2.2.1), .val (.bool x.2.2.2.2.2.2.2.2.2.2.2.2.2.2.2.1), .val (.sl (V.ci (V.ci .nil)) x.2.2.2.2.2.2.2.2.2.2.2.2.2.2.2.2)]
abbrev tys : List (Nat × TI) := [(3, ⟨.int .i64, false, [.vi ((0 : Int))], 8, [], (V.ci .nil)⟩),
 (4, ⟨.bool, false, [.val (.bool false)], 1, [], (.cons .bool .nil)⟩),
 (5, ⟨.int .u8, false, [.val (.int .u8 (0 : Int))], 1, [], (.cons (.int .u8) .nil)⟩),
 (9, ⟨.str, false, [.val (.str (⟨#[]⟩ : ByteArray))], 16, [], (.cons .str .nil)⟩),
 (22, ⟨.sl 5, false, [.nil0], 24, [], (.cons (.sl (.cons (.int .u8) .nil)) .nil)⟩),
 (24, ⟨.sl 55, false, [.nil0], 24, [], (.cons (.sl (V.ci (V.ci (V.ci .nil)))) .nil)⟩),
 (26, ⟨.st, false, [.vi ((0 : Int)), .nil0], 32, [(0, 1, false), (1, 1, false)], (V.ci (.cons (.sl (V.ci (V.ci (V.ci .nil)))) .nil))⟩),
 (27, ⟨.sl 42, false, [.nil0], 24, [], (.cons (.sl V.eSigned) .nil)⟩),
 (31, ⟨.st, true, [.vi ((0 : Int)), .vi ((0 : Int))], 16, [(0, 1, false), (1, 1, false)], (V.ci (V.ci .nil))⟩),
 (35, ⟨.sl 3, false, [.nil0], 24, [], (.cons (.sl (V.ci .nil)) .nil)⟩),
 (37, ⟨.st, false, [.nil0, .vi ((0 : Int))], 32, [(0, 1, false), (1, 1, false)], (.cons (.sl (V.ci .nil)) (V.ci .nil))⟩),
 (39, ⟨.st, false, [.vi ((0 : Int)), .vi ((0 : Int)), .vi ((0 : Int)), .vi ((0 : Int)), .vi ((0 : Int)), .vi ((0 : Int)), .vi ((0 : Int)), .vi ((0 : Int)), .nil0, .vi ((0 : Int)), .nil0, .vi ((0 : Int)), .vi ((0 : Int)), .nil0, .vi ((0 : Int)), .val (.bool false)], 176, [(0, 1, false), (1, 1, false), (2, 1, false), (3, 1, false), (4, 1, false), (5, 1, false), (6, 1, false), (7, 1, false), (8, 2, true), (10, 2, true), (12, 1, false), (13, 2, true), (15, 1, false)], V.eHead⟩),
 (40, ⟨.sl 31, false, [.nil0], 24, [], (.cons (.sl (V.ci (V.ci .nil))) .nil)⟩),
 (42, ⟨.st, false, [.vi ((0 : Int)), .vi ((0 : Int)), .vi ((0 : Int)), .vi ((0 : Int)), .vi ((0 : Int)), .vi ((0 : Int)), .vi ((0 : Int)), .vi ((0 : Int)), .nil0, .vi ((0 : Int)), .nil0, .vi ((0 : Int)), .vi ((0 : Int)), .nil0, .vi ((0 : Int)), .val (.bool false), .nil0], 200, [(0, 16, true), (16, 1, false)], V.eSigned⟩),
 (46, ⟨.st, false, [.vi ((0 : Int)), .vi ((0 : Int)), .vi ((0 : Int)), .vi ((0 : Int)), .vi ((0 : Int)), .vi ((0 : Int)), .vi ((0 : Int)), .vi ((0 : Int)), .nil0, .vi ((0 : Int)), .nil0, .vi ((0 : Int)), .vi ((0 : Int)), .nil0, .vi ((0 : Int)), .val (.bool false), .nil0, .vi ((0 : Int)), .vi ((0 : Int)), .vi ((0 : Int)), .vi ((0 : Int)), .vi ((0 : Int)), .vi ((0 : Int)), .vi ((0 : Int)), .vi ((0 : Int)), .nil0, .vi ((0 : Int)), .nil0, .vi ((0 : Int)), .vi ((0 : Int)), .nil0, .vi ((0 : Int)), .val (.bool false), .nil0, .vi ((0 : Int)), .vi ((0 : Int)), .vi ((0 : Int)), .vi ((0 : Int)), .vi ((0 : Int)), .vi ((0 : Int)), .vi ((0 : Int)), .vi ((0 : Int)), .nil0, .vi ((0 : Int)), .nil0, .vi ((0 : Int)), .vi ((0 : Int)), .nil0, .vi ((0 : Int)), .val (.bool false), .nil0], 600, [(0, 17, true), (17, 17, true), (34, 17, true)], V.eFork⟩),
 (55, ⟨.st, true, [.vi ((0 : Int)), .vi ((0 : Int)), .vi ((0 : Int))], 24, [(0, 1, false), (1, 1, false), (2, 1, false)], (V.ci (V.ci (V.ci .nil)))⟩),
 (90, ⟨.st, false, [.nil0, .vi ((0 : Int)), .vi ((0 : Int))], 40, [(0, 1, false), (1, 1, false), (2, 1, false)], (.cons (.sl (.cons (.int .u8) .nil)) (V.ci (V.ci .nil)))⟩),
 (118, ⟨.sl 138, false, [.nil0], 24, [], (.cons (.sl V.eEntry) .nil)⟩),
 (136, ⟨.sl 9, false, [.nil0], 24, [], (.cons (.sl (.cons .str .nil)) .nil)⟩),
 (138, ⟨.st, false, [.val (.str (⟨#[]⟩ : ByteArray)), .vi ((0 : Int)), .vi ((0 : Int)), .nil0], 56, [(0, 1, false), (1, 1, false), (2, 1, false), (3, 1, false)], V.eEntry⟩),
 (142, ⟨.sl 35, false, [.nil0], 24, [], (.cons (.sl (.cons (.sl (V.ci .nil)) .nil)) .nil)⟩)]
theorem tysOk : tyAll Tryz.prog tys = true := by kernel_rfl
theorem mixed : Tryz.prog.follows .mixedOrders = true := by kernel_rfl
theorem cfl {α : Type} {a b c : α} (e : a = b) (h : a = c) : b = c := e.symm.trans h
theorem fo {g : Nat} {fn : Func} {con : Con} {tab : List (Nat × Con)} {heads : List (Nat × List Nat × Cv)} {pre : List (Nat × Nat)} {shallow : List Nat} {movs flts : List (Nat × List Nat)} (h : TabOk Tryz.prog tab) (hf : Tryz.prog.funcs[g]? = some fn) (hq : (!(fn.name == "runtime.NumGoroutine") && (!fn.body.isNone && conOk con fn.ntmps)) = true) (hev : ∀ x y, con.f x = some y → evBody (mkE tys tab heads pre shallow movs flts) con fn x = some y) : Valid Tryz.prog g con := by
 simp only [Bool.and_eq_true, Bool.not_eq_true'] at hq
 exact body_ok (env_ok mixed tysOk h) hf hq.1 hq.2.1 hq.2.2 hev
theorem fo2 {g : Nat} {fn : Func} {con : Con} {tab tab2 : List (Nat × Con)} {sites : List Nat} {heads : List (Nat × List Nat × Cv)} {pre : List (Nat × Nat)} {shallow : List Nat} {movs flts : List (Nat × List Nat)} (h : TabOk Tryz.prog tab) (h2 : TabOk Tryz.prog tab2) (hf : Tryz.prog.funcs[g]? = some fn) (hq : (!(fn.name == "runtime.NumGoroutine") && (!fn.body.isNone && conOk con fn.ntmps)) = true) (hev : ∀ x y, con.f x = some y → evBody (mkE2 tys tab sites tab2 heads pre shallow movs flts) con fn x = some y) : Valid Tryz.prog g con := by
 simp only [Bool.and_eq_true, Bool.not_eq_true'] at hq
 exact body_ok (env_ok2 mixed tysOk h h2) hf hq.1 hq.2.1 hq.2.2 hev
end V
noncomputable abbrev Z159.con : V.Con := ⟨(.cons (.sl (.cons (.int .u8) .nil)) .nil), (.cons .bool .nil), fun (x : List Int) => Z159 x, [], [(false, 1)], [(false, 1)], [false], []⟩
noncomputable abbrev Z159.E : V.Env := V.mkE V.tys [] [] [] [] [] []
theorem Z159.eq (x0 : List Int) : V.evBody Z159.E Z159.con Tryz.f4 ((x0) : List Int) = Z159 x0 := by kernel_rfl
theorem Z159.ok : V.Valid Tryz.prog 4 Z159.con :=
 V.fo V.tab_nil Tryz.func4 (by kernel_rfl) (fun x y h => (show V.evBody Z159.E Z159.con Tryz.f4 x = _ from Z159.eq x).trans (V.cfl (by kernel_rfl) h))
noncomputable abbrev Z12.con : V.Con := ⟨(.cons (.sl (.cons (.int .u8) .nil)) .nil), (.cons (.ptr (.cons (.sl (.cons (.int .u8) .nil)) (V.ci (V.ci .nil)))) .nil), fun (x : List Int) => Z12 x, [], [(false, 1)], [(false, 1)], [true], []⟩
noncomputable abbrev Z12.E : V.Env := V.mkE V.tys [] [(6, [0, 3, 4], []), (11, [0, 3, 4], [])] [] [] [] []
noncomputable abbrev Z12.kt (x0 : List Int) : V.Kt ((Tl1Cur)) := V.ktOf Z12.E Z12.con Tryz.f24 ((x0) : List Int)
noncomputable abbrev Z12.s11 (x0 : List Int) (v6_1 : Int) (v6_2 : Int) : V.St := ⟨[(0, .v false [.val (.sl (.cons (.int .u8) .nil) x0)]), (3, .v false [.vi (v6_1)]), (4, .v false [.vi (v6_2)])], []⟩
noncomputable abbrev Z12.s6 (x0 : List Int) (v6_1 : Int) (v6_2 : Int) : V.St := ⟨[(0, .v false [.val (.sl (.cons (.int .u8) .nil) x0)]), (3, .v false [.vi (v6_1)]), (4, .v false [.vi (v6_2)])], []⟩
theorem Z12.r11 (x0 : List Int) (v6_1 : Int) (v6_2 : Int) (R6 : V.St → Option ((Tl1Cur))) : V.joinF Z12.E Tryz.f24.ntmps [1, 1, 0, 1, 0, 0] [R6] (V.codeOf Tryz.f24) (Z12.kt x0) (Z12.s11 x0 v6_1 v6_2) = Z12.g11 x0 v6_1 v6_2 (fun v6_1 v6_2 => R6 (Z12.s6 x0 v6_1 v6_2)) := by kernel_rfl
theorem Z12.e11 (x0 : List Int) (v6_1 : Int) (v6_2 : Int) (R6 : V.St → Option ((Tl1Cur))) : V.jn (V.joinF Z12.E Tryz.f24.ntmps [1, 1, 0, 1, 0, 0] [R6] (V.codeOf Tryz.f24) (Z12.kt x0)) (Z12.s11 x0 v6_1 v6_2) = Z12.l11 x0 v6_1 v6_2 (fun v6_1 v6_2 => R6 (Z12.s6 x0 v6_1 v6_2)) := by
 rw [V.jn_eq, Z12.r11]
 rfl
theorem Z12.r6 (x0 : List Int) (R : V.St → Option ((Tl1Cur))) (v6_1 : Int) (v6_2 : Int) : V.loopF Z12.E Tryz.f24.ntmps [1, 1, 0, 1, 0] [] (V.codeOf Tryz.f24) (Z12.kt x0) R (Z12.s6 x0 v6_1 v6_2) = Z12.g6 x0 (fun v6_1 v6_2 => R (Z12.s6 x0 v6_1 v6_2)) (V.jn (V.joinF Z12.E Tryz.f24.ntmps [1, 1, 0, 1, 0, 0] [R] (V.codeOf Tryz.f24) (Z12.kt x0)) (Z12.s11 x0 v6_1 v6_2)) v6_1 v6_2 := by kernel_rfl
theorem Z12.e6 (x0 : List Int) : ∀ (n : Nat) (v6_1 : Int) (v6_2 : Int), V.loopN (V.loopF Z12.E Tryz.f24.ntmps [1, 1, 0, 1, 0] [] (V.codeOf Tryz.f24) (Z12.kt x0)) n (Z12.s6 x0 v6_1 v6_2) = Z12.l6 x0 n v6_1 v6_2 := by
 intro n
 induction n with
 | zero => intros; rw [V.loopN_z]; rfl
 | succ n ih =>
   intro v6_1 v6_2
   rw [V.loopN_s, Z12.r6]
   simp only [Z12.e11, ih]
   first | exact (Z12.u6 ..).symm | rfl
theorem Z12.v (x0 : List Int) : V.evBody Z12.E Z12.con Tryz.f24 ((x0) : List Int) = Z12.b x0 (fun v6_1 v6_2 => V.loopN (V.loopF Z12.E Tryz.f24.ntmps [1, 1, 0, 1, 0] [] (V.codeOf Tryz.f24) (Z12.kt x0)) V.KK (Z12.s6 x0 v6_1 v6_2)) := by kernel_rfl
theorem Z12.eq (x0 : List Int) : V.evBody Z12.E Z12.con Tryz.f24 ((x0) : List Int) = Z12 x0 := by
 rw [Z12.v]
 simp only [Z12.e6]
 rfl
theorem Z12.ok : V.Valid Tryz.prog 24 Z12.con :=
 V.fo V.tab_nil Tryz.func24 (by kernel_rfl) (fun x y h => (show V.evBody Z12.E Z12.con Tryz.f24 x = _ from Z12.eq x).trans (V.cfl (by kernel_rfl) h))
noncomputable abbrev Z120.con : V.Con := ⟨(.cons (.ptr (.cons (.sl (.cons (.int .u8) .nil)) (V.ci (V.ci .nil)))) .nil), (.cons (.ptr (.cons (.sl (.cons (.int .u8) .nil)) (V.ci (V.ci .nil)))) (V.ci .nil)), fun (x : (Tl1Cur)) => Z120 x, [(0, false)], [(false, 1)], [(false, 1)], [false], []⟩
noncomputable abbrev Z120.E : V.Env := V.mkE V.tys [] [] [(2, 10), (3, 9), (4, 12)] [] [] []
theorem Z120.eq (x0 : (Tl1Cur)) : V.evBody Z120.E Z120.con Tryz.f66 ((x0) : (Tl1Cur)) = Z120 x0 := by kernel_rfl
theorem Z120.ok : V.Valid Tryz.prog 66 Z120.con :=
 V.fo V.tab_nil Tryz.func66 (by kernel_rfl) (fun x y h => (show V.evBody Z120.E Z120.con Tryz.f66 x = _ from Z120.eq x).trans (V.cfl (by kernel_rfl) h))
noncomputable abbrev Z5.con : V.Con := ⟨(.cons (.ptr (.cons (.sl (.cons (.int .u8) .nil)) (V.ci (V.ci .nil)))) (V.ci .nil)), (.cons (.ptr (.cons (.sl (.cons (.int .u8) .nil)) (V.ci (V.ci .nil)))) (V.ci .nil)), fun (x : (Tl1Cur) × Int) => Z5 x.1 x.2, [(0, false)], [(false, 1), (false, 1)], [(false, 1)], [false], []⟩
noncomputable abbrev Z5.E : V.Env := V.mkE V.tys [(66, Z120.con)] [] [] [] [] []
theorem Z5.eq (x0 : (Tl1Cur)) (x1 : Int) : V.evBody Z5.E Z5.con Tryz.f27 ((x0, x1) : (Tl1Cur) × Int) = Z5 x0 x1 := by kernel_rfl
theorem Z5.ok : V.Valid Tryz.prog 27 Z5.con :=
 V.fo (V.tab_cons Z120.ok V.tab_nil) Tryz.func27 (by kernel_rfl) (fun x y h => (show V.evBody Z5.E Z5.con Tryz.f27 x = _ from Z5.eq x.1 x.2).trans (V.cfl (by kernel_rfl) h))
noncomputable abbrev Z22.con : V.Con := ⟨(.cons (.ptr (.cons (.sl (.cons (.int .u8) .nil)) (V.ci (V.ci .nil)))) .nil), (.cons (.ptr (.cons (.sl (.cons (.int .u8) .nil)) (V.ci (V.ci .nil)))) (.cons (.sl (V.ci .nil)) (V.ci .nil))), fun (x : (Tl1Cur)) => Z22 x, [(0, false)], [(false, 1)], [(true, 2)], [true, false], []⟩
noncomputable abbrev Z22.E : V.Env := V.mkE V.tys [(27, Z5.con)] [(10, [0, 2, 3, 4, 5, 6], [(64000000000012292096, (V.ci .nil), true)])] [] [] [] []
noncomputable abbrev Z22.kt (x0 : (Tl1Cur)) : V.Kt ((Tl1Cur) × List Int × Int) := V.ktOf Z22.E Z22.con Tryz.f82 ((x0) : (Tl1Cur))
noncomputable abbrev Z22.s10 (x0 : (Tl1Cur)) (v10_0 : Int) (v10_1 : Int) (v10_2 : Int) (v10_4 : Int) (v10_5 : Int) (v10_8 : List Int) : V.St := ⟨[(0, .v false [.ptr 0 0]), (2, .v false [.ptr 64000 0]), (3, .v false [.vi (v10_0)]), (4, .v false [.ptr 192064 0]), (5, .v false [.vi (v10_1)]), (6, .v false [.vi (v10_2)])], [(0, .box [.val (.sl (.cons (.int .u8) .nil) x0.1), .vi (v10_4), .vi (v10_5)]), (64000, .box [.nil0, .vi ((0 : Int))]), (192064, .box [.ref 64000000000012292096, .vi ((0 : Int))]), (64000000000012292096, .row (V.ci .nil) true v10_8)]⟩
theorem Z22.r10 (x0 : (Tl1Cur)) (R : V.St → Option ((Tl1Cur) × List Int × Int)) (v10_0 : Int) (v10_1 : Int) (v10_2 : Int) (v10_4 : Int) (v10_5 : Int) (v10_8 : List Int) : V.loopF Z22.E Tryz.f82.ntmps [1, 1, 1, 1, 0, 1, 0] [] (V.codeOf Tryz.f82) (Z22.kt x0) R (Z22.s10 x0 v10_0 v10_1 v10_2 v10_4 v10_5 v10_8) = Z22.g10 x0 (fun v10_0 v10_1 v10_2 v10_4 v10_5 v10_8 => R (Z22.s10 x0 v10_0 v10_1 v10_2 v10_4 v10_5 v10_8)) v10_0 v10_1 v10_2 v10_4 v10_5 v10_8 := by kernel_rfl
theorem Z22.e10 (x0 : (Tl1Cur)) : ∀ (n : Nat) (v10_0 : Int) (v10_1 : Int) (v10_2 : Int) (v10_4 : Int) (v10_5 : Int) (v10_8 : List Int), V.loopN (V.loopF Z22.E Tryz.f82.ntmps [1, 1, 1, 1, 0, 1, 0] [] (V.codeOf Tryz.f82) (Z22.kt x0)) n (Z22.s10 x0 v10_0 v10_1 v10_2 v10_4 v10_5 v10_8) = Z22.l10 x0 n v10_0 v10_1 v10_2 v10_4 v10_5 v10_8 := by
 intro n
 induction n with
 | zero => intros; rw [V.loopN_z]; rfl
 | succ n ih =>
   intro v10_0 v10_1 v10_2 v10_4 v10_5 v10_8
   rw [V.loopN_s, Z22.r10]
   simp only [ih]
   first | exact (Z22.u10 ..).symm | rfl
theorem Z22.v (x0 : (Tl1Cur)) : V.evBody Z22.E Z22.con Tryz.f82 ((x0) : (Tl1Cur)) = Z22.b x0 (fun v10_0 v10_1 v10_2 v10_4 v10_5 v10_8 => V.loopN (V.loopF Z22.E Tryz.f82.ntmps [1, 1, 1, 1, 0, 1, 0] [] (V.codeOf Tryz.f82) (Z22.kt x0)) V.KK (Z22.s10 x0 v10_0 v10_1 v10_2 v10_4 v10_5 v10_8)) := by kernel_rfl
theorem Z22.eq (x0 : (Tl1Cur)) : V.evBody Z22.E Z22.con Tryz.f82 ((x0) : (Tl1Cur)) = Z22 x0 := by
 rw [Z22.v]
 simp only [Z22.e10]
 rfl
theorem Z22.ok : V.Valid Tryz.prog 82 Z22.con :=
 V.fo (V.tab_cons Z5.ok V.tab_nil) Tryz.func82 (by kernel_rfl) (fun x y h => (show V.evBody Z22.E Z22.con Tryz.f82 x = _ from Z22.eq x).trans (V.cfl (by kernel_rfl) h))
noncomputable abbrev Z132.con : V.Con := ⟨(.cons (.ptr (.cons (.sl (.cons (.int .u8) .nil)) (V.ci (V.ci .nil)))) (.cons (.sl (.cons .str .nil)) .nil)), (.cons (.ptr (.cons (.sl (.cons (.int .u8) .nil)) (V.ci (V.ci .nil)))) (.cons .str .nil)), fun (x : (Tl1Cur) × List ByteArray) => Z132 x.1 x.2, [(0, false)], [(false, 1), (false, 1)], [(false, 1)], [false], []⟩
noncomputable abbrev Z132.E : V.Env := V.mkE V.tys [(27, Z5.con)] [] [] [] [] []
theorem Z132.eq (x0 : (Tl1Cur)) (x1 : List ByteArray) : V.evBody Z132.E Z132.con Tryz.f154 ((x0, x1) : (Tl1Cur) × List ByteArray) = Z132 x0 x1 := by kernel_rfl
theorem Z132.ok : V.Valid Tryz.prog 154 Z132.con :=
 V.fo (V.tab_cons Z5.ok V.tab_nil) Tryz.func154 (by kernel_rfl) (fun x y h => (show V.evBody Z132.E Z132.con Tryz.f154 x = _ from Z132.eq x.1 x.2).trans (V.cfl (by kernel_rfl) h))
noncomputable abbrev Z121.con : V.Con := ⟨(.cons (.ptr (.cons (.sl (.cons (.int .u8) .nil)) (V.ci (V.ci .nil)))) .nil), (.cons (.ptr (.cons (.sl (.cons (.int .u8) .nil)) (V.ci (V.ci .nil)))) (.cons .str .nil)), fun (x : (Tl1Cur)) => Z121 x, [(0, false)], [(false, 1)], [(false, 1)], [false], []⟩
noncomputable abbrev Z121.E : V.Env := V.mkE V.tys [(154, Z132.con)] [] [] [] [] []
theorem Z121.eq (x0 : (Tl1Cur)) : V.evBody Z121.E Z121.con Tryz.f136 ((x0) : (Tl1Cur)) = Z121 x0 := by kernel_rfl
theorem Z121.ok : V.Valid Tryz.prog 136 Z121.con :=
 V.fo (V.tab_cons Z132.ok V.tab_nil) Tryz.func136 (by kernel_rfl) (fun x y h => (show V.evBody Z121.E Z121.con Tryz.f136 x = _ from Z121.eq x).trans (V.cfl (by kernel_rfl) h))
noncomputable abbrev Z162.con : V.Con := ⟨(.cons .str (V.ci .nil)), V.eEntry, fun (x : ByteArray × Int) => Z162 x.1 x.2, [], [(false, 1), (false, 1)], [(true, 4)], [false, false, false, true], []⟩
noncomputable abbrev Z162.E : V.Env := V.mkE V.tys [] [] [] [] [] []
theorem Z162.eq (x0 : ByteArray) (x1 : Int) : V.evBody Z162.E Z162.con Tryz.f137 ((x0, x1) : ByteArray × Int) = Z162 x0 x1 := by kernel_rfl
theorem Z162.ok : V.Valid Tryz.prog 137 Z162.con :=
 V.fo V.tab_nil Tryz.func137 (by kernel_rfl) (fun x y h => (show V.evBody Z162.E Z162.con Tryz.f137 x = _ from Z162.eq x.1 x.2).trans (V.cfl (by kernel_rfl) h))
noncomputable abbrev Z58.con : V.Con := ⟨(.cons (.ptr (.cons (.sl (.cons (.int .u8) .nil)) (V.ci (V.ci .nil)))) .nil), (.cons (.ptr (.cons (.sl (.cons (.int .u8) .nil)) (V.ci (V.ci .nil)))) (.cons (.sl (.cons .str .nil)) .nil)), fun (x : (Tl1Cur)) => Z58 x, [(0, false)], [(false, 1)], [(false, 1)], [true], []⟩
noncomputable abbrev Z58.E : V.Env := V.mkE V.tys [(27, Z5.con), (136, Z121.con)] [(6, [0, 3, 4], [(64000038400192, (.cons .str .nil), true)])] [] [] [] []
noncomputable abbrev Z58.kt (x0 : (Tl1Cur)) : V.Kt ((Tl1Cur) × List ByteArray) := V.ktOf Z58.E Z58.con Tryz.f139 ((x0) : (Tl1Cur))
noncomputable abbrev Z58.s6 (x0 : (Tl1Cur)) (v6_0 : Int) (v6_2 : Int) (v6_3 : Int) (v6_4 : List ByteArray) : V.St := ⟨[(0, .v false [.ptr 0 0]), (3, .v false [.ref 64000038400192]), (4, .v false [.vi (v6_0)])], [(0, .box [.val (.sl (.cons (.int .u8) .nil) x0.1), .vi (v6_2), .vi (v6_3)]), (64000038400192, .row (.cons .str .nil) true v6_4)]⟩
theorem Z58.r6 (x0 : (Tl1Cur)) (R : V.St → Option ((Tl1Cur) × List ByteArray)) (v6_0 : Int) (v6_2 : Int) (v6_3 : Int) (v6_4 : List ByteArray) : V.loopF Z58.E Tryz.f139.ntmps [1, 1, 0, 1, 0] [] (V.codeOf Tryz.f139) (Z58.kt x0) R (Z58.s6 x0 v6_0 v6_2 v6_3 v6_4) = Z58.g6 x0 (fun v6_0 v6_2 v6_3 v6_4 => R (Z58.s6 x0 v6_0 v6_2 v6_3 v6_4)) v6_0 v6_2 v6_3 v6_4 := by kernel_rfl
theorem Z58.e6 (x0 : (Tl1Cur)) : ∀ (n : Nat) (v6_0 : Int) (v6_2 : Int) (v6_3 : Int) (v6_4 : List ByteArray), V.loopN (V.loopF Z58.E Tryz.f139.ntmps [1, 1, 0, 1, 0] [] (V.codeOf Tryz.f139) (Z58.kt x0)) n (Z58.s6 x0 v6_0 v6_2 v6_3 v6_4) = Z58.l6 x0 n v6_0 v6_2 v6_3 v6_4 := by
 intro n
 induction n with
 | zero => intros; rw [V.loopN_z]; rfl
 | succ n ih =>
   intro v6_0 v6_2 v6_3 v6_4
   rw [V.loopN_s, Z58.r6]
   simp only [ih]
   first | exact (Z58.u6 ..).symm | rfl
theorem Z58.v (x0 : (Tl1Cur)) : V.evBody Z58.E Z58.con Tryz.f139 ((x0) : (Tl1Cur)) = Z58.b x0 (fun v6_0 v6_2 v6_3 v6_4 => V.loopN (V.loopF Z58.E Tryz.f139.ntmps [1, 1, 0, 1, 0] [] (V.codeOf Tryz.f139) (Z58.kt x0)) V.KK (Z58.s6 x0 v6_0 v6_2 v6_3 v6_4)) := by kernel_rfl
theorem Z58.eq (x0 : (Tl1Cur)) : V.evBody Z58.E Z58.con Tryz.f139 ((x0) : (Tl1Cur)) = Z58 x0 := by
 rw [Z58.v]
 simp only [Z58.e6]
 rfl
theorem Z58.ok : V.Valid Tryz.prog 139 Z58.con :=
 V.fo (V.tab_cons Z5.ok (V.tab_cons Z121.ok V.tab_nil)) Tryz.func139 (by kernel_rfl) (fun x y h => (show V.evBody Z58.E Z58.con Tryz.f139 x = _ from Z58.eq x).trans (V.cfl (by kernel_rfl) h))
noncomputable abbrev Z122.con : V.Con := ⟨(.cons (.sl (.cons .str .nil)) .nil), (.cons (.sl (.cons .str .nil)) .nil), fun (x : List ByteArray) => Z122 x, [], [(false, 1)], [(false, 1)], [true], []⟩
noncomputable abbrev Z122.E : V.Env := V.mkE V.tys [] [] [] [] [] []
theorem Z122.eq (x0 : List ByteArray) : V.evBody Z122.E Z122.con Tryz.f153 ((x0) : List ByteArray) = Z122 x0 := by kernel_rfl
theorem Z122.ok : V.Valid Tryz.prog 153 Z122.con :=
 V.fo V.tab_nil Tryz.func153 (by kernel_rfl) (fun x y h => (show V.evBody Z122.E Z122.con Tryz.f153 x = _ from Z122.eq x).trans (V.cfl (by kernel_rfl) h))
noncomputable abbrev Z160.con : V.Con := ⟨(.cons .str (V.ci (.cons (.sl (.cons .str .nil)) .nil))), V.eEntry, fun (x : ByteArray × Int × List ByteArray) => Z160 x.1 x.2.1 x.2.2, [], [(false, 1), (false, 1), (false, 1)], [(true, 4)], [false, false, false, true], []⟩
noncomputable abbrev Z160.E : V.Env := V.mkE V.tys [(153, Z122.con)] [] [] [] [] []
theorem Z160.eq (x0 : ByteArray) (x1 : Int) (x2 : List ByteArray) : V.evBody Z160.E Z160.con Tryz.f138 ((x0, x1, x2) : ByteArray × Int × List ByteArray) = Z160 x0 x1 x2 := by kernel_rfl
theorem Z160.ok : V.Valid Tryz.prog 138 Z160.con :=
 V.fo (V.tab_cons Z122.ok V.tab_nil) Tryz.func138 (by kernel_rfl) (fun x y h => (show V.evBody Z160.E Z160.con Tryz.f138 x = _ from Z160.eq x.1 x.2.1 x.2.2).trans (V.cfl (by kernel_rfl) h))
noncomputable abbrev Z161.con : V.Con := ⟨(.cons .str (V.ci .nil)), V.eEntry, fun (x : ByteArray × Int) => Z161 x.1 x.2, [], [(false, 1), (false, 1)], [(true, 4)], [false, false, false, true], []⟩
noncomputable abbrev Z161.E : V.Env := V.mkE V.tys [] [] [] [] [] []
theorem Z161.eq (x0 : ByteArray) (x1 : Int) : V.evBody Z161.E Z161.con Tryz.f140 ((x0, x1) : ByteArray × Int) = Z161 x0 x1 := by kernel_rfl
theorem Z161.ok : V.Valid Tryz.prog 140 Z161.con :=
 V.fo V.tab_nil Tryz.func140 (by kernel_rfl) (fun x y h => (show V.evBody Z161.E Z161.con Tryz.f140 x = _ from Z161.eq x.1 x.2).trans (V.cfl (by kernel_rfl) h))
noncomputable abbrev Z154.con : V.Con := ⟨(.cons (.ptr (.cons (.sl (.cons (.int .u8) .nil)) (V.ci (V.ci .nil)))) .nil), (.cons (.ptr (.cons (.sl (.cons (.int .u8) .nil)) (V.ci (V.ci .nil)))) (.cons .str (V.ci (V.ci (.cons (.sl (.cons .str .nil)) .nil))))), fun (x : (Tl1Cur)) => Z154 x, [(0, false)], [(false, 1)], [(true, 4)], [false, false, false, true], []⟩
noncomputable abbrev Z154.E : V.Env := V.mkE V.tys [(27, Z5.con), (136, Z121.con), (137, Z162.con), (138, Z160.con), (139, Z58.con), (140, Z161.con)] [] [] [] [] []
theorem Z154.eq (x0 : (Tl1Cur)) : V.evBody Z154.E Z154.con Tryz.f119 ((x0) : (Tl1Cur)) = Z154 x0 := by kernel_rfl
theorem Z154.ok : V.Valid Tryz.prog 119 Z154.con :=
 V.fo (V.tab_cons Z5.ok (V.tab_cons Z121.ok (V.tab_cons Z162.ok (V.tab_cons Z160.ok (V.tab_cons Z58.ok (V.tab_cons Z161.ok V.tab_nil)))))) Tryz.func119 (by kernel_rfl) (fun x y h => (show V.evBody Z154.E Z154.con Tryz.f119 x = _ from Z154.eq x).trans (V.cfl (by kernel_rfl) h))
noncomputable abbrev Z116.con : V.Con := ⟨(.cons .str (.cons .str .nil)), (V.ci .nil), fun (x : ByteArray × ByteArray) => Z116 x.1 x.2, [], [(false, 1), (false, 1)], [(false, 1)], [false], []⟩
noncomputable abbrev Z116.E : V.Env := V.mkE V.tys [] [] [] [] [] []
theorem Z116.eq (x0 : ByteArray) (x1 : ByteArray) : V.evBody Z116.E Z116.con Tryz.f133 ((x0, x1) : ByteArray × ByteArray) = Z116 x0 x1 := by kernel_rfl
theorem Z116.ok : V.Valid Tryz.prog 133 Z116.con :=
 V.fo V.tab_nil Tryz.func133 (by kernel_rfl) (fun x y h => (show V.evBody Z116.E Z116.con Tryz.f133 x = _ from Z116.eq x.1 x.2).trans (V.cfl (by kernel_rfl) h))
noncomputable abbrev Z107.con : V.Con := ⟨V.eEntry, V.eEntry, fun (x : ByteArray × Int × Int × List ByteArray) => Z107 x, [], [(true, 4)], [(true, 4)], [false, false, false, true], []⟩
noncomputable abbrev Z107.E : V.Env := V.mkE V.tys [(153, Z122.con)] [] [(1, 9)] [] [] []
theorem Z107.eq (x0 : TEntry) : V.evBody Z107.E Z107.con Tryz.f134 ((x0.1, x0.2.1, x0.2.2.1, x0.2.2.2) : ByteArray × Int × Int × List ByteArray) = Z107 x0 := by kernel_rfl
theorem Z107.ok : V.Valid Tryz.prog 134 Z107.con :=
 V.fo (V.tab_cons Z122.ok V.tab_nil) Tryz.func134 (by kernel_rfl) (fun x y h => (show V.evBody Z107.E Z107.con Tryz.f134 x = _ from Z107.eq x).trans (V.cfl (by kernel_rfl) h))
noncomputable abbrev Z29.con : V.Con := ⟨(V.ci (V.ci (V.ci .nil))), (.cons .bool .nil), fun (x : Int × Int × Int) => Z29 x.1 x.2.1 x.2.2, [], [(false, 1), (false, 1), (false, 1)], [(false, 1)], [false], []⟩
noncomputable abbrev Z29.E : V.Env := V.mkE V.tys [] [] [] [] [] []
theorem Z29.eq (x0 : Int) (x1 : Int) (x2 : Int) : V.evBody Z29.E Z29.con Tryz.f75 ((x0, x1, x2) : Int × Int × Int) = Z29 x0 x1 x2 := by kernel_rfl
theorem Z29.ok : V.Valid Tryz.prog 75 Z29.con :=
 V.fo V.tab_nil Tryz.func75 (by kernel_rfl) (fun x y h => (show V.evBody Z29.E Z29.con Tryz.f75 x = _ from Z29.eq x.1 x.2.1 x.2.2).trans (V.cfl (by kernel_rfl) h))
noncomputable abbrev Z15.con : V.Con := ⟨(.cons .str .nil), (.cons .bool .nil), fun (x : ByteArray) => Z15 x, [], [(false, 1)], [(false, 1)], [false], []⟩
noncomputable abbrev Z15.E : V.Env := V.mkE V.tys [(75, Z29.con)] [(7, [0], []), (8, [0, 3], [])] [] [] [] []
noncomputable abbrev Z15.kt (x0 : ByteArray) : V.Kt Bool := V.ktOf Z15.E Z15.con Tryz.f159 ((x0) : ByteArray)
noncomputable abbrev Z15.s8 (x0 : ByteArray) (v8_1 : Int) : V.St := ⟨[(0, .v false [.val (.str x0)]), (3, .v false [.vi (v8_1)])], []⟩
noncomputable abbrev Z15.s7 (x0 : ByteArray) : V.St := ⟨[(0, .v false [.val (.str x0)])], []⟩
theorem Z15.r8 (x0 : ByteArray) (R : V.St → Option Bool) (v8_1 : Int) : V.loopF Z15.E Tryz.f159.ntmps [1, 1, 0, 1, 0] [] (V.codeOf Tryz.f159) (Z15.kt x0) R (Z15.s8 x0 v8_1) = Z15.g8 x0 (fun v8_1 => R (Z15.s8 x0 v8_1)) v8_1 := by kernel_rfl
theorem Z15.e8 (x0 : ByteArray) : ∀ (n : Nat) (v8_1 : Int), V.loopN (V.loopF Z15.E Tryz.f159.ntmps [1, 1, 0, 1, 0] [] (V.codeOf Tryz.f159) (Z15.kt x0)) n (Z15.s8 x0 v8_1) = Z15.l8 x0 n v8_1 := by
 intro n
 induction n with
 | zero => intros; rw [V.loopN_z]; rfl
 | succ n ih =>
   intro v8_1
   rw [V.loopN_s, Z15.r8]
   simp only [ih]
   first | exact (Z15.u8 ..).symm | rfl
theorem Z15.r7 (x0 : ByteArray) : V.joinF Z15.E Tryz.f159.ntmps [1] [] (V.codeOf Tryz.f159) (Z15.kt x0) (Z15.s7 x0) = Z15.g7 x0 (fun v8_1 => V.loopN (V.loopF Z15.E Tryz.f159.ntmps [1, 1, 0, 1, 0] [] (V.codeOf Tryz.f159) (Z15.kt x0)) V.KK (Z15.s8 x0 v8_1)) := by kernel_rfl
theorem Z15.e7 (x0 : ByteArray) : V.jn (V.joinF Z15.E Tryz.f159.ntmps [1] [] (V.codeOf Tryz.f159) (Z15.kt x0)) (Z15.s7 x0) = Z15.l7 x0 := by
 rw [V.jn_eq, Z15.r7]
 simp only [Z15.e8]
 rfl
theorem Z15.v (x0 : ByteArray) : V.evBody Z15.E Z15.con Tryz.f159 ((x0) : ByteArray) = Z15.b x0 (V.jn (V.joinF Z15.E Tryz.f159.ntmps [1] [] (V.codeOf Tryz.f159) (Z15.kt x0)) (Z15.s7 x0)) := by kernel_rfl
theorem Z15.eq (x0 : ByteArray) : V.evBody Z15.E Z15.con Tryz.f159 ((x0) : ByteArray) = Z15 x0 := by
 rw [Z15.v]
 simp only [Z15.e7]
 rfl
theorem Z15.ok : V.Valid Tryz.prog 159 Z15.con :=
 V.fo (V.tab_cons Z29.ok V.tab_nil) Tryz.func159 (by kernel_rfl) (fun x y h => (show V.evBody Z15.E Z15.con Tryz.f159 x = _ from Z15.eq x).trans (V.cfl (by kernel_rfl) h))
noncomputable abbrev Z49.con : V.Con := ⟨(.cons (.sl (.cons .str .nil)) .nil), (.cons .bool .nil), fun (x : List ByteArray) => Z49 x, [], [(false, 1)], [(false, 1)], [false], []⟩
noncomputable abbrev Z49.E : V.Env := V.mkE V.tys [(75, Z29.con), (159, Z15.con)] [(4, [0, 3], [])] [] [] [] []
noncomputable abbrev Z49.kt (x0 : List ByteArray) : V.Kt Bool := V.ktOf Z49.E Z49.con Tryz.f160 ((x0) : List ByteArray)
noncomputable abbrev Z49.s4 (x0 : List ByteArray) (v4_1 : Int) : V.St := ⟨[(0, .v false [.val (.sl (.cons .str .nil) x0)]), (3, .v false [.vi (v4_1)])], []⟩
theorem Z49.r4 (x0 : List ByteArray) (R : V.St → Option Bool) (v4_1 : Int) : V.loopF Z49.E Tryz.f160.ntmps [1, 0, 1, 0] [] (V.codeOf Tryz.f160) (Z49.kt x0) R (Z49.s4 x0 v4_1) = Z49.g4 x0 (fun v4_1 => R (Z49.s4 x0 v4_1)) v4_1 := by kernel_rfl
theorem Z49.e4 (x0 : List ByteArray) : ∀ (n : Nat) (v4_1 : Int), V.loopN (V.loopF Z49.E Tryz.f160.ntmps [1, 0, 1, 0] [] (V.codeOf Tryz.f160) (Z49.kt x0)) n (Z49.s4 x0 v4_1) = Z49.l4 x0 n v4_1 := by
 intro n
 induction n with
 | zero => intros; rw [V.loopN_z]; rfl
 | succ n ih =>
   intro v4_1
   rw [V.loopN_s, Z49.r4]
   simp only [ih]
   first | exact (Z49.u4 ..).symm | rfl
theorem Z49.v (x0 : List ByteArray) : V.evBody Z49.E Z49.con Tryz.f160 ((x0) : List ByteArray) = Z49.b x0 (fun v4_1 => V.loopN (V.loopF Z49.E Tryz.f160.ntmps [1, 0, 1, 0] [] (V.codeOf Tryz.f160) (Z49.kt x0)) V.KK (Z49.s4 x0 v4_1)) := by kernel_rfl
theorem Z49.eq (x0 : List ByteArray) : V.evBody Z49.E Z49.con Tryz.f160 ((x0) : List ByteArray) = Z49 x0 := by
 rw [Z49.v]
 simp only [Z49.e4]
 rfl
theorem Z49.ok : V.Valid Tryz.prog 160 Z49.con :=
 V.fo (V.tab_cons Z29.ok (V.tab_cons Z15.ok V.tab_nil)) Tryz.func160 (by kernel_rfl) (fun x y h => (show V.evBody Z49.E Z49.con Tryz.f160 x = _ from Z49.eq x).trans (V.cfl (by kernel_rfl) h))
noncomputable abbrev Z147.con : V.Con := ⟨V.eEntry, (.cons .bool .nil), fun (x : ByteArray × Int × Int × List ByteArray) => Z147 x, [], [(true, 4)], [(false, 1)], [false], []⟩
noncomputable abbrev Z147.E : V.Env := V.mkE V.tys [(75, Z29.con), (159, Z15.con), (160, Z49.con)] [] [] [] [] []
theorem Z147.eq (x0 : TEntry) : V.evBody Z147.E Z147.con Tryz.f152 ((x0.1, x0.2.1, x0.2.2.1, x0.2.2.2) : ByteArray × Int × Int × List ByteArray) = Z147 x0 := by kernel_rfl
theorem Z147.ok : V.Valid Tryz.prog 152 Z147.con :=
 V.fo (V.tab_cons Z29.ok (V.tab_cons Z15.ok (V.tab_cons Z49.ok V.tab_nil))) Tryz.func152 (by kernel_rfl) (fun x y h => (show V.evBody Z147.E Z147.con Tryz.f152 x = _ from Z147.eq x).trans (V.cfl (by kernel_rfl) h))
noncomputable abbrev Z27.con : V.Con := ⟨(.cons (.sl V.eEntry) .nil), (.cons .bool .nil), fun (x : List TEntry) => Z27 x, [], [(false, 1)], [(false, 1)], [false], []⟩
noncomputable abbrev Z27.E : V.Env := V.mkE V.tys [(133, Z116.con), (152, Z147.con)] [(4, [0, 3], [])] [(4, 21)] [] [] []
noncomputable abbrev Z27.kt (x0 : List TEntry) : V.Kt Bool := V.ktOf Z27.E Z27.con Tryz.f129 ((x0) : List TEntry)
noncomputable abbrev Z27.s4 (x0 : List TEntry) (v4_1 : Int) : V.St := ⟨[(0, .v false [.val (.sl V.eEntry x0)]), (3, .v false [.vi (v4_1)])], []⟩
theorem Z27.r4 (x0 : List TEntry) (R : V.St → Option Bool) (v4_1 : Int) : V.loopF Z27.E Tryz.f129.ntmps [1, 0, 1, 0] [] (V.codeOf Tryz.f129) (Z27.kt x0) R (Z27.s4 x0 v4_1) = Z27.g4 x0 (fun v4_1 => R (Z27.s4 x0 v4_1)) v4_1 := by kernel_rfl
theorem Z27.e4 (x0 : List TEntry) : ∀ (n : Nat) (v4_1 : Int), V.loopN (V.loopF Z27.E Tryz.f129.ntmps [1, 0, 1, 0] [] (V.codeOf Tryz.f129) (Z27.kt x0)) n (Z27.s4 x0 v4_1) = Z27.l4 x0 n v4_1 := by
 intro n
 induction n with
 | zero => intros; rw [V.loopN_z]; rfl
 | succ n ih =>
   intro v4_1
   rw [V.loopN_s, Z27.r4]
   simp only [ih]
   first | exact (Z27.u4 ..).symm | rfl
theorem Z27.v (x0 : List TEntry) : V.evBody Z27.E Z27.con Tryz.f129 ((x0) : List TEntry) = Z27.b x0 (fun v4_1 => V.loopN (V.loopF Z27.E Tryz.f129.ntmps [1, 0, 1, 0] [] (V.codeOf Tryz.f129) (Z27.kt x0)) V.KK (Z27.s4 x0 v4_1)) := by kernel_rfl
theorem Z27.eq (x0 : List TEntry) : V.evBody Z27.E Z27.con Tryz.f129 ((x0) : List TEntry) = Z27 x0 := by
 rw [Z27.v]
 simp only [Z27.e4]
 rfl
theorem Z27.ok : V.Valid Tryz.prog 129 Z27.con :=
 V.fo (V.tab_cons Z116.ok (V.tab_cons Z147.ok V.tab_nil)) Tryz.func129 (by kernel_rfl) (fun x y h => (show V.evBody Z27.E Z27.con Tryz.f129 x = _ from Z27.eq x).trans (V.cfl (by kernel_rfl) h))
noncomputable abbrev Z62.con : V.Con := ⟨(.cons (.sl V.eEntry) .nil), (.cons (.sl V.eEntry) .nil), fun (x : List TEntry) => Z62 x, [], [(false, 1)], [(false, 1)], [true], []⟩
noncomputable abbrev Z62.E : V.Env := V.mkE V.tys [(134, Z107.con)] [(6, [0, 3, 4], [(64000038400192, V.eEntry, true)])] [] [] [] []
noncomputable abbrev Z62.kt (x0 : List TEntry) : V.Kt (List TEntry) := V.ktOf Z62.E Z62.con Tryz.f135 ((x0) : List TEntry)
noncomputable abbrev Z62.s6 (x0 : List TEntry) (v6_1 : Int) (v6_2 : List TEntry) : V.St := ⟨[(0, .v false [.val (.sl V.eEntry x0)]), (3, .v false [.ref 64000038400192]), (4, .v false [.vi (v6_1)])], [(64000038400192, .row V.eEntry true v6_2)]⟩
theorem Z62.r6 (x0 : List TEntry) (R : V.St → Option (List TEntry)) (v6_1 : Int) (v6_2 : List TEntry) : V.loopF Z62.E Tryz.f135.ntmps [1, 1, 0, 1, 0] [] (V.codeOf Tryz.f135) (Z62.kt x0) R (Z62.s6 x0 v6_1 v6_2) = Z62.g6 x0 (fun v6_1 v6_2 => R (Z62.s6 x0 v6_1 v6_2)) v6_1 v6_2 := by kernel_rfl
theorem Z62.e6 (x0 : List TEntry) : ∀ (n : Nat) (v6_1 : Int) (v6_2 : List TEntry), V.loopN (V.loopF Z62.E Tryz.f135.ntmps [1, 1, 0, 1, 0] [] (V.codeOf Tryz.f135) (Z62.kt x0)) n (Z62.s6 x0 v6_1 v6_2) = Z62.l6 x0 n v6_1 v6_2 := by
 intro n
 induction n with
 | zero => intros; rw [V.loopN_z]; rfl
 | succ n ih =>
   intro v6_1 v6_2
   rw [V.loopN_s, Z62.r6]
   simp only [ih]
   first | exact (Z62.u6 ..).symm | rfl
theorem Z62.v (x0 : List TEntry) : V.evBody Z62.E Z62.con Tryz.f135 ((x0) : List TEntry) = Z62.b x0 (fun v6_1 v6_2 => V.loopN (V.loopF Z62.E Tryz.f135.ntmps [1, 1, 0, 1, 0] [] (V.codeOf Tryz.f135) (Z62.kt x0)) V.KK (Z62.s6 x0 v6_1 v6_2)) := by kernel_rfl
theorem Z62.eq (x0 : List TEntry) : V.evBody Z62.E Z62.con Tryz.f135 ((x0) : List TEntry) = Z62 x0 := by
 rw [Z62.v]
 simp only [Z62.e6]
 rfl
theorem Z62.ok : V.Valid Tryz.prog 135 Z62.con :=
 V.fo (V.tab_cons Z107.ok V.tab_nil) Tryz.func135 (by kernel_rfl) (fun x y h => (show V.evBody Z62.E Z62.con Tryz.f135 x = _ from Z62.eq x).trans (V.cfl (by kernel_rfl) h))
noncomputable abbrev Z2.con : V.Con := ⟨(.cons (.sl V.eEntry) (.cons .str (V.ci (V.ci (.cons (.sl (.cons .str .nil)) .nil))))), (.cons (.sl V.eEntry) (.cons .bool .nil)), fun (x : List TEntry × ByteArray × Int × Int × List ByteArray) => Z2 x.1 x.2, [], [(false, 1), (true, 4)], [(false, 1), (false, 1)], [true, false], []⟩
noncomputable abbrev Z2.E : V.Env := V.mkE V.tys [(129, Z27.con), (133, Z116.con), (134, Z107.con), (135, Z62.con)] [(8, [0, 3, 6, 7, 8], [(64000051200384, V.eEntry, true)]), (17, [0, 3, 6, 7, 8, 9, 30], []), (21, [0, 3, 6, 7, 8, 9], []), (29, [0, 6], []), (31, [0, 6, 60], [])] [(6, 7)] [] [] []
noncomputable abbrev Z2.kt (x0 : List TEntry) (x1 : TEntry) : V.Kt (List TEntry × Bool) := V.ktOf Z2.E Z2.con Tryz.f118 ((x0, x1.1, x1.2.1, x1.2.2.1, x1.2.2.2) : List TEntry × ByteArray × Int × Int × List ByteArray)
noncomputable abbrev Z2.s21 (x0 : List TEntry) (x1 : TEntry) (v8_2 : Int) (y1 : Int) (v21_1 : Bool) (v21_8 : List TEntry) : V.St := ⟨[(0, .v false [.val (.sl V.eEntry x0)]), (3, .v false [.ptr 64000 0]), (6, .v false [.ref 64000134400384]), (7, .v false [.val (.bool v21_1)]), (8, .v false [.vi (v8_2)]), (9, .v false [.vi (y1)])], [(64000, .box [.val (.str x1.1), .vi (x1.2.1), .vi (x1.2.2.1), .val (.sl (.cons .str .nil) x1.2.2.2)]), (64000134400384, .row V.eEntry true v21_8)]⟩
noncomputable abbrev Z2.s17 (x0 : List TEntry) (x1 : TEntry) (v8_1 : Bool) (v8_2 : Int) (v8_7 : List TEntry) (y1 : Int) (v17_4 : Bool) : V.St := ⟨[(0, .v false [.val (.sl V.eEntry x0)]), (3, .v false [.ptr 64000 0]), (6, .v false [.ref 64000108800384]), (7, .v false [.val (.bool v8_1)]), (8, .v false [.vi (v8_2)]), (9, .v false [.vi (y1)]), (30, .v false [.val (.bool v17_4)])], [(64000, .box [.val (.str x1.1), .vi (x1.2.1), .vi (x1.2.2.1), .val (.sl (.cons .str .nil) x1.2.2.2)]), (64000108800384, .row V.eEntry true v8_7)]⟩
noncomputable abbrev Z2.s31 (x0 : List TEntry) (v29_1 : List TEntry) (v31_1 : Bool) : V.St := ⟨[(0, .v false [.val (.sl V.eEntry x0)]), (6, .v false [.ref 64000198400384]), (60, .v false [.val (.bool v31_1)])], [(64000198400384, .row V.eEntry true v29_1)]⟩
noncomputable abbrev Z2.s29 (x0 : List TEntry) (v29_1 : List TEntry) : V.St := ⟨[(0, .v false [.val (.sl V.eEntry x0)]), (6, .v false [.ref 64000185600384])], [(64000185600384, .row V.eEntry true v29_1)]⟩
noncomputable abbrev Z2.s8 (x0 : List TEntry) (x1 : TEntry) (v8_1 : Bool) (v8_2 : Int) (v8_7 : List TEntry) : V.St := ⟨[(0, .v false [.val (.sl V.eEntry x0)]), (3, .v false [.ptr 64000 0]), (6, .v false [.ref 64000051200384]), (7, .v false [.val (.bool v8_1)]), (8, .v false [.vi (v8_2)])], [(64000, .box [.val (.str x1.1), .vi (x1.2.1), .vi (x1.2.2.1), .val (.sl (.cons .str .nil) x1.2.2.2)]), (64000051200384, .row V.eEntry true v8_7)]⟩
theorem Z2.r21 (x0 : List TEntry) (x1 : TEntry) (v8_2 : Int) (y1 : Int) (R8 : V.St → Option (List TEntry × Bool)) (v21_1 : Bool) (v21_8 : List TEntry) : V.joinF Z2.E Tryz.f118.ntmps [1, 1, 1, 0, 1, 0, 0, 1, 0, 0, 1] [R8] (V.codeOf Tryz.f118) (Z2.kt x0 x1) (Z2.s21 x0 x1 v8_2 y1 v21_1 v21_8) = Z2.g21 x0 x1 v8_2 y1 (fun v8_1 v8_2 v8_7 => R8 (Z2.s8 x0 x1 v8_1 v8_2 v8_7)) v21_1 v21_8 := by kernel_rfl
theorem Z2.e21 (x0 : List TEntry) (x1 : TEntry) (v8_2 : Int) (y1 : Int) (R8 : V.St → Option (List TEntry × Bool)) (v21_1 : Bool) (v21_8 : List TEntry) : V.jn (V.joinF Z2.E Tryz.f118.ntmps [1, 1, 1, 0, 1, 0, 0, 1, 0, 0, 1] [R8] (V.codeOf Tryz.f118) (Z2.kt x0 x1)) (Z2.s21 x0 x1 v8_2 y1 v21_1 v21_8) = Z2.l21 x0 x1 v8_2 y1 (fun v8_1 v8_2 v8_7 => R8 (Z2.s8 x0 x1 v8_1 v8_2 v8_7)) v21_1 v21_8 := by
 rw [V.jn_eq, Z2.r21]
 rfl
theorem Z2.r17 (x0 : List TEntry) (x1 : TEntry) (v8_1 : Bool) (v8_2 : Int) (v8_7 : List TEntry) (y1 : Int) (R8 : V.St → Option (List TEntry × Bool)) (v17_4 : Bool) : V.joinF Z2.E Tryz.f118.ntmps [1, 1, 1, 0, 1, 0, 0, 1, 0, 0, 1, 0] [R8] (V.codeOf Tryz.f118) (Z2.kt x0 x1) (Z2.s17 x0 x1 v8_1 v8_2 v8_7 y1 v17_4) = Z2.g17 x0 x1 v8_1 v8_2 v8_7 y1 (fun v8_1 v8_2 v8_7 => R8 (Z2.s8 x0 x1 v8_1 v8_2 v8_7)) (fun y1 v21_1 v21_8 => V.jn (V.joinF Z2.E Tryz.f118.ntmps [1, 1, 1, 0, 1, 0, 0, 1, 0, 0, 1] [R8] (V.codeOf Tryz.f118) (Z2.kt x0 x1)) (Z2.s21 x0 x1 v8_2 y1 v21_1 v21_8)) v17_4 := by kernel_rfl
theorem Z2.e17 (x0 : List TEntry) (x1 : TEntry) (v8_1 : Bool) (v8_2 : Int) (v8_7 : List TEntry) (y1 : Int) (R8 : V.St → Option (List TEntry × Bool)) (v17_4 : Bool) : V.jn (V.joinF Z2.E Tryz.f118.ntmps [1, 1, 1, 0, 1, 0, 0, 1, 0, 0, 1, 0] [R8] (V.codeOf Tryz.f118) (Z2.kt x0 x1)) (Z2.s17 x0 x1 v8_1 v8_2 v8_7 y1 v17_4) = Z2.l17 x0 x1 v8_1 v8_2 v8_7 y1 (fun v8_1 v8_2 v8_7 => R8 (Z2.s8 x0 x1 v8_1 v8_2 v8_7)) v17_4 := by
 rw [V.jn_eq, Z2.r17]
 simp only [Z2.e21]
 rfl
theorem Z2.r31 (x0 : List TEntry) (x1 : TEntry) (v29_1 : List TEntry) (v31_1 : Bool) : V.joinF Z2.E Tryz.f118.ntmps [1, 1, 1, 1, 1, 0] [] (V.codeOf Tryz.f118) (Z2.kt x0 x1) (Z2.s31 x0 v29_1 v31_1) = Z2.g31 x0 v29_1 v31_1 := by kernel_rfl
theorem Z2.e31 (x0 : List TEntry) (x1 : TEntry) (v29_1 : List TEntry) (v31_1 : Bool) : V.jn (V.joinF Z2.E Tryz.f118.ntmps [1, 1, 1, 1, 1, 0] [] (V.codeOf Tryz.f118) (Z2.kt x0 x1)) (Z2.s31 x0 v29_1 v31_1) = Z2.l31 x0 v29_1 v31_1 := by
 rw [V.jn_eq, Z2.r31]
 rfl
theorem Z2.r29 (x0 : List TEntry) (x1 : TEntry) (v29_1 : List TEntry) : V.joinF Z2.E Tryz.f118.ntmps [1, 1, 1, 1] [] (V.codeOf Tryz.f118) (Z2.kt x0 x1) (Z2.s29 x0 v29_1) = Z2.g29 x0 (fun v31_1 => V.jn (V.joinF Z2.E Tryz.f118.ntmps [1, 1, 1, 1, 1, 0] [] (V.codeOf Tryz.f118) (Z2.kt x0 x1)) (Z2.s31 x0 v29_1 v31_1)) v29_1 := by kernel_rfl
theorem Z2.e29 (x0 : List TEntry) (x1 : TEntry) (v29_1 : List TEntry) : V.jn (V.joinF Z2.E Tryz.f118.ntmps [1, 1, 1, 1] [] (V.codeOf Tryz.f118) (Z2.kt x0 x1)) (Z2.s29 x0 v29_1) = Z2.l29 x0 v29_1 := by
 rw [V.jn_eq, Z2.r29]
 simp only [Z2.e31]
 rfl
theorem Z2.r8 (x0 : List TEntry) (x1 : TEntry) (R : V.St → Option (List TEntry × Bool)) (v8_1 : Bool) (v8_2 : Int) (v8_7 : List TEntry) : V.loopF Z2.E Tryz.f118.ntmps [1, 1, 1, 0, 1, 0] [] (V.codeOf Tryz.f118) (Z2.kt x0 x1) R (Z2.s8 x0 x1 v8_1 v8_2 v8_7) = Z2.g8 x0 x1 (fun v8_1 v8_2 v8_7 => R (Z2.s8 x0 x1 v8_1 v8_2 v8_7)) (fun y1 v17_4 => V.jn (V.joinF Z2.E Tryz.f118.ntmps [1, 1, 1, 0, 1, 0, 0, 1, 0, 0, 1, 0] [R] (V.codeOf Tryz.f118) (Z2.kt x0 x1)) (Z2.s17 x0 x1 v8_1 v8_2 v8_7 y1 v17_4)) (fun v29_1 => V.jn (V.joinF Z2.E Tryz.f118.ntmps [1, 1, 1, 1] [] (V.codeOf Tryz.f118) (Z2.kt x0 x1)) (Z2.s29 x0 v29_1)) v8_1 v8_2 v8_7 := by kernel_rfl
theorem Z2.e8 (x0 : List TEntry) (x1 : TEntry) : ∀ (n : Nat) (v8_1 : Bool) (v8_2 : Int) (v8_7 : List TEntry), V.loopN (V.loopF Z2.E Tryz.f118.ntmps [1, 1, 1, 0, 1, 0] [] (V.codeOf Tryz.f118) (Z2.kt x0 x1)) n (Z2.s8 x0 x1 v8_1 v8_2 v8_7) = Z2.l8 x0 x1 n v8_1 v8_2 v8_7 := by
 intro n
 induction n with
 | zero => intros; rw [V.loopN_z]; rfl
 | succ n ih =>
   intro v8_1 v8_2 v8_7
   rw [V.loopN_s, Z2.r8]
   simp only [Z2.e17, Z2.e29, ih]
   first | exact (Z2.u8 ..).symm | rfl
theorem Z2.v (x0 : List TEntry) (x1 : TEntry) : V.evBody Z2.E Z2.con Tryz.f118 ((x0, x1.1, x1.2.1, x1.2.2.1, x1.2.2.2) : List TEntry × ByteArray × Int × Int × List ByteArray) = Z2.b x0 x1 (fun v8_1 v8_2 v8_7 => V.loopN (V.loopF Z2.E Tryz.f118.ntmps [1, 1, 1, 0, 1, 0] [] (V.codeOf Tryz.f118) (Z2.kt x0 x1)) V.KK (Z2.s8 x0 x1 v8_1 v8_2 v8_7)) := by kernel_rfl
theorem Z2.eq (x0 : List TEntry) (x1 : TEntry) : V.evBody Z2.E Z2.con Tryz.f118 ((x0, x1.1, x1.2.1, x1.2.2.1, x1.2.2.2) : List TEntry × ByteArray × Int × Int × List ByteArray) = Z2 x0 x1 := by
 rw [Z2.v]
 simp only [Z2.e8]
 rfl
theorem Z2.ok : V.Valid Tryz.prog 118 Z2.con :=
 V.fo (V.tab_cons Z27.ok (V.tab_cons Z116.ok (V.tab_cons Z107.ok (V.tab_cons Z62.ok V.tab_nil)))) Tryz.func118 (by kernel_rfl) (fun x y h => (show V.evBody Z2.E Z2.con Tryz.f118 x = _ from Z2.eq x.1 x.2).trans (V.cfl (by kernel_rfl) h))
noncomputable abbrev Z47.con : V.Con := ⟨(.cons (.ptr (.cons (.sl (.cons (.int .u8) .nil)) (V.ci (V.ci .nil)))) .nil), (.cons (.ptr (.cons (.sl (.cons (.int .u8) .nil)) (V.ci (V.ci .nil)))) (.cons (.sl V.eEntry) .nil)), fun (x : (Tl1Cur)) => Z47 x, [(0, false)], [(false, 1)], [(false, 1)], [true], []⟩
noncomputable abbrev Z47.E : V.Env := V.mkE V.tys [(27, Z5.con), (118, Z2.con), (119, Z154.con)] [(6, [0, 3, 4], [(64000038400192, V.eEntry, true)])] [] [] [] []
noncomputable abbrev Z47.kt (x0 : (Tl1Cur)) : V.Kt ((Tl1Cur) × List TEntry) := V.ktOf Z47.E Z47.con Tryz.f97 ((x0) : (Tl1Cur))
noncomputable abbrev Z47.s6 (x0 : (Tl1Cur)) (v6_0 : Int) (v6_2 : Int) (v6_3 : Int) (v6_4 : List TEntry) : V.St := ⟨[(0, .v false [.ptr 0 0]), (3, .v false [.ref 64000038400192]), (4, .v false [.vi (v6_0)])], [(0, .box [.val (.sl (.cons (.int .u8) .nil) x0.1), .vi (v6_2), .vi (v6_3)]), (64000038400192, .row V.eEntry true v6_4)]⟩
theorem Z47.r6 (x0 : (Tl1Cur)) (R : V.St → Option ((Tl1Cur) × List TEntry)) (v6_0 : Int) (v6_2 : Int) (v6_3 : Int) (v6_4 : List TEntry) : V.loopF Z47.E Tryz.f97.ntmps [1, 1, 0, 1, 0] [] (V.codeOf Tryz.f97) (Z47.kt x0) R (Z47.s6 x0 v6_0 v6_2 v6_3 v6_4) = Z47.g6 x0 (fun v6_0 v6_2 v6_3 v6_4 => R (Z47.s6 x0 v6_0 v6_2 v6_3 v6_4)) v6_0 v6_2 v6_3 v6_4 := by kernel_rfl
theorem Z47.e6 (x0 : (Tl1Cur)) : ∀ (n : Nat) (v6_0 : Int) (v6_2 : Int) (v6_3 : Int) (v6_4 : List TEntry), V.loopN (V.loopF Z47.E Tryz.f97.ntmps [1, 1, 0, 1, 0] [] (V.codeOf Tryz.f97) (Z47.kt x0)) n (Z47.s6 x0 v6_0 v6_2 v6_3 v6_4) = Z47.l6 x0 n v6_0 v6_2 v6_3 v6_4 := by
 intro n
 induction n with
 | zero => intros; rw [V.loopN_z]; rfl
 | succ n ih =>
   intro v6_0 v6_2 v6_3 v6_4
   rw [V.loopN_s, Z47.r6]
   simp only [ih]
   first | exact (Z47.u6 ..).symm | rfl
theorem Z47.v (x0 : (Tl1Cur)) : V.evBody Z47.E Z47.con Tryz.f97 ((x0) : (Tl1Cur)) = Z47.b x0 (fun v6_0 v6_2 v6_3 v6_4 => V.loopN (V.loopF Z47.E Tryz.f97.ntmps [1, 1, 0, 1, 0] [] (V.codeOf Tryz.f97) (Z47.kt x0)) V.KK (Z47.s6 x0 v6_0 v6_2 v6_3 v6_4)) := by kernel_rfl
theorem Z47.eq (x0 : (Tl1Cur)) : V.evBody Z47.E Z47.con Tryz.f97 ((x0) : (Tl1Cur)) = Z47 x0 := by
 rw [Z47.v]
 simp only [Z47.e6]
 rfl
theorem Z47.ok : V.Valid Tryz.prog 97 Z47.con :=
 V.fo (V.tab_cons Z5.ok (V.tab_cons Z2.ok (V.tab_cons Z154.ok V.tab_nil))) Tryz.func97 (by kernel_rfl) (fun x y h => (show V.evBody Z47.E Z47.con Tryz.f97 x = _ from Z47.eq x).trans (V.cfl (by kernel_rfl) h))
noncomputable abbrev Z100.con : V.Con := ⟨(.cons (.sl (V.ci .nil)) (V.ci .nil)), (.cons (.sl (V.ci .nil)) .nil), fun (x : List Int × Int) => Z100 x, [], [(true, 2)], [(false, 1)], [true], []⟩
noncomputable abbrev Z100.E : V.Env := V.mkE V.tys [] [] [] [] [] []
theorem Z100.eq (x0 : TKeys) : V.evBody Z100.E Z100.con Tryz.f105 ((x0.1, x0.2) : List Int × Int) = Z100 x0 := by kernel_rfl
theorem Z100.ok : V.Valid Tryz.prog 105 Z100.con :=
 V.fo V.tab_nil Tryz.func105 (by kernel_rfl) (fun x y h => (show V.evBody Z100.E Z100.con Tryz.f105 x = _ from Z100.eq x).trans (V.cfl (by kernel_rfl) h))
noncomputable abbrev Z151.con : V.Con := ⟨(V.ci (V.ci .nil)), (V.ci .nil), fun (x : Int × Int) => Z151 x.1 x.2, [], [(false, 1), (false, 1)], [(false, 1)], [false], []⟩
noncomputable abbrev Z151.E : V.Env := V.mkE V.tys [(75, Z29.con)] [] [] [] [] []
theorem Z151.eq (x0 : Int) (x1 : Int) : V.evBody Z151.E Z151.con Tryz.f111 ((x0, x1) : Int × Int) = Z151 x0 x1 := by kernel_rfl
theorem Z151.ok : V.Valid Tryz.prog 111 Z151.con :=
 V.fo (V.tab_cons Z29.ok V.tab_nil) Tryz.func111 (by kernel_rfl) (fun x y h => (show V.evBody Z151.E Z151.con Tryz.f111 x = _ from Z151.eq x.1 x.2).trans (V.cfl (by kernel_rfl) h))
noncomputable abbrev Z20.con : V.Con := ⟨(.cons (.sl (V.ci .nil)) .nil), (V.ci .nil), fun (x : List Int) => Z20 x, [], [(false, 1)], [(false, 1)], [false], []⟩
noncomputable abbrev Z20.E : V.Env := V.mkE V.tys [(111, Z151.con)] [(6, [0, 3, 4], [])] [] [] [] []
noncomputable abbrev Z20.kt (x0 : List Int) : V.Kt Int := V.ktOf Z20.E Z20.con Tryz.f92 ((x0) : List Int)
noncomputable abbrev Z20.s6 (x0 : List Int) (v6_1 : Int) (v6_2 : Int) : V.St := ⟨[(0, .v false [.val (.sl (V.ci .nil) x0)]), (3, .v false [.vi (v6_1)]), (4, .v false [.vi (v6_2)])], []⟩
theorem Z20.r6 (x0 : List Int) (R : V.St → Option Int) (v6_1 : Int) (v6_2 : Int) : V.loopF Z20.E Tryz.f92.ntmps [1, 1, 0, 1, 0] [] (V.codeOf Tryz.f92) (Z20.kt x0) R (Z20.s6 x0 v6_1 v6_2) = Z20.g6 x0 (fun v6_1 v6_2 => R (Z20.s6 x0 v6_1 v6_2)) v6_1 v6_2 := by kernel_rfl
theorem Z20.e6 (x0 : List Int) : ∀ (n : Nat) (v6_1 : Int) (v6_2 : Int), V.loopN (V.loopF Z20.E Tryz.f92.ntmps [1, 1, 0, 1, 0] [] (V.codeOf Tryz.f92) (Z20.kt x0)) n (Z20.s6 x0 v6_1 v6_2) = Z20.l6 x0 n v6_1 v6_2 := by
 intro n
 induction n with
 | zero => intros; rw [V.loopN_z]; rfl
 | succ n ih =>
   intro v6_1 v6_2
   rw [V.loopN_s, Z20.r6]
   simp only [ih]
   first | exact (Z20.u6 ..).symm | rfl
theorem Z20.v (x0 : List Int) : V.evBody Z20.E Z20.con Tryz.f92 ((x0) : List Int) = Z20.b x0 (fun v6_1 v6_2 => V.loopN (V.loopF Z20.E Tryz.f92.ntmps [1, 1, 0, 1, 0] [] (V.codeOf Tryz.f92) (Z20.kt x0)) V.KK (Z20.s6 x0 v6_1 v6_2)) := by kernel_rfl
theorem Z20.eq (x0 : List Int) : V.evBody Z20.E Z20.con Tryz.f92 ((x0) : List Int) = Z20 x0 := by
 rw [Z20.v]
 simp only [Z20.e6]
 rfl
theorem Z20.ok : V.Valid Tryz.prog 92 Z20.con :=
 V.fo (V.tab_cons Z151.ok V.tab_nil) Tryz.func92 (by kernel_rfl) (fun x y h => (show V.evBody Z20.E Z20.con Tryz.f92 x = _ from Z20.eq x).trans (V.cfl (by kernel_rfl) h))
noncomputable abbrev Z119.con : V.Con := ⟨(.cons (.sl (V.ci .nil)) (V.ci (V.ci .nil))), (V.ci .nil), fun (x : List Int × Int × Int) => Z119 (x.1, x.2.1) x.2.2, [], [(true, 2), (false, 1)], [(false, 1)], [false], []⟩
noncomputable abbrev Z119.E : V.Env := V.mkE V.tys [(92, Z20.con), (105, Z100.con)] [] [] [] [] []
theorem Z119.eq (x0 : TKeys) (x1 : Int) : V.evBody Z119.E Z119.con Tryz.f128 ((x0.1, x0.2, x1) : List Int × Int × Int) = Z119 x0 x1 := by kernel_rfl
theorem Z119.ok : V.Valid Tryz.prog 128 Z119.con :=
 V.fo (V.tab_cons Z20.ok (V.tab_cons Z100.ok V.tab_nil)) Tryz.func128 (by kernel_rfl) (fun x y h => (show V.evBody Z119.E Z119.con Tryz.f128 x = _ from Z119.eq (x.1, x.2.1) x.2.2).trans (V.cfl (by kernel_rfl) h))
noncomputable abbrev Z59.con : V.Con := ⟨(.cons (.sl (.cons (.int .u8) .nil)) .nil), (.cons (.sl (V.ci .nil)) .nil), fun (x : List Int) => Z59 x, [], [(false, 1)], [(false, 1)], [true], []⟩
noncomputable abbrev Z59.E : V.Env := V.mkE V.tys [] [(6, [0, 3, 4], [])] [] [] [] []
noncomputable abbrev Z59.kt (x0 : List Int) : V.Kt (List Int) := V.ktOf Z59.E Z59.con Tryz.f163 ((x0) : List Int)
noncomputable abbrev Z59.s6 (x0 : List Int) (v6_1 : Int) (v6_2 : List Int) : V.St := ⟨[(0, .v false [.val (.sl (.cons (.int .u8) .nil) x0)]), (3, .v false [.ref 64000038400192]), (4, .v false [.vi (v6_1)])], [(64000038400192, .row (V.ci .nil) true v6_2)]⟩
theorem Z59.r6 (x0 : List Int) (R : V.St → Option (List Int)) (v6_1 : Int) (v6_2 : List Int) : V.loopF Z59.E Tryz.f163.ntmps [1, 1, 0, 1, 0] [] (V.codeOf Tryz.f163) (Z59.kt x0) R (Z59.s6 x0 v6_1 v6_2) = Z59.g6 x0 (fun v6_1 v6_2 => R (Z59.s6 x0 v6_1 v6_2)) v6_1 v6_2 := by kernel_rfl
theorem Z59.e6 (x0 : List Int) : ∀ (n : Nat) (v6_1 : Int) (v6_2 : List Int), V.loopN (V.loopF Z59.E Tryz.f163.ntmps [1, 1, 0, 1, 0] [] (V.codeOf Tryz.f163) (Z59.kt x0)) n (Z59.s6 x0 v6_1 v6_2) = Z59.l6 x0 n v6_1 v6_2 := by
 intro n
 induction n with
 | zero => intros; rw [V.loopN_z]; rfl
 | succ n ih =>
   intro v6_1 v6_2
   rw [V.loopN_s, Z59.r6]
   simp only [ih]
   first | exact (Z59.u6 ..).symm | rfl
theorem Z59.v (x0 : List Int) : V.evBody Z59.E Z59.con Tryz.f163 ((x0) : List Int) = Z59.b x0 (fun v6_1 v6_2 => V.loopN (V.loopF Z59.E Tryz.f163.ntmps [1, 1, 0, 1, 0] [] (V.codeOf Tryz.f163) (Z59.kt x0)) V.KK (Z59.s6 x0 v6_1 v6_2)) := by kernel_rfl
theorem Z59.eq (x0 : List Int) : V.evBody Z59.E Z59.con Tryz.f163 ((x0) : List Int) = Z59 x0 := by
 rw [Z59.v]
 simp only [Z59.e6]
 rfl
theorem Z59.ok : V.Valid Tryz.prog 163 Z59.con :=
 V.fo V.tab_nil Tryz.func163 (by kernel_rfl) (fun x y h => (show V.evBody Z59.E Z59.con Tryz.f163 x = _ from Z59.eq x).trans (V.cfl (by kernel_rfl) h))
noncomputable abbrev Z125.con : V.Con := ⟨(.cons .str .nil), (.cons (.sl (V.ci .nil)) .nil), fun (x : ByteArray) => Z125 x, [], [(false, 1)], [(false, 1)], [true], []⟩
noncomputable abbrev Z125.E : V.Env := V.mkE V.tys [(163, Z59.con)] [] [] [] [] []
theorem Z125.eq (x0 : ByteArray) : V.evBody Z125.E Z125.con Tryz.f161 ((x0) : ByteArray) = Z125 x0 := by kernel_rfl
theorem Z125.ok : V.Valid Tryz.prog 161 Z125.con :=
 V.fo (V.tab_cons Z59.ok V.tab_nil) Tryz.func161 (by kernel_rfl) (fun x y h => (show V.evBody Z125.E Z125.con Tryz.f161 x = _ from Z125.eq x).trans (V.cfl (by kernel_rfl) h))
noncomputable abbrev Z60.con : V.Con := ⟨V.eEntry, (.cons (.sl (V.ci .nil)) .nil), fun (x : ByteArray × Int × Int × List ByteArray) => Z60 x, [], [(true, 4)], [(false, 1)], [true], []⟩
noncomputable abbrev Z60.E : V.Env := V.mkE V.tys [(161, Z125.con)] [(6, [1, 3, 4], [])] [(1, 11)] [] [] []
noncomputable abbrev Z60.kt (x0 : TEntry) : V.Kt (List Int) := V.ktOf Z60.E Z60.con Tryz.f156 ((x0.1, x0.2.1, x0.2.2.1, x0.2.2.2) : ByteArray × Int × Int × List ByteArray)
noncomputable abbrev Z60.s6 (x0 : TEntry) (v6_0 : Int) (v6_5 : List Int) : V.St := ⟨[(1, .v false [.ptr 64000 0]), (3, .v false [.ref 64000038400192]), (4, .v false [.vi (v6_0)])], [(64000, .box [.val (.str x0.1), .vi (x0.2.1), .vi (x0.2.2.1), .val (.sl (.cons .str .nil) x0.2.2.2)]), (64000038400192, .row (V.ci .nil) true v6_5)]⟩
theorem Z60.r6 (x0 : TEntry) (R : V.St → Option (List Int)) (v6_0 : Int) (v6_5 : List Int) : V.loopF Z60.E Tryz.f156.ntmps [1, 1, 0, 1, 0] [] (V.codeOf Tryz.f156) (Z60.kt x0) R (Z60.s6 x0 v6_0 v6_5) = Z60.g6 x0 (fun v6_0 v6_5 => R (Z60.s6 x0 v6_0 v6_5)) v6_0 v6_5 := by kernel_rfl
theorem Z60.e6 (x0 : TEntry) : ∀ (n : Nat) (v6_0 : Int) (v6_5 : List Int), V.loopN (V.loopF Z60.E Tryz.f156.ntmps [1, 1, 0, 1, 0] [] (V.codeOf Tryz.f156) (Z60.kt x0)) n (Z60.s6 x0 v6_0 v6_5) = Z60.l6 x0 n v6_0 v6_5 := by
 intro n
 induction n with
 | zero => intros; rw [V.loopN_z]; rfl
 | succ n ih =>
   intro v6_0 v6_5
   rw [V.loopN_s, Z60.r6]
   simp only [ih]
   first | exact (Z60.u6 ..).symm | rfl
theorem Z60.v (x0 : TEntry) : V.evBody Z60.E Z60.con Tryz.f156 ((x0.1, x0.2.1, x0.2.2.1, x0.2.2.2) : ByteArray × Int × Int × List ByteArray) = Z60.b x0 (fun v6_0 v6_5 => V.loopN (V.loopF Z60.E Tryz.f156.ntmps [1, 1, 0, 1, 0] [] (V.codeOf Tryz.f156) (Z60.kt x0)) V.KK (Z60.s6 x0 v6_0 v6_5)) := by kernel_rfl
theorem Z60.eq (x0 : TEntry) : V.evBody Z60.E Z60.con Tryz.f156 ((x0.1, x0.2.1, x0.2.2.1, x0.2.2.2) : ByteArray × Int × Int × List ByteArray) = Z60 x0 := by
 rw [Z60.v]
 simp only [Z60.e6]
 rfl
theorem Z60.ok : V.Valid Tryz.prog 156 Z60.con :=
 V.fo (V.tab_cons Z125.ok V.tab_nil) Tryz.func156 (by kernel_rfl) (fun x y h => (show V.evBody Z60.E Z60.con Tryz.f156 x = _ from Z60.eq x).trans (V.cfl (by kernel_rfl) h))
noncomputable abbrev Z130.con : V.Con := ⟨V.eEntry, (V.ci .nil), fun (x : ByteArray × Int × Int × List ByteArray) => Z130 x, [], [(true, 4)], [(false, 1)], [false], []⟩
noncomputable abbrev Z130.E : V.Env := V.mkE V.tys [(92, Z20.con), (156, Z60.con)] [] [] [] [] []
theorem Z130.eq (x0 : TEntry) : V.evBody Z130.E Z130.con Tryz.f142 ((x0.1, x0.2.1, x0.2.2.1, x0.2.2.2) : ByteArray × Int × Int × List ByteArray) = Z130 x0 := by kernel_rfl
theorem Z130.ok : V.Valid Tryz.prog 142 Z130.con :=
 V.fo (V.tab_cons Z20.ok (V.tab_cons Z60.ok V.tab_nil)) Tryz.func142 (by kernel_rfl) (fun x y h => (show V.evBody Z130.E Z130.con Tryz.f142 x = _ from Z130.eq x).trans (V.cfl (by kernel_rfl) h))
noncomputable abbrev Z61.con : V.Con := ⟨(.cons (.sl V.eEntry) .nil), (.cons (.sl (V.ci .nil)) .nil), fun (x : List TEntry) => Z61 x, [], [(false, 1)], [(false, 1)], [true], []⟩
noncomputable abbrev Z61.E : V.Env := V.mkE V.tys [(142, Z130.con)] [(6, [0, 3, 4], [(64000038400192, (V.ci .nil), true)])] [] [] [] []
noncomputable abbrev Z61.kt (x0 : List TEntry) : V.Kt (List Int) := V.ktOf Z61.E Z61.con Tryz.f122 ((x0) : List TEntry)
noncomputable abbrev Z61.s6 (x0 : List TEntry) (v6_1 : Int) (v6_2 : List Int) : V.St := ⟨[(0, .v false [.val (.sl V.eEntry x0)]), (3, .v false [.ref 64000038400192]), (4, .v false [.vi (v6_1)])], [(64000038400192, .row (V.ci .nil) true v6_2)]⟩
theorem Z61.r6 (x0 : List TEntry) (R : V.St → Option (List Int)) (v6_1 : Int) (v6_2 : List Int) : V.loopF Z61.E Tryz.f122.ntmps [1, 1, 0, 1, 0] [] (V.codeOf Tryz.f122) (Z61.kt x0) R (Z61.s6 x0 v6_1 v6_2) = Z61.g6 x0 (fun v6_1 v6_2 => R (Z61.s6 x0 v6_1 v6_2)) v6_1 v6_2 := by kernel_rfl
theorem Z61.e6 (x0 : List TEntry) : ∀ (n : Nat) (v6_1 : Int) (v6_2 : List Int), V.loopN (V.loopF Z61.E Tryz.f122.ntmps [1, 1, 0, 1, 0] [] (V.codeOf Tryz.f122) (Z61.kt x0)) n (Z61.s6 x0 v6_1 v6_2) = Z61.l6 x0 n v6_1 v6_2 := by
 intro n
 induction n with
 | zero => intros; rw [V.loopN_z]; rfl
 | succ n ih =>
   intro v6_1 v6_2
   rw [V.loopN_s, Z61.r6]
   simp only [ih]
   first | exact (Z61.u6 ..).symm | rfl
theorem Z61.v (x0 : List TEntry) : V.evBody Z61.E Z61.con Tryz.f122 ((x0) : List TEntry) = Z61.b x0 (fun v6_1 v6_2 => V.loopN (V.loopF Z61.E Tryz.f122.ntmps [1, 1, 0, 1, 0] [] (V.codeOf Tryz.f122) (Z61.kt x0)) V.KK (Z61.s6 x0 v6_1 v6_2)) := by kernel_rfl
theorem Z61.eq (x0 : List TEntry) : V.evBody Z61.E Z61.con Tryz.f122 ((x0) : List TEntry) = Z61 x0 := by
 rw [Z61.v]
 simp only [Z61.e6]
 rfl
theorem Z61.ok : V.Valid Tryz.prog 122 Z61.con :=
 V.fo (V.tab_cons Z130.ok V.tab_nil) Tryz.func122 (by kernel_rfl) (fun x y h => (show V.evBody Z61.E Z61.con Tryz.f122 x = _ from Z61.eq x).trans (V.cfl (by kernel_rfl) h))
noncomputable abbrev Z152.con : V.Con := ⟨(V.ci (V.ci .nil)), (V.ci .nil), fun (x : Int × Int) => Z152 x.1 x.2, [], [(false, 1), (false, 1)], [(false, 1)], [false], []⟩
noncomputable abbrev Z152.E : V.Env := V.mkE V.tys [(92, Z20.con)] [] [] [] [] []
theorem Z152.eq (x0 : Int) (x1 : Int) : V.evBody Z152.E Z152.con Tryz.f155 ((x0, x1) : Int × Int) = Z152 x0 x1 := by kernel_rfl
theorem Z152.ok : V.Valid Tryz.prog 155 Z152.con :=
 V.fo (V.tab_cons Z20.ok V.tab_nil) Tryz.func155 (by kernel_rfl) (fun x y h => (show V.evBody Z152.E Z152.con Tryz.f155 x = _ from Z152.eq x.1 x.2).trans (V.cfl (by kernel_rfl) h))
noncomputable abbrev Z57.con : V.Con := ⟨(.cons (.sl (V.ci .nil)) .nil), (.cons (.sl (V.ci .nil)) .nil), fun (x : List Int) => Z57 x, [], [(false, 1)], [(false, 1)], [true], []⟩
noncomputable abbrev Z57.E : V.Env := V.mkE V.tys [(155, Z152.con)] [(6, [0, 3, 4], [(64000038400192, (V.ci .nil), true)])] [(6, 12)] [] [] []
noncomputable abbrev Z57.kt (x0 : List Int) : V.Kt (List Int) := V.ktOf Z57.E Z57.con Tryz.f141 ((x0) : List Int)
noncomputable abbrev Z57.s6 (x0 : List Int) (v6_1 : Int) (v6_2 : List Int) : V.St := ⟨[(0, .v false [.val (.sl (V.ci .nil) x0)]), (3, .v false [.ref 64000038400192]), (4, .v false [.vi (v6_1)])], [(64000038400192, .row (V.ci .nil) true v6_2)]⟩
theorem Z57.r6 (x0 : List Int) (R : V.St → Option (List Int)) (v6_1 : Int) (v6_2 : List Int) : V.loopF Z57.E Tryz.f141.ntmps [1, 1, 0, 1, 0] [] (V.codeOf Tryz.f141) (Z57.kt x0) R (Z57.s6 x0 v6_1 v6_2) = Z57.g6 x0 (fun v6_1 v6_2 => R (Z57.s6 x0 v6_1 v6_2)) v6_1 v6_2 := by kernel_rfl
theorem Z57.e6 (x0 : List Int) : ∀ (n : Nat) (v6_1 : Int) (v6_2 : List Int), V.loopN (V.loopF Z57.E Tryz.f141.ntmps [1, 1, 0, 1, 0] [] (V.codeOf Tryz.f141) (Z57.kt x0)) n (Z57.s6 x0 v6_1 v6_2) = Z57.l6 x0 n v6_1 v6_2 := by
 intro n
 induction n with
 | zero => intros; rw [V.loopN_z]; rfl
 | succ n ih =>
   intro v6_1 v6_2
   rw [V.loopN_s, Z57.r6]
   simp only [ih]
   first | exact (Z57.u6 ..).symm | rfl
theorem Z57.v (x0 : List Int) : V.evBody Z57.E Z57.con Tryz.f141 ((x0) : List Int) = Z57.b x0 (fun v6_1 v6_2 => V.loopN (V.loopF Z57.E Tryz.f141.ntmps [1, 1, 0, 1, 0] [] (V.codeOf Tryz.f141) (Z57.kt x0)) V.KK (Z57.s6 x0 v6_1 v6_2)) := by kernel_rfl
theorem Z57.eq (x0 : List Int) : V.evBody Z57.E Z57.con Tryz.f141 ((x0) : List Int) = Z57 x0 := by
 rw [Z57.v]
 simp only [Z57.e6]
 rfl
theorem Z57.ok : V.Valid Tryz.prog 141 Z57.con :=
 V.fo (V.tab_cons Z152.ok V.tab_nil) Tryz.func141 (by kernel_rfl) (fun x y h => (show V.evBody Z57.E Z57.con Tryz.f141 x = _ from Z57.eq x).trans (V.cfl (by kernel_rfl) h))
noncomputable abbrev Z56.con : V.Con := ⟨(.cons (.sl (V.ci .nil)) .nil), (V.ci .nil), fun (x : List Int) => Z56 x, [], [(false, 1)], [(false, 1)], [false], []⟩
noncomputable abbrev Z56.E : V.Env := V.mkE V.tys [(92, Z20.con), (141, Z57.con)] [(8, [3], [(3, (V.ci .nil), false)])] [] [] [] []
noncomputable abbrev Z56.kt (x0 : List Int) : V.Kt Int := V.ktOf Z56.E Z56.con Tryz.f121 ((x0) : List Int)
noncomputable abbrev Z56.s8 (v8_0 : List Int) : V.St := ⟨[(3, .v false [.val (.sl (V.ci .nil) v8_0)])], []⟩
theorem Z56.r8 (x0 : List Int) (R : V.St → Option Int) (v8_0 : List Int) : V.loopF Z56.E Tryz.f121.ntmps [1, 1, 1, 0, 0] [] (V.codeOf Tryz.f121) (Z56.kt x0) R (Z56.s8 v8_0) = Z56.g8 (fun v8_0 => R (Z56.s8 v8_0)) v8_0 := by kernel_rfl
theorem Z56.e8 (x0 : List Int) : ∀ (n : Nat) (v8_0 : List Int), V.loopN (V.loopF Z56.E Tryz.f121.ntmps [1, 1, 1, 0, 0] [] (V.codeOf Tryz.f121) (Z56.kt x0)) n (Z56.s8 v8_0) = Z56.l8 n v8_0 := by
 intro n
 induction n with
 | zero => intros; rw [V.loopN_z]; rfl
 | succ n ih =>
   intro v8_0
   rw [V.loopN_s, Z56.r8]
   simp only [ih]
   first | exact (Z56.u8 ..).symm | rfl
theorem Z56.v (x0 : List Int) : V.evBody Z56.E Z56.con Tryz.f121 ((x0) : List Int) = Z56.b x0 (fun v8_0 => V.loopN (V.loopF Z56.E Tryz.f121.ntmps [1, 1, 1, 0, 0] [] (V.codeOf Tryz.f121) (Z56.kt x0)) V.KK (Z56.s8 v8_0)) := by kernel_rfl
theorem Z56.eq (x0 : List Int) : V.evBody Z56.E Z56.con Tryz.f121 ((x0) : List Int) = Z56 x0 := by
 rw [Z56.v]
 simp only [Z56.e8]
 rfl
theorem Z56.ok : V.Valid Tryz.prog 121 Z56.con :=
 V.fo (V.tab_cons Z20.ok (V.tab_cons Z57.ok V.tab_nil)) Tryz.func121 (by kernel_rfl) (fun x y h => (show V.evBody Z56.E Z56.con Tryz.f121 x = _ from Z56.eq x).trans (V.cfl (by kernel_rfl) h))
noncomputable abbrev Z158.con : V.Con := ⟨(V.ci (V.ci .nil)), (V.ci .nil), fun (x : Int × Int) => Z158 x.1 x.2, [], [(false, 1), (false, 1)], [(false, 1)], [false], []⟩
noncomputable abbrev Z158.E : V.Env := V.mkE V.tys [(92, Z20.con)] [] [] [] [] []
theorem Z158.eq (x0 : Int) (x1 : Int) : V.evBody Z158.E Z158.con Tryz.f120 ((x0, x1) : Int × Int) = Z158 x0 x1 := by kernel_rfl
theorem Z158.ok : V.Valid Tryz.prog 120 Z158.con :=
 V.fo (V.tab_cons Z20.ok V.tab_nil) Tryz.func120 (by kernel_rfl) (fun x y h => (show V.evBody Z158.E Z158.con Tryz.f120 x = _ from Z158.eq x.1 x.2).trans (V.cfl (by kernel_rfl) h))
noncomputable abbrev Z118.con : V.Con := ⟨(.cons (.sl V.eEntry) .nil), (V.ci .nil), fun (x : List TEntry) => Z118 x, [], [(false, 1)], [(false, 1)], [false], []⟩
noncomputable abbrev Z118.E : V.Env := V.mkE V.tys [(120, Z158.con), (121, Z56.con), (122, Z61.con)] [] [] [] [] []
theorem Z118.eq (x0 : List TEntry) : V.evBody Z118.E Z118.con Tryz.f98 ((x0) : List TEntry) = Z118 x0 := by kernel_rfl
theorem Z118.ok : V.Valid Tryz.prog 98 Z118.con :=
 V.fo (V.tab_cons Z158.ok (V.tab_cons Z56.ok (V.tab_cons Z61.ok V.tab_nil))) Tryz.func98 (by kernel_rfl) (fun x y h => (show V.evBody Z118.E Z118.con Tryz.f98 x = _ from Z118.eq x).trans (V.cfl (by kernel_rfl) h))
noncomputable abbrev Z101.con : V.Con := ⟨(.cons (.sl (V.ci .nil)) (V.ci .nil)), (.cons (.sl (V.ci .nil)) (V.ci .nil)), fun (x : List Int × Int) => Z101 x, [], [(true, 2)], [(true, 2)], [true, false], []⟩
noncomputable abbrev Z101.E : V.Env := V.mkE V.tys [] [] [(1, 6)] [] [] []
theorem Z101.eq (x0 : TKeys) : V.evBody Z101.E Z101.con Tryz.f96 ((x0.1, x0.2) : List Int × Int) = Z101 x0 := by kernel_rfl
theorem Z101.ok : V.Valid Tryz.prog 96 Z101.con :=
 V.fo V.tab_nil Tryz.func96 (by kernel_rfl) (fun x y h => (show V.evBody Z101.E Z101.con Tryz.f96 x = _ from Z101.eq x).trans (V.cfl (by kernel_rfl) h))
noncomputable abbrev Z23.con : V.Con := ⟨(.cons (.sl (V.ci .nil)) (V.ci .nil)), (.cons .bool .nil), fun (x : List Int × Int) => Z23 x, [], [(true, 2)], [(false, 1)], [false], []⟩
noncomputable abbrev Z23.E : V.Env := V.mkE V.tys [(75, Z29.con)] [(4, [1, 3], [])] [(4, 22)] [] [] []
noncomputable abbrev Z23.kt (x0 : TKeys) : V.Kt Bool := V.ktOf Z23.E Z23.con Tryz.f57 ((x0.1, x0.2) : List Int × Int)
noncomputable abbrev Z23.s4 (x0 : TKeys) (v4_0 : Int) : V.St := ⟨[(1, .v false [.ptr 64000 0]), (3, .v false [.vi (v4_0)])], [(64000, .box [.val (.sl (V.ci .nil) x0.1), .vi (x0.2)])]⟩
theorem Z23.r4 (x0 : TKeys) (R : V.St → Option Bool) (v4_0 : Int) : V.loopF Z23.E Tryz.f57.ntmps [1, 0, 1, 0] [] (V.codeOf Tryz.f57) (Z23.kt x0) R (Z23.s4 x0 v4_0) = Z23.g4 x0 (fun v4_0 => R (Z23.s4 x0 v4_0)) v4_0 := by kernel_rfl
theorem Z23.e4 (x0 : TKeys) : ∀ (n : Nat) (v4_0 : Int), V.loopN (V.loopF Z23.E Tryz.f57.ntmps [1, 0, 1, 0] [] (V.codeOf Tryz.f57) (Z23.kt x0)) n (Z23.s4 x0 v4_0) = Z23.l4 x0 n v4_0 := by
 intro n
 induction n with
 | zero => intros; rw [V.loopN_z]; rfl
 | succ n ih =>
   intro v4_0
   rw [V.loopN_s, Z23.r4]
   simp only [ih]
   first | exact (Z23.u4 ..).symm | rfl
theorem Z23.v (x0 : TKeys) : V.evBody Z23.E Z23.con Tryz.f57 ((x0.1, x0.2) : List Int × Int) = Z23.b x0 (fun v4_0 => V.loopN (V.loopF Z23.E Tryz.f57.ntmps [1, 0, 1, 0] [] (V.codeOf Tryz.f57) (Z23.kt x0)) V.KK (Z23.s4 x0 v4_0)) := by kernel_rfl
theorem Z23.eq (x0 : TKeys) : V.evBody Z23.E Z23.con Tryz.f57 ((x0.1, x0.2) : List Int × Int) = Z23 x0 := by
 rw [Z23.v]
 simp only [Z23.e4]
 rfl
theorem Z23.ok : V.Valid Tryz.prog 57 Z23.con :=
 V.fo (V.tab_cons Z29.ok V.tab_nil) Tryz.func57 (by kernel_rfl) (fun x y h => (show V.evBody Z23.E Z23.con Tryz.f57 x = _ from Z23.eq x).trans (V.cfl (by kernel_rfl) h))
noncomputable abbrev Z104.con : V.Con := ⟨(.cons (.sl (V.ci .nil)) (V.ci .nil)), (.cons .bool .nil), fun (x : List Int × Int) => Z104 x, [], [(true, 2)], [(false, 1)], [false], []⟩
noncomputable abbrev Z104.E : V.Env := V.mkE V.tys [] [] [] [] [] []
theorem Z104.eq (x0 : TKeys) : V.evBody Z104.E Z104.con Tryz.f130 ((x0.1, x0.2) : List Int × Int) = Z104 x0 := by kernel_rfl
theorem Z104.ok : V.Valid Tryz.prog 130 Z104.con :=
 V.fo V.tab_nil Tryz.func130 (by kernel_rfl) (fun x y h => (show V.evBody Z104.E Z104.con Tryz.f130 x = _ from Z104.eq x).trans (V.cfl (by kernel_rfl) h))
noncomputable abbrev Z6.con : V.Con := ⟨V.A0, (.cons .bool .nil), fun (x : V.D0) => Z6 (V.p0_0 x), [], [(true, 16)], [(false, 1)], [false], []⟩
noncomputable abbrev Z6.E : V.Env := V.mkE V.tys [(57, Z23.con), (75, Z29.con), (130, Z104.con)] [(7, [1], []), (11, [1], []), (21, [1], [])] [] [] [] []
noncomputable abbrev Z6.kt (x0 : THead) : V.Kt Bool := V.ktOf Z6.E Z6.con Tryz.f113 (V.fl0 x0)
noncomputable abbrev Z6.s21 (x0 : THead) : V.St := ⟨[(1, .v false [.ptr 64000 0])], [(64000, .box (V.lsHead x0))]⟩
noncomputable abbrev Z6.s11 (x0 : THead) : V.St := ⟨[(1, .v false [.ptr 64000 0])], [(64000, .box (V.lsHead x0))]⟩
noncomputable abbrev Z6.s7 (x0 : THead) : V.St := ⟨[(1, .v false [.ptr 64000 0])], [(64000, .box (V.lsHead x0))]⟩
theorem Z6.r21 (x0 : THead) : V.joinF Z6.E Tryz.f113.ntmps [1, 1, 1] [] (V.codeOf Tryz.f113) (Z6.kt x0) (Z6.s21 x0) = Z6.g21 x0 := by kernel_rfl
theorem Z6.e21 (x0 : THead) : V.jn (V.joinF Z6.E Tryz.f113.ntmps [1, 1, 1] [] (V.codeOf Tryz.f113) (Z6.kt x0)) (Z6.s21 x0) = Z6.l21 x0 := by
 rw [V.jn_eq, Z6.r21]
 rfl
theorem Z6.r11 (x0 : THead) : V.joinF Z6.E Tryz.f113.ntmps [1, 1] [] (V.codeOf Tryz.f113) (Z6.kt x0) (Z6.s11 x0) = Z6.g11 x0 (V.jn (V.joinF Z6.E Tryz.f113.ntmps [1, 1, 1] [] (V.codeOf Tryz.f113) (Z6.kt x0)) (Z6.s21 x0)) := by kernel_rfl
theorem Z6.e11 (x0 : THead) : V.jn (V.joinF Z6.E Tryz.f113.ntmps [1, 1] [] (V.codeOf Tryz.f113) (Z6.kt x0)) (Z6.s11 x0) = Z6.l11 x0 := by
 rw [V.jn_eq, Z6.r11]
 simp only [Z6.e21]
 rfl
theorem Z6.r7 (x0 : THead) : V.joinF Z6.E Tryz.f113.ntmps [1] [] (V.codeOf Tryz.f113) (Z6.kt x0) (Z6.s7 x0) = Z6.g7 x0 (V.jn (V.joinF Z6.E Tryz.f113.ntmps [1, 1] [] (V.codeOf Tryz.f113) (Z6.kt x0)) (Z6.s11 x0)) := by kernel_rfl
theorem Z6.e7 (x0 : THead) : V.jn (V.joinF Z6.E Tryz.f113.ntmps [1] [] (V.codeOf Tryz.f113) (Z6.kt x0)) (Z6.s7 x0) = Z6.l7 x0 := by
 rw [V.jn_eq, Z6.r7]
 simp only [Z6.e11]
 rfl
noncomputable abbrev Z6.s (x0 : THead) : V.St := ⟨[(0, .v true (V.lsHead x0))], []⟩
theorem Z6.v0 (x0 : THead) : V.evBody Z6.E Z6.con Tryz.f113 (V.fl0 x0) = V.evC Z6.E Tryz.f113.ntmps (V.codeOf Tryz.f113) (Z6.kt x0) (Z6.s x0) := by kernel_rfl
theorem Z6.v (x0 : THead) : V.evC Z6.E Tryz.f113.ntmps (V.codeOf Tryz.f113) (Z6.kt x0) (Z6.s x0) = Z6.b x0 (V.jn (V.joinF Z6.E Tryz.f113.ntmps [1] [] (V.codeOf Tryz.f113) (Z6.kt x0)) (Z6.s7 x0)) := by kernel_rfl
theorem Z6.eq (x0 : THead) : V.evBody Z6.E Z6.con Tryz.f113 (V.fl0 x0) = Z6 x0 := by
 rw [Z6.v0, Z6.v]
 simp only [Z6.e7]
 rfl
theorem Z6.ok : V.Valid Tryz.prog 113 Z6.con :=
 V.fo (V.tab_cons Z23.ok (V.tab_cons Z29.ok (V.tab_cons Z104.ok V.tab_nil))) Tryz.func113 (by kernel_rfl) (fun x y h => (show V.evBody Z6.E Z6.con Tryz.f113 x = _ from Z6.eq (V.p0_0 x)).trans (V.cfl (by kernel_rfl) h))
noncomputable abbrev Z55.con : V.Con := ⟨(.cons (.sl (V.ci .nil)) (V.ci (V.ci (.cons (.sl V.eEntry) (V.ci (V.ci .nil)))))), V.eRHeadBool, fun (x : List Int × Int × Int × List TEntry × Int × Int) => Z55 (x.1, x.2.1) x.2.2.1 x.2.2.2.1 x.2.2.2.2.1 x.2.2.2.2.2, [], [(true, 2), (false, 1), (false, 1), (false, 1), (false, 1)], [(true, 16), (false, 1)], [false, false, false, false, false, false, false, false, true, false, true, false, false, true, false, false, false], []⟩
noncomputable abbrev Z55.E : V.Env := V.mkE V.tys [(75, Z29.con), (96, Z101.con), (98, Z118.con), (113, Z6.con), (128, Z119.con), (129, Z27.con)] [(5, [1, 2, 3, 4, 5, 10, 25], [])] [(3, 16)] [] [] []
noncomputable abbrev Z55.kt (x0 : TKeys) (x1 : Int) (x2 : List TEntry) (x3 : Int) (x4 : Int) : V.Kt TRHeadBool := V.ktOf Z55.E Z55.con Tryz.f112 ((x0.1, x0.2, x1, x2, x3, x4) : List Int × Int × Int × List TEntry × Int × Int)
noncomputable abbrev Z55.s5 (x0 : TKeys) (x1 : Int) (x2 : List TEntry) (x3 : Int) (x4 : Int) (v5_4 : Bool) : V.St := ⟨[(1, .v false [.vi (x1)]), (2, .v false [.val (.sl V.eEntry x2)]), (3, .v false [.vi (x3)]), (4, .v false [.vi (x4)]), (5, .v false [.ptr 64000 0]), (10, .v false [.ptr 64064 0]), (25, .v false [.val (.bool v5_4)])], [(64000, .box [.val (.sl (V.ci .nil) x0.1), .vi (x0.2)]), (64064, .box [.vi ((0 : Int)), .vi ((0 : Int)), .vi ((0 : Int)), .vi ((0 : Int)), .vi ((0 : Int)), .vi ((0 : Int)), .vi ((0 : Int)), .vi ((0 : Int)), .nil0, .vi ((0 : Int)), .nil0, .vi ((0 : Int)), .vi ((0 : Int)), .nil0, .vi ((0 : Int)), .val (.bool false)])]⟩
theorem Z55.r5 (x0 : TKeys) (x1 : Int) (x2 : List TEntry) (x3 : Int) (x4 : Int) (v5_4 : Bool) : V.joinF Z55.E Tryz.f112.ntmps [1, 0] [] (V.codeOf Tryz.f112) (Z55.kt x0 x1 x2 x3 x4) (Z55.s5 x0 x1 x2 x3 x4 v5_4) = Z55.g5 x0 x1 x2 x3 x4 v5_4 := by kernel_rfl
theorem Z55.e5 (x0 : TKeys) (x1 : Int) (x2 : List TEntry) (x3 : Int) (x4 : Int) (v5_4 : Bool) : V.jn (V.joinF Z55.E Tryz.f112.ntmps [1, 0] [] (V.codeOf Tryz.f112) (Z55.kt x0 x1 x2 x3 x4)) (Z55.s5 x0 x1 x2 x3 x4 v5_4) = Z55.l5 x0 x1 x2 x3 x4 v5_4 := by
 rw [V.jn_eq, Z55.r5]
 rfl
theorem Z55.v (x0 : TKeys) (x1 : Int) (x2 : List TEntry) (x3 : Int) (x4 : Int) : V.evBody Z55.E Z55.con Tryz.f112 ((x0.1, x0.2, x1, x2, x3, x4) : List Int × Int × Int × List TEntry × Int × Int) = Z55.b x0 x1 x2 x3 x4 (fun v5_4 => V.jn (V.joinF Z55.E Tryz.f112.ntmps [1, 0] [] (V.codeOf Tryz.f112) (Z55.kt x0 x1 x2 x3 x4)) (Z55.s5 x0 x1 x2 x3 x4 v5_4)) := by kernel_rfl
theorem Z55.eq (x0 : TKeys) (x1 : Int) (x2 : List TEntry) (x3 : Int) (x4 : Int) : V.evBody Z55.E Z55.con Tryz.f112 ((x0.1, x0.2, x1, x2, x3, x4) : List Int × Int × Int × List TEntry × Int × Int) = Z55 x0 x1 x2 x3 x4 := by
 rw [Z55.v]
 simp only [Z55.e5]
 rfl
theorem Z55.ok : V.Valid Tryz.prog 112 Z55.con :=
 V.fo (V.tab_cons Z29.ok (V.tab_cons Z101.ok (V.tab_cons Z118.ok (V.tab_cons Z6.ok (V.tab_cons Z119.ok (V.tab_cons Z27.ok V.tab_nil)))))) Tryz.func112 (by kernel_rfl) (fun x y h => (show V.evBody Z55.E Z55.con Tryz.f112 x = _ from Z55.eq (x.1, x.2.1) x.2.2.1 x.2.2.2.1 x.2.2.2.2.1 x.2.2.2.2.2).trans (V.cfl (by kernel_rfl) h))
noncomputable abbrev Z73.con : V.Con := ⟨V.A0, V.eHead, fun (x : V.D0) => Z73 (V.p0_0 x), [], [(true, 16)], [(true, 16)], [false, false, false, false, false, false, false, false, true, false, true, false, false, true, false, false], []⟩
noncomputable abbrev Z73.E : V.Env := V.mkE V.tys [(96, Z101.con)] [] [] [] [] []
noncomputable abbrev Z73.kt (x0 : THead) : V.Kt THead := V.ktOf Z73.E Z73.con Tryz.f80 (V.fl0 x0)
noncomputable abbrev Z73.s (x0 : THead) : V.St := ⟨[(0, .v true (V.lsHead x0))], []⟩
theorem Z73.v0 (x0 : THead) : V.evBody Z73.E Z73.con Tryz.f80 (V.fl0 x0) = V.evC Z73.E Tryz.f80.ntmps (V.codeOf Tryz.f80) (Z73.kt x0) (Z73.s x0) := by kernel_rfl
theorem Z73.v (x0 : THead) : V.evC Z73.E Tryz.f80.ntmps (V.codeOf Tryz.f80) (Z73.kt x0) (Z73.s x0) = Z73 x0 := by kernel_rfl
theorem Z73.eq (x0 : THead) : V.evBody Z73.E Z73.con Tryz.f80 (V.fl0 x0) = Z73 x0 := (Z73.v0 x0).trans (Z73.v x0)
theorem Z73.ok : V.Valid Tryz.prog 80 Z73.con :=
 V.fo (V.tab_cons Z101.ok V.tab_nil) Tryz.func80 (by kernel_rfl) (fun x y h => (show V.evBody Z73.E Z73.con Tryz.f80 x = _ from Z73.eq (V.p0_0 x)).trans (V.cfl (by kernel_rfl) h))
noncomputable abbrev Z68.con : V.Con := ⟨V.A0, (.cons (.sl (V.ci .nil)) .nil), fun (x : V.D0) => Z68 (V.p0_0 x), [], [(true, 16)], [(false, 1)], [true], []⟩
noncomputable abbrev Z68.E : V.Env := V.mkE V.tys [(105, Z100.con)] [] [] [] [] []
noncomputable abbrev Z68.kt (x0 : THead) : V.Kt (List Int) := V.ktOf Z68.E Z68.con Tryz.f79 (V.fl0 x0)
noncomputable abbrev Z68.s (x0 : THead) : V.St := ⟨[(0, .v true (V.lsHead x0))], []⟩
theorem Z68.v0 (x0 : THead) : V.evBody Z68.E Z68.con Tryz.f79 (V.fl0 x0) = V.evC Z68.E Tryz.f79.ntmps (V.codeOf Tryz.f79) (Z68.kt x0) (Z68.s x0) := by kernel_rfl
theorem Z68.v (x0 : THead) : V.evC Z68.E Tryz.f79.ntmps (V.codeOf Tryz.f79) (Z68.kt x0) (Z68.s x0) = Z68 x0 := by kernel_rfl
theorem Z68.eq (x0 : THead) : V.evBody Z68.E Z68.con Tryz.f79 (V.fl0 x0) = Z68 x0 := (Z68.v0 x0).trans (Z68.v x0)
theorem Z68.ok : V.Valid Tryz.prog 79 Z68.con :=
 V.fo (V.tab_cons Z100.ok V.tab_nil) Tryz.func79 (by kernel_rfl) (fun x y h => (show V.evBody Z68.E Z68.con Tryz.f79 x = _ from Z68.eq (V.p0_0 x)).trans (V.cfl (by kernel_rfl) h))
noncomputable abbrev Z51.con : V.Con := ⟨(.cons (.sl (V.ci .nil)) (V.ci .nil)), (.cons .bool .nil), fun (x : List Int × Int) => Z51 x.1 x.2, [], [(false, 1), (false, 1)], [(false, 1)], [false], []⟩
noncomputable abbrev Z51.E : V.Env := V.mkE V.tys [] [(4, [0, 1, 5], [])] [] [] [] []
noncomputable abbrev Z51.kt (x0 : List Int) (x1 : Int) : V.Kt Bool := V.ktOf Z51.E Z51.con Tryz.f106 ((x0, x1) : List Int × Int)
noncomputable abbrev Z51.s4 (x0 : List Int) (x1 : Int) (v4_2 : Int) : V.St := ⟨[(0, .v false [.val (.sl (V.ci .nil) x0)]), (1, .v false [.vi (x1)]), (5, .v false [.vi (v4_2)])], []⟩
theorem Z51.r4 (x0 : List Int) (x1 : Int) (R : V.St → Option Bool) (v4_2 : Int) : V.loopF Z51.E Tryz.f106.ntmps [1, 0, 1, 0] [] (V.codeOf Tryz.f106) (Z51.kt x0 x1) R (Z51.s4 x0 x1 v4_2) = Z51.g4 x0 x1 (fun v4_2 => R (Z51.s4 x0 x1 v4_2)) v4_2 := by kernel_rfl
theorem Z51.e4 (x0 : List Int) (x1 : Int) : ∀ (n : Nat) (v4_2 : Int), V.loopN (V.loopF Z51.E Tryz.f106.ntmps [1, 0, 1, 0] [] (V.codeOf Tryz.f106) (Z51.kt x0 x1)) n (Z51.s4 x0 x1 v4_2) = Z51.l4 x0 x1 n v4_2 := by
 intro n
 induction n with
 | zero => intros; rw [V.loopN_z]; rfl
 | succ n ih =>
   intro v4_2
   rw [V.loopN_s, Z51.r4]
   simp only [ih]
   first | exact (Z51.u4 ..).symm | rfl
theorem Z51.v (x0 : List Int) (x1 : Int) : V.evBody Z51.E Z51.con Tryz.f106 ((x0, x1) : List Int × Int) = Z51.b x0 x1 (fun v4_2 => V.loopN (V.loopF Z51.E Tryz.f106.ntmps [1, 0, 1, 0] [] (V.codeOf Tryz.f106) (Z51.kt x0 x1)) V.KK (Z51.s4 x0 x1 v4_2)) := by kernel_rfl
theorem Z51.eq (x0 : List Int) (x1 : Int) : V.evBody Z51.E Z51.con Tryz.f106 ((x0, x1) : List Int × Int) = Z51 x0 x1 := by
 rw [Z51.v]
 simp only [Z51.e4]
 rfl
theorem Z51.ok : V.Valid Tryz.prog 106 Z51.con :=
 V.fo V.tab_nil Tryz.func106 (by kernel_rfl) (fun x y h => (show V.evBody Z51.E Z51.con Tryz.f106 x = _ from Z51.eq x.1 x.2).trans (V.cfl (by kernel_rfl) h))
noncomputable abbrev Z149.con : V.Con := ⟨(V.ci (.cons (.sl (V.ci .nil)) .nil)), (V.ci .nil), fun (x : Int × List Int) => Z149 x.1 x.2, [], [(false, 1), (false, 1)], [(false, 1)], [false], []⟩
noncomputable abbrev Z149.E : V.Env := V.mkE V.tys [(92, Z20.con)] [] [] [] [] []
theorem Z149.eq (x0 : Int) (x1 : List Int) : V.evBody Z149.E Z149.con Tryz.f77 ((x0, x1) : Int × List Int) = Z149 x0 x1 := by kernel_rfl
theorem Z149.ok : V.Valid Tryz.prog 77 Z149.con :=
 V.fo (V.tab_cons Z20.ok V.tab_nil) Tryz.func77 (by kernel_rfl) (fun x y h => (show V.evBody Z149.E Z149.con Tryz.f77 x = _ from Z149.eq x.1 x.2).trans (V.cfl (by kernel_rfl) h))
noncomputable abbrev Z105.con : V.Con := ⟨(V.ci (.cons (.sl (V.ci .nil)) .nil)), (V.ci .nil), fun (x : Int × List Int) => Z105 x.1 x.2, [], [(false, 1), (false, 1)], [(false, 1)], [false], []⟩
noncomputable abbrev Z105.E : V.Env := V.mkE V.tys [(77, Z149.con)] [] [] [] [] []
theorem Z105.eq (x0 : Int) (x1 : List Int) : V.evBody Z105.E Z105.con Tryz.f43 ((x0, x1) : Int × List Int) = Z105 x0 x1 := by kernel_rfl
theorem Z105.ok : V.Valid Tryz.prog 43 Z105.con :=
 V.fo (V.tab_cons Z149.ok V.tab_nil) Tryz.func43 (by kernel_rfl) (fun x y h => (show V.evBody Z105.E Z105.con Tryz.f43 x = _ from Z105.eq x.1 x.2).trans (V.cfl (by kernel_rfl) h))
noncomputable abbrev Z28.con : V.Con := ⟨(.cons (.sl (V.ci .nil)) (.cons (.sl (V.ci .nil)) (V.ci (.cons (.sl (V.ci .nil)) .nil)))), (.cons (.sl (V.ci (V.ci .nil))) .nil), fun (x : List Int × List Int × Int × List Int) => Z28 x.1 (x.2.1, x.2.2.1) x.2.2.2, [], [(false, 1), (true, 2), (false, 1)], [(false, 1)], [true], []⟩
noncomputable abbrev Z28.E : V.Env := V.mkE V.tys [(43, Z105.con), (106, Z51.con)] [(6, [0, 2, 4, 7, 8], [(64000038400448, (V.ci (V.ci .nil)), true)])] [(6, 15)] [] [] []
noncomputable abbrev Z28.kt (x0 : List Int) (x1 : TKeys) (x2 : List Int) : V.Kt (List TSig) := V.ktOf Z28.E Z28.con Tryz.f84 ((x0, x1.1, x1.2, x2) : List Int × List Int × Int × List Int)
noncomputable abbrev Z28.s6 (x0 : List Int) (x1 : TKeys) (x2 : List Int) (v6_2 : Int) (v6_5 : List TSig) : V.St := ⟨[(0, .v false [.val (.sl (V.ci .nil) x0)]), (2, .v false [.val (.sl (V.ci .nil) x2)]), (4, .v false [.ptr 64000 0]), (7, .v false [.ref 64000038400448]), (8, .v false [.vi (v6_2)])], [(64000, .box [.val (.sl (V.ci .nil) x1.1), .vi (x1.2)]), (64000038400448, .row (V.ci (V.ci .nil)) true v6_5)]⟩
theorem Z28.r6 (x0 : List Int) (x1 : TKeys) (x2 : List Int) (R : V.St → Option (List TSig)) (v6_2 : Int) (v6_5 : List TSig) : V.loopF Z28.E Tryz.f84.ntmps [1, 1, 0, 1, 0] [] (V.codeOf Tryz.f84) (Z28.kt x0 x1 x2) R (Z28.s6 x0 x1 x2 v6_2 v6_5) = Z28.g6 x0 x1 x2 (fun v6_2 v6_5 => R (Z28.s6 x0 x1 x2 v6_2 v6_5)) v6_2 v6_5 := by kernel_rfl
theorem Z28.e6 (x0 : List Int) (x1 : TKeys) (x2 : List Int) : ∀ (n : Nat) (v6_2 : Int) (v6_5 : List TSig), V.loopN (V.loopF Z28.E Tryz.f84.ntmps [1, 1, 0, 1, 0] [] (V.codeOf Tryz.f84) (Z28.kt x0 x1 x2)) n (Z28.s6 x0 x1 x2 v6_2 v6_5) = Z28.l6 x0 x1 x2 n v6_2 v6_5 := by
 intro n
 induction n with
 | zero => intros; rw [V.loopN_z]; rfl
 | succ n ih =>
   intro v6_2 v6_5
   rw [V.loopN_s, Z28.r6]
   simp only [ih]
   first | exact (Z28.u6 ..).symm | rfl
theorem Z28.v (x0 : List Int) (x1 : TKeys) (x2 : List Int) : V.evBody Z28.E Z28.con Tryz.f84 ((x0, x1.1, x1.2, x2) : List Int × List Int × Int × List Int) = Z28.b x0 x1 x2 (fun v6_2 v6_5 => V.loopN (V.loopF Z28.E Tryz.f84.ntmps [1, 1, 0, 1, 0] [] (V.codeOf Tryz.f84) (Z28.kt x0 x1 x2)) V.KK (Z28.s6 x0 x1 x2 v6_2 v6_5)) := by kernel_rfl
theorem Z28.eq (x0 : List Int) (x1 : TKeys) (x2 : List Int) : V.evBody Z28.E Z28.con Tryz.f84 ((x0, x1.1, x1.2, x2) : List Int × List Int × Int × List Int) = Z28 x0 x1 x2 := by
 rw [Z28.v]
 simp only [Z28.e6]
 rfl
theorem Z28.ok : V.Valid Tryz.prog 84 Z28.con :=
 V.fo (V.tab_cons Z105.ok (V.tab_cons Z51.ok V.tab_nil)) Tryz.func84 (by kernel_rfl) (fun x y h => (show V.evBody Z28.E Z28.con Tryz.f84 x = _ from Z28.eq x.1 (x.2.1, x.2.2.1) x.2.2.2).trans (V.cfl (by kernel_rfl) h))
noncomputable abbrev Z70.con : V.Con := ⟨V.A1, V.eSigned, fun (x : V.D1) => Z70 (V.p1_0 x) (V.p1_1 x) (V.p1_2 x), [], [(false, 1), (true, 2), (true, 16)], [(true, 17)], [false, false, false, false, false, false, false, false, true, false, true, false, false, true, false, false, true], []⟩
noncomputable abbrev Z70.E : V.Env := V.mkE V.tys [(79, Z68.con), (80, Z73.con), (84, Z28.con)] [] [(1, 6)] [] [] []
noncomputable abbrev Z70.kt (x0 : List Int) (x1 : TKeys) (x2 : THead) : V.Kt TSigned := V.ktOf Z70.E Z70.con Tryz.f65 (V.fl1 x0 x1 x2)
noncomputable abbrev Z70.s (x0 : List Int) (x1 : TKeys) (x2 : THead) : V.St := ⟨[(0, .v false [.val (.sl (V.ci .nil) x0)]), (1, .v true [.val (.sl (V.ci .nil) x1.1), .vi (x1.2)]), (2, .v true (V.lsHead x2))], []⟩
theorem Z70.v0 (x0 : List Int) (x1 : TKeys) (x2 : THead) : V.evBody Z70.E Z70.con Tryz.f65 (V.fl1 x0 x1 x2) = V.evC Z70.E Tryz.f65.ntmps (V.codeOf Tryz.f65) (Z70.kt x0 x1 x2) (Z70.s x0 x1 x2) := by kernel_rfl
theorem Z70.v (x0 : List Int) (x1 : TKeys) (x2 : THead) : V.evC Z70.E Tryz.f65.ntmps (V.codeOf Tryz.f65) (Z70.kt x0 x1 x2) (Z70.s x0 x1 x2) = Z70 x0 x1 x2 := by kernel_rfl
theorem Z70.eq (x0 : List Int) (x1 : TKeys) (x2 : THead) : V.evBody Z70.E Z70.con Tryz.f65 (V.fl1 x0 x1 x2) = Z70 x0 x1 x2 := (Z70.v0 x0 x1 x2).trans (Z70.v x0 x1 x2)
theorem Z70.ok : V.Valid Tryz.prog 65 Z70.con :=
 V.fo (V.tab_cons Z68.ok (V.tab_cons Z73.ok (V.tab_cons Z28.ok V.tab_nil))) Tryz.func65 (by kernel_rfl) (fun x y h => (show V.evBody Z70.E Z70.con Tryz.f65 x = _ from Z70.eq (V.p1_0 x) (V.p1_1 x) (V.p1_2 x)).trans (V.cfl (by kernel_rfl) h))
noncomputable abbrev Z21.con : V.Con := ⟨(.cons (.ptr (.cons (.sl (.cons (.int .u8) .nil)) (V.ci (V.ci .nil)))) .nil), (.cons (.ptr (.cons (.sl (.cons (.int .u8) .nil)) (V.ci (V.ci .nil)))) (V.ci (V.ci (V.ci (V.ci (V.ci (V.ci (V.ci (V.ci (.cons (.sl (V.ci .nil)) (V.ci (.cons (.sl (V.ci .nil)) (V.ci (V.ci (.cons (.sl (V.ci .nil)) (V.ci (.cons .bool (.cons (.sl (V.ci (V.ci .nil))) .nil)))))))))))))))))), fun (x : (Tl1Cur)) => Z21 x, [(0, false)], [(false, 1)], [(true, 17)], [false, false, false, false, false, false, false, false, true, false, true, false, false, true, false, false, true], []⟩
noncomputable abbrev Z21.E : V.Env := V.mkE V.tys [(27, Z5.con), (65, Z70.con), (82, Z22.con), (97, Z47.con), (112, Z55.con)] [(13, [0, 2, 3, 7], []), (25, [0, 2, 3, 7], [])] [] [] [] [(5, [1000])]
noncomputable abbrev Z21.kt (x0 : (Tl1Cur)) : V.Kt ((Tl1Cur) × Int × Int × Int × Int × Int × Int × Int × Int × List Int × Int × List Int × Int × Int × List Int × Int × Bool × List TSig) := V.ktOf Z21.E Z21.con Tryz.f93 ((x0) : (Tl1Cur))
noncomputable abbrev Z21.s25 (x0 : (Tl1Cur)) (v13_18 : Int) (v13_19 : Int) (v13_20 : Int) (v13_21 : Int) (v13_22 : Int) (v13_23 : Int) (v13_24 : Int) (v13_25 : Int) (v13_26 : Int) (v13_30 : Bool) (v13_31 : List Int) (y1 : (Tl1Cur) × List Int × Int) (v25_1 : Int) (v25_2 : Int) (v25_27 : Int) (v25_28 : Int) (v25_29 : Int) (v25_32 : List Int) (v25_33 : List Int) : V.St := ⟨[(0, .v false [.ptr 0 0]), (2, .v false [.ptr 64000 0]), (3, .v false [.ptr 128128 0]), (7, .v false [.ptr 384640 0])], [(0, .box [.val (.sl (.cons (.int .u8) .nil) x0.1), .vi (v25_1), .vi (v25_2)]), (64000, .box [.vi ((0 : Int)), .vi ((0 : Int)), .vi ((0 : Int)), .vi ((0 : Int)), .vi ((0 : Int)), .vi ((0 : Int)), .vi ((0 : Int)), .vi ((0 : Int)), .nil0, .vi ((0 : Int)), .nil0, .vi ((0 : Int)), .vi ((0 : Int)), .nil0, .vi ((0 : Int)), .val (.bool false), .nil0]), (128128, .box [.ref 64000000000008200192, .vi (y1.2.2)]), (64000000000008200192, .row (V.ci .nil) true y1.2.1), (384640, .box [.vi (v13_18), .vi (v13_19), .vi (v13_20), .vi (v13_21), .vi (v13_22), .vi (v13_23), .vi (v13_24), .vi (v13_25), .ref 64000000000024616968, .vi (v13_26), .ref 64000000000024616970, .vi (v25_27), .vi (v25_28), .ref 64000000000024616973, .vi (v25_29), .val (.bool v13_30)]), (64000000000024616968, .row (V.ci .nil) true v13_31), (64000000000024616970, .row (V.ci .nil) true v25_32), (64000000000024616973, .row (V.ci .nil) true v25_33)]⟩
noncomputable abbrev Z21.s13 (x0 : (Tl1Cur)) (y1 : (Tl1Cur) × List Int × Int) (v13_1 : Int) (v13_2 : Int) (v13_18 : Int) (v13_19 : Int) (v13_20 : Int) (v13_21 : Int) (v13_22 : Int) (v13_23 : Int) (v13_24 : Int) (v13_25 : Int) (v13_26 : Int) (v13_27 : Int) (v13_28 : Int) (v13_29 : Int) (v13_30 : Bool) (v13_31 : List Int) (v13_32 : List Int) (v13_33 : List Int) : V.St := ⟨[(0, .v false [.ptr 0 0]), (2, .v false [.ptr 64000 0]), (3, .v false [.ptr 128128 0]), (7, .v false [.ptr 384640 0])], [(0, .box [.val (.sl (.cons (.int .u8) .nil) x0.1), .vi (v13_1), .vi (v13_2)]), (64000, .box [.vi ((0 : Int)), .vi ((0 : Int)), .vi ((0 : Int)), .vi ((0 : Int)), .vi ((0 : Int)), .vi ((0 : Int)), .vi ((0 : Int)), .vi ((0 : Int)), .nil0, .vi ((0 : Int)), .nil0, .vi ((0 : Int)), .vi ((0 : Int)), .nil0, .vi ((0 : Int)), .val (.bool false), .nil0]), (128128, .box [.ref 64000000000008200192, .vi (y1.2.2)]), (64000000000008200192, .row (V.ci .nil) true y1.2.1), (384640, .box [.vi (v13_18), .vi (v13_19), .vi (v13_20), .vi (v13_21), .vi (v13_22), .vi (v13_23), .vi (v13_24), .vi (v13_25), .ref 64000000000024616968, .vi (v13_26), .ref 64000000000024616970, .vi (v13_27), .vi (v13_28), .ref 64000000000024616973, .vi (v13_29), .val (.bool v13_30)]), (64000000000024616968, .row (V.ci .nil) true v13_31), (64000000000024616970, .row (V.ci .nil) true v13_32), (64000000000024616973, .row (V.ci .nil) true v13_33)]⟩
theorem Z21.r25 (x0 : (Tl1Cur)) (v13_18 : Int) (v13_19 : Int) (v13_20 : Int) (v13_21 : Int) (v13_22 : Int) (v13_23 : Int) (v13_24 : Int) (v13_25 : Int) (v13_26 : Int) (v13_30 : Bool) (v13_31 : List Int) (y1 : (Tl1Cur) × List Int × Int) (v25_1 : Int) (v25_2 : Int) (v25_27 : Int) (v25_28 : Int) (v25_29 : Int) (v25_32 : List Int) (v25_33 : List Int) : V.joinF Z21.E Tryz.f93.ntmps [1, 1, 1, 1, 1, 1] [] (V.codeOf Tryz.f93) (Z21.kt x0) (Z21.s25 x0 v13_18 v13_19 v13_20 v13_21 v13_22 v13_23 v13_24 v13_25 v13_26 v13_30 v13_31 y1 v25_1 v25_2 v25_27 v25_28 v25_29 v25_32 v25_33) = Z21.g25 x0 v13_18 v13_19 v13_20 v13_21 v13_22 v13_23 v13_24 v13_25 v13_26 v13_30 v13_31 y1 v25_1 v25_2 v25_27 v25_28 v25_29 v25_32 v25_33 := by kernel_rfl
theorem Z21.e25 (x0 : (Tl1Cur)) (v13_18 : Int) (v13_19 : Int) (v13_20 : Int) (v13_21 : Int) (v13_22 : Int) (v13_23 : Int) (v13_24 : Int) (v13_25 : Int) (v13_26 : Int) (v13_30 : Bool) (v13_31 : List Int) (y1 : (Tl1Cur) × List Int × Int) (v25_1 : Int) (v25_2 : Int) (v25_27 : Int) (v25_28 : Int) (v25_29 : Int) (v25_32 : List Int) (v25_33 : List Int) : V.jn (V.joinF Z21.E Tryz.f93.ntmps [1, 1, 1, 1, 1, 1] [] (V.codeOf Tryz.f93) (Z21.kt x0)) (Z21.s25 x0 v13_18 v13_19 v13_20 v13_21 v13_22 v13_23 v13_24 v13_25 v13_26 v13_30 v13_31 y1 v25_1 v25_2 v25_27 v25_28 v25_29 v25_32 v25_33) = Z21.l25 x0 v13_18 v13_19 v13_20 v13_21 v13_22 v13_23 v13_24 v13_25 v13_26 v13_30 v13_31 y1 v25_1 v25_2 v25_27 v25_28 v25_29 v25_32 v25_33 := by
 rw [V.jn_eq, Z21.r25]
 rfl
theorem Z21.r13 (x0 : (Tl1Cur)) (y1 : (Tl1Cur) × List Int × Int) (v13_1 : Int) (v13_2 : Int) (v13_18 : Int) (v13_19 : Int) (v13_20 : Int) (v13_21 : Int) (v13_22 : Int) (v13_23 : Int) (v13_24 : Int) (v13_25 : Int) (v13_26 : Int) (v13_27 : Int) (v13_28 : Int) (v13_29 : Int) (v13_30 : Bool) (v13_31 : List Int) (v13_32 : List Int) (v13_33 : List Int) : V.joinF Z21.E Tryz.f93.ntmps [1, 1, 1, 1, 1] [] (V.codeOf Tryz.f93) (Z21.kt x0) (Z21.s13 x0 y1 v13_1 v13_2 v13_18 v13_19 v13_20 v13_21 v13_22 v13_23 v13_24 v13_25 v13_26 v13_27 v13_28 v13_29 v13_30 v13_31 v13_32 v13_33) = Z21.g13 x0 y1 (fun y1 v25_1 v25_2 v25_27 v25_28 v25_29 v25_32 v25_33 => V.jn (V.joinF Z21.E Tryz.f93.ntmps [1, 1, 1, 1, 1, 1] [] (V.codeOf Tryz.f93) (Z21.kt x0)) (Z21.s25 x0 v13_18 v13_19 v13_20 v13_21 v13_22 v13_23 v13_24 v13_25 v13_26 v13_30 v13_31 y1 v25_1 v25_2 v25_27 v25_28 v25_29 v25_32 v25_33)) v13_1 v13_2 v13_18 v13_19 v13_20 v13_21 v13_22 v13_23 v13_24 v13_25 v13_26 v13_27 v13_28 v13_29 v13_30 v13_31 v13_32 v13_33 := by kernel_rfl
theorem Z21.e13 (x0 : (Tl1Cur)) (y1 : (Tl1Cur) × List Int × Int) (v13_1 : Int) (v13_2 : Int) (v13_18 : Int) (v13_19 : Int) (v13_20 : Int) (v13_21 : Int) (v13_22 : Int) (v13_23 : Int) (v13_24 : Int) (v13_25 : Int) (v13_26 : Int) (v13_27 : Int) (v13_28 : Int) (v13_29 : Int) (v13_30 : Bool) (v13_31 : List Int) (v13_32 : List Int) (v13_33 : List Int) : V.jn (V.joinF Z21.E Tryz.f93.ntmps [1, 1, 1, 1, 1] [] (V.codeOf Tryz.f93) (Z21.kt x0)) (Z21.s13 x0 y1 v13_1 v13_2 v13_18 v13_19 v13_20 v13_21 v13_22 v13_23 v13_24 v13_25 v13_26 v13_27 v13_28 v13_29 v13_30 v13_31 v13_32 v13_33) = Z21.l13 x0 y1 v13_1 v13_2 v13_18 v13_19 v13_20 v13_21 v13_22 v13_23 v13_24 v13_25 v13_26 v13_27 v13_28 v13_29 v13_30 v13_31 v13_32 v13_33 := by
 rw [V.jn_eq, Z21.r13]
 simp only [Z21.e25]
 rfl
theorem Z21.v (x0 : (Tl1Cur)) : V.evBody Z21.E Z21.con Tryz.f93 ((x0) : (Tl1Cur)) = Z21.b x0 (fun y1 v13_1 v13_2 v13_18 v13_19 v13_20 v13_21 v13_22 v13_23 v13_24 v13_25 v13_26 v13_27 v13_28 v13_29 v13_30 v13_31 v13_32 v13_33 => V.jn (V.joinF Z21.E Tryz.f93.ntmps [1, 1, 1, 1, 1] [] (V.codeOf Tryz.f93) (Z21.kt x0)) (Z21.s13 x0 y1 v13_1 v13_2 v13_18 v13_19 v13_20 v13_21 v13_22 v13_23 v13_24 v13_25 v13_26 v13_27 v13_28 v13_29 v13_30 v13_31 v13_32 v13_33)) := by kernel_rfl
theorem Z21.eq (x0 : (Tl1Cur)) : V.evBody Z21.E Z21.con Tryz.f93 ((x0) : (Tl1Cur)) = Z21 x0 := by
 rw [Z21.v]
 simp only [Z21.e13]
 rfl
theorem Z21.ok : V.Valid Tryz.prog 93 Z21.con :=
 V.fo (V.tab_cons Z5.ok (V.tab_cons Z70.ok (V.tab_cons Z22.ok (V.tab_cons Z47.ok (V.tab_cons Z55.ok V.tab_nil))))) Tryz.func93 (by kernel_rfl) (fun x y h => (show V.evBody Z21.E Z21.con Tryz.f93 x = _ from Z21.eq x).trans (V.cfl (by kernel_rfl) h))
noncomputable abbrev Z72.con : V.Con := ⟨V.A0, (V.ci .nil), fun (x : V.D0) => Z72 (V.p0_0 x), [], [(true, 16)], [(false, 1)], [false], []⟩
noncomputable abbrev Z72.E : V.Env := V.mkE V.tys [(79, Z68.con), (92, Z20.con)] [] [] [] [] []
noncomputable abbrev Z72.kt (x0 : THead) : V.Kt Int := V.ktOf Z72.E Z72.con Tryz.f59 (V.fl0 x0)
noncomputable abbrev Z72.s (x0 : THead) : V.St := ⟨[(0, .v true (V.lsHead x0))], []⟩
theorem Z72.v0 (x0 : THead) : V.evBody Z72.E Z72.con Tryz.f59 (V.fl0 x0) = V.evC Z72.E Tryz.f59.ntmps (V.codeOf Tryz.f59) (Z72.kt x0) (Z72.s x0) := by kernel_rfl
theorem Z72.v (x0 : THead) : V.evC Z72.E Tryz.f59.ntmps (V.codeOf Tryz.f59) (Z72.kt x0) (Z72.s x0) = Z72 x0 := by kernel_rfl
theorem Z72.eq (x0 : THead) : V.evBody Z72.E Z72.con Tryz.f59 (V.fl0 x0) = Z72 x0 := (Z72.v0 x0).trans (Z72.v x0)
theorem Z72.ok : V.Valid Tryz.prog 59 Z72.con :=
 V.fo (V.tab_cons Z68.ok (V.tab_cons Z20.ok V.tab_nil)) Tryz.func59 (by kernel_rfl) (fun x y h => (show V.evBody Z72.E Z72.con Tryz.f59 x = _ from Z72.eq (V.p0_0 x)).trans (V.cfl (by kernel_rfl) h))
noncomputable abbrev Z95.con : V.Con := ⟨(.cons (.ptr (.cons (.sl (.cons (.int .u8) .nil)) (V.ci (V.ci .nil)))) (V.ci .nil)), (.cons (.ptr (.cons (.sl (.cons (.int .u8) .nil)) (V.ci (V.ci .nil)))) (.cons .bool .nil)), fun (x : (Tl1Cur) × Int) => Z95 x.1 x.2, [(0, false)], [(false, 1), (false, 1)], [(false, 1)], [false], []⟩
noncomputable abbrev Z95.E : V.Env := V.mkE V.tys [(27, Z5.con)] [] [] [] [] []
theorem Z95.eq (x0 : (Tl1Cur)) (x1 : Int) : V.evBody Z95.E Z95.con Tryz.f64 ((x0, x1) : (Tl1Cur) × Int) = Z95 x0 x1 := by kernel_rfl
theorem Z95.ok : V.Valid Tryz.prog 64 Z95.con :=
 V.fo (V.tab_cons Z5.ok V.tab_nil) Tryz.func64 (by kernel_rfl) (fun x y h => (show V.evBody Z95.E Z95.con Tryz.f64 x = _ from Z95.eq x.1 x.2).trans (V.cfl (by kernel_rfl) h))
noncomputable abbrev Z1.con : V.Con := ⟨V.A2, (.cons (.ptr (.cons (.sl (.cons (.int .u8) .nil)) (V.ci (V.ci .nil)))) (V.ci (V.ci (V.ci (V.ci (V.ci (V.ci (V.ci (V.ci (.cons (.sl (V.ci .nil)) (V.ci (.cons (.sl (V.ci .nil)) (V.ci (V.ci (.cons (.sl (V.ci .nil)) (V.ci (.cons .bool (.cons (.sl (V.ci (V.ci .nil))) .nil)))))))))))))))))), fun (x : V.D2) => Z1 (V.p2_0 x) (V.p2_1 x), [(0, false)], [(false, 1), (true, 16)], [(true, 17)], [false, false, false, false, false, false, false, false, true, false, true, false, false, true, false, false, true], []⟩
noncomputable abbrev Z1.E : V.Env := V.mkE V.tys [(27, Z5.con), (59, Z72.con), (64, Z95.con), (65, Z70.con), (80, Z73.con), (82, Z22.con), (96, Z101.con), (97, Z47.con), (98, Z118.con)] [(11, [0, 3, 4, 5], []), (13, [0, 3, 4, 5], []), (25, [0, 3, 4, 5, 6], []), (27, [0, 3, 4, 5, 6], []), (41, [0, 4, 5, 6, 73], []), (63, [0, 4, 5, 6], [])] [] [] [] [(4, [1000]), (5, [1000]), (11, [1000]), (12, [1000])]
noncomputable abbrev Z1.kt (x0 : (Tl1Cur)) (x1 : THead) : V.Kt ((Tl1Cur) × Int × Int × Int × Int × Int × Int × Int × Int × List Int × Int × List Int × Int × Int × List Int × Int × Bool × List TSig) := V.ktOf Z1.E Z1.con Tryz.f63 (V.fl2 x0 x1)
noncomputable abbrev Z1.s63 (x0 : (Tl1Cur)) (v11_33 : Int) (y1 : THead) (y2 : Int) (v63_1 : Int) (v63_2 : Int) (v63_18 : Int) (v63_19 : Int) (v63_20 : Int) (v63_21 : Int) (v63_22 : Int) (v63_24 : Int) (v63_25 : Int) (v63_26 : Int) (v63_27 : Int) (v63_28 : Bool) (v63_29 : List Int) (v63_30 : List Int) (v63_31 : List Int) (v63_32 : List Int) (v63_33 : Int) : V.St := ⟨[(0, .v false [.ptr 0 0]), (4, .v false [.ptr 64064 0]), (5, .v false [.ptr 128128 0]), (6, .v false [.ptr 512128 0])], [(0, .box [.val (.sl (.cons (.int .u8) .nil) x0.1), .vi (v63_1), .vi (v63_2)]), (64064, .box [.vi ((0 : Int)), .vi ((0 : Int)), .vi ((0 : Int)), .vi ((0 : Int)), .vi ((0 : Int)), .vi ((0 : Int)), .vi ((0 : Int)), .vi ((0 : Int)), .nil0, .vi ((0 : Int)), .nil0, .vi ((0 : Int)), .vi ((0 : Int)), .nil0, .vi ((0 : Int)), .val (.bool false), .nil0]), (128128, .box [.vi (y1.1), .vi (v11_33), .vi (v63_18), .vi (v63_19), .vi (v63_20), .vi (v63_21), .vi (v63_22), .vi (y2), .ref 64000000000008200200, .vi (v63_24), .ref 64000000000008200202, .vi (v63_25), .vi (v63_26), .ref 64000000000008200205, .vi (v63_27), .val (.bool v63_28)]), (64000000000008200200, .row (V.ci .nil) true v63_29), (64000000000008200202, .row (V.ci .nil) true v63_30), (64000000000008200205, .row (V.ci .nil) true v63_31), (512128, .box [.val (.sl (V.ci .nil) v63_32), .vi (v63_33)])]⟩
noncomputable abbrev Z1.s27 (x0 : (Tl1Cur)) (x1 : THead) (v11_33 : Int) (v25_35 : Int) (y1 : THead) (y2 : Int) (v27_1 : Int) (v27_2 : Int) (v27_36 : Int) : V.St := ⟨[(0, .v false [.ptr 0 0]), (3, .v false [.ptr 64000 0]), (4, .v false [.ptr 64064 0]), (5, .v false [.ptr 128128 0]), (6, .v false [.ptr 512128 0])], [(0, .box [.val (.sl (.cons (.int .u8) .nil) x0.1), .vi (v27_1), .vi (v27_2)]), (64000, .box (V.lsHead x1)), (64064, .box [.vi ((0 : Int)), .vi ((0 : Int)), .vi ((0 : Int)), .vi ((0 : Int)), .vi ((0 : Int)), .vi ((0 : Int)), .vi ((0 : Int)), .vi ((0 : Int)), .nil0, .vi ((0 : Int)), .nil0, .vi ((0 : Int)), .vi ((0 : Int)), .nil0, .vi ((0 : Int)), .val (.bool false), .nil0]), (128128, .box [.vi (y1.1), .vi (v11_33), .vi ((2 : Int)), .vi (v25_35), .vi (v27_36), .vi (y1.2.2.2.2.2.1), .vi (y1.2.2.2.2.2.2.1), .vi (y2), .ref 64000000000008200200, .vi (y1.2.2.2.2.2.2.2.2.2.1), .ref 64000000000008200202, .vi (y1.2.2.2.2.2.2.2.2.2.2.2.1), .vi (y1.2.2.2.2.2.2.2.2.2.2.2.2.1), .ref 64000000000008200205, .vi (y1.2.2.2.2.2.2.2.2.2.2.2.2.2.2.1), .val (.bool y1.2.2.2.2.2.2.2.2.2.2.2.2.2.2.2)]), (64000000000008200200, .row (V.ci .nil) true y1.2.2.2.2.2.2.2.2.1), (64000000000008200202, .row (V.ci .nil) true y1.2.2.2.2.2.2.2.2.2.2.1), (64000000000008200205, .row (V.ci .nil) true y1.2.2.2.2.2.2.2.2.2.2.2.2.2.1), (512128, .box [.val (.sl (V.ci .nil) x1.2.2.2.2.2.2.2.2.1), .vi (x1.2.2.2.2.2.2.2.2.2.1)])]⟩
noncomputable abbrev Z1.s25 (x0 : (Tl1Cur)) (x1 : THead) (v11_33 : Int) (v13_36 : Int) (y1 : THead) (y2 : Int) (v25_1 : Int) (v25_2 : Int) (v25_35 : Int) : V.St := ⟨[(0, .v false [.ptr 0 0]), (3, .v false [.ptr 64000 0]), (4, .v false [.ptr 64064 0]), (5, .v false [.ptr 128128 0]), (6, .v false [.ptr 512128 0])], [(0, .box [.val (.sl (.cons (.int .u8) .nil) x0.1), .vi (v25_1), .vi (v25_2)]), (64000, .box (V.lsHead x1)), (64064, .box [.vi ((0 : Int)), .vi ((0 : Int)), .vi ((0 : Int)), .vi ((0 : Int)), .vi ((0 : Int)), .vi ((0 : Int)), .vi ((0 : Int)), .vi ((0 : Int)), .nil0, .vi ((0 : Int)), .nil0, .vi ((0 : Int)), .vi ((0 : Int)), .nil0, .vi ((0 : Int)), .val (.bool false), .nil0]), (128128, .box [.vi (y1.1), .vi (v11_33), .vi ((2 : Int)), .vi (v25_35), .vi (v13_36), .vi (y1.2.2.2.2.2.1), .vi (y1.2.2.2.2.2.2.1), .vi (y2), .ref 64000000000008200200, .vi (y1.2.2.2.2.2.2.2.2.2.1), .ref 64000000000008200202, .vi (y1.2.2.2.2.2.2.2.2.2.2.2.1), .vi (y1.2.2.2.2.2.2.2.2.2.2.2.2.1), .ref 64000000000008200205, .vi (y1.2.2.2.2.2.2.2.2.2.2.2.2.2.2.1), .val (.bool y1.2.2.2.2.2.2.2.2.2.2.2.2.2.2.2)]), (64000000000008200200, .row (V.ci .nil) true y1.2.2.2.2.2.2.2.2.1), (64000000000008200202, .row (V.ci .nil) true y1.2.2.2.2.2.2.2.2.2.2.1), (64000000000008200205, .row (V.ci .nil) true y1.2.2.2.2.2.2.2.2.2.2.2.2.2.1), (512128, .box [.val (.sl (V.ci .nil) x1.2.2.2.2.2.2.2.2.1), .vi (x1.2.2.2.2.2.2.2.2.2.1)])]⟩
noncomputable abbrev Z1.s41 (x0 : (Tl1Cur)) (x1 : THead) (v11_33 : Int) (v11_35 : Int) (v13_36 : Int) (y1 : THead) (y2 : Int) (v41_0 : Bool) (v41_2 : Int) (v41_3 : Int) (v41_29 : Bool) : V.St := ⟨[(0, .v false [.ptr 0 0]), (4, .v false [.ptr 64064 0]), (5, .v false [.ptr 128128 0]), (6, .v false [.ptr 512128 0]), (73, .v false [.val (.bool v41_0)])], [(0, .box [.val (.sl (.cons (.int .u8) .nil) x0.1), .vi (v41_2), .vi (v41_3)]), (64064, .box [.vi ((0 : Int)), .vi ((0 : Int)), .vi ((0 : Int)), .vi ((0 : Int)), .vi ((0 : Int)), .vi ((0 : Int)), .vi ((0 : Int)), .vi ((0 : Int)), .nil0, .vi ((0 : Int)), .nil0, .vi ((0 : Int)), .vi ((0 : Int)), .nil0, .vi ((0 : Int)), .val (.bool false), .nil0]), (128128, .box [.vi (y1.1), .vi (v11_33), .vi ((3 : Int)), .vi (v11_35), .vi (v13_36), .vi (y1.2.2.2.2.2.1), .vi (y1.2.2.2.2.2.2.1), .vi (y2), .ref 64000000000008200200, .vi (y1.2.2.2.2.2.2.2.2.2.1), .ref 64000000000008200202, .vi (y1.2.2.2.2.2.2.2.2.2.2.2.1), .vi (y1.2.2.2.2.2.2.2.2.2.2.2.2.1), .ref 64000000000008200205, .vi (y1.2.2.2.2.2.2.2.2.2.2.2.2.2.2.1), .val (.bool v41_29)]), (64000000000008200200, .row (V.ci .nil) true y1.2.2.2.2.2.2.2.2.1), (64000000000008200202, .row (V.ci .nil) true y1.2.2.2.2.2.2.2.2.2.2.1), (64000000000008200205, .row (V.ci .nil) true y1.2.2.2.2.2.2.2.2.2.2.2.2.2.1), (512128, .box [.val (.sl (V.ci .nil) x1.2.2.2.2.2.2.2.2.2.2.2.2.2.1), .vi (x1.2.2.2.2.2.2.2.2.2.2.2.2.2.2.1)])]⟩
noncomputable abbrev Z1.s13 (x0 : (Tl1Cur)) (x1 : THead) (v11_33 : Int) (v11_35 : Int) (y1 : THead) (y2 : Int) (v13_1 : Int) (v13_2 : Int) (v13_36 : Int) : V.St := ⟨[(0, .v false [.ptr 0 0]), (3, .v false [.ptr 64000 0]), (4, .v false [.ptr 64064 0]), (5, .v false [.ptr 128128 0])], [(0, .box [.val (.sl (.cons (.int .u8) .nil) x0.1), .vi (v13_1), .vi (v13_2)]), (64000, .box (V.lsHead x1)), (64064, .box [.vi ((0 : Int)), .vi ((0 : Int)), .vi ((0 : Int)), .vi ((0 : Int)), .vi ((0 : Int)), .vi ((0 : Int)), .vi ((0 : Int)), .vi ((0 : Int)), .nil0, .vi ((0 : Int)), .nil0, .vi ((0 : Int)), .vi ((0 : Int)), .nil0, .vi ((0 : Int)), .val (.bool false), .nil0]), (128128, .box [.vi (y1.1), .vi (v11_33), .vi (y1.2.2.1), .vi (v11_35), .vi (v13_36), .vi (y1.2.2.2.2.2.1), .vi (y1.2.2.2.2.2.2.1), .vi (y2), .ref 64000000000008200200, .vi (y1.2.2.2.2.2.2.2.2.2.1), .ref 64000000000008200202, .vi (y1.2.2.2.2.2.2.2.2.2.2.2.1), .vi (y1.2.2.2.2.2.2.2.2.2.2.2.2.1), .ref 64000000000008200205, .vi (y1.2.2.2.2.2.2.2.2.2.2.2.2.2.2.1), .val (.bool y1.2.2.2.2.2.2.2.2.2.2.2.2.2.2.2)]), (64000000000008200200, .row (V.ci .nil) true y1.2.2.2.2.2.2.2.2.1), (64000000000008200202, .row (V.ci .nil) true y1.2.2.2.2.2.2.2.2.2.2.1), (64000000000008200205, .row (V.ci .nil) true y1.2.2.2.2.2.2.2.2.2.2.2.2.2.1)]⟩
noncomputable abbrev Z1.s11 (x0 : (Tl1Cur)) (x1 : THead) (y1 : THead) (y2 : Int) (v11_1 : Int) (v11_2 : Int) (v11_33 : Int) (v11_35 : Int) : V.St := ⟨[(0, .v false [.ptr 0 0]), (3, .v false [.ptr 64000 0]), (4, .v false [.ptr 64064 0]), (5, .v false [.ptr 128128 0])], [(0, .box [.val (.sl (.cons (.int .u8) .nil) x0.1), .vi (v11_1), .vi (v11_2)]), (64000, .box (V.lsHead x1)), (64064, .box [.vi ((0 : Int)), .vi ((0 : Int)), .vi ((0 : Int)), .vi ((0 : Int)), .vi ((0 : Int)), .vi ((0 : Int)), .vi ((0 : Int)), .vi ((0 : Int)), .nil0, .vi ((0 : Int)), .nil0, .vi ((0 : Int)), .vi ((0 : Int)), .nil0, .vi ((0 : Int)), .val (.bool false), .nil0]), (128128, .box [.vi (y1.1), .vi (v11_33), .vi (y1.2.2.1), .vi (v11_35), .vi (y1.2.2.2.2.1), .vi (y1.2.2.2.2.2.1), .vi (y1.2.2.2.2.2.2.1), .vi (y2), .ref 64000000000008200200, .vi (y1.2.2.2.2.2.2.2.2.2.1), .ref 64000000000008200202, .vi (y1.2.2.2.2.2.2.2.2.2.2.2.1), .vi (y1.2.2.2.2.2.2.2.2.2.2.2.2.1), .ref 64000000000008200205, .vi (y1.2.2.2.2.2.2.2.2.2.2.2.2.2.2.1), .val (.bool y1.2.2.2.2.2.2.2.2.2.2.2.2.2.2.2)]), (64000000000008200200, .row (V.ci .nil) true y1.2.2.2.2.2.2.2.2.1), (64000000000008200202, .row (V.ci .nil) true y1.2.2.2.2.2.2.2.2.2.2.1), (64000000000008200205, .row (V.ci .nil) true y1.2.2.2.2.2.2.2.2.2.2.2.2.2.1)]⟩
theorem Z1.r63 (x0 : (Tl1Cur)) (x1 : THead) (v11_33 : Int) (y1 : THead) (y2 : Int) (v63_1 : Int) (v63_2 : Int) (v63_18 : Int) (v63_19 : Int) (v63_20 : Int) (v63_21 : Int) (v63_22 : Int) (v63_24 : Int) (v63_25 : Int) (v63_26 : Int) (v63_27 : Int) (v63_28 : Bool) (v63_29 : List Int) (v63_30 : List Int) (v63_31 : List Int) (v63_32 : List Int) (v63_33 : Int) : V.joinF Z1.E Tryz.f63.ntmps [1, 1, 1, 1, 1, 1, 1, 1] [] (V.codeOf Tryz.f63) (Z1.kt x0 x1) (Z1.s63 x0 v11_33 y1 y2 v63_1 v63_2 v63_18 v63_19 v63_20 v63_21 v63_22 v63_24 v63_25 v63_26 v63_27 v63_28 v63_29 v63_30 v63_31 v63_32 v63_33) = Z1.g63 x0 v11_33 y1 y2 v63_1 v63_2 v63_18 v63_19 v63_20 v63_21 v63_22 v63_24 v63_25 v63_26 v63_27 v63_28 v63_29 v63_30 v63_31 v63_32 v63_33 := by kernel_rfl
theorem Z1.e63 (x0 : (Tl1Cur)) (x1 : THead) (v11_33 : Int) (y1 : THead) (y2 : Int) (v63_1 : Int) (v63_2 : Int) (v63_18 : Int) (v63_19 : Int) (v63_20 : Int) (v63_21 : Int) (v63_22 : Int) (v63_24 : Int) (v63_25 : Int) (v63_26 : Int) (v63_27 : Int) (v63_28 : Bool) (v63_29 : List Int) (v63_30 : List Int) (v63_31 : List Int) (v63_32 : List Int) (v63_33 : Int) : V.jn (V.joinF Z1.E Tryz.f63.ntmps [1, 1, 1, 1, 1, 1, 1, 1] [] (V.codeOf Tryz.f63) (Z1.kt x0 x1)) (Z1.s63 x0 v11_33 y1 y2 v63_1 v63_2 v63_18 v63_19 v63_20 v63_21 v63_22 v63_24 v63_25 v63_26 v63_27 v63_28 v63_29 v63_30 v63_31 v63_32 v63_33) = Z1.l63 x0 v11_33 y1 y2 v63_1 v63_2 v63_18 v63_19 v63_20 v63_21 v63_22 v63_24 v63_25 v63_26 v63_27 v63_28 v63_29 v63_30 v63_31 v63_32 v63_33 := by
 rw [V.jn_eq, Z1.r63]
 rfl
theorem Z1.r27 (x0 : (Tl1Cur)) (x1 : THead) (v11_33 : Int) (v25_35 : Int) (y1 : THead) (y2 : Int) (v27_1 : Int) (v27_2 : Int) (v27_36 : Int) : V.joinF Z1.E Tryz.f63.ntmps [1, 1, 1, 1, 1, 1, 1, 1, 0, 1, 0, 1, 0, 1, 1] [] (V.codeOf Tryz.f63) (Z1.kt x0 x1) (Z1.s27 x0 x1 v11_33 v25_35 y1 y2 v27_1 v27_2 v27_36) = Z1.g27 x0 x1 v11_33 v25_35 y1 y2 (fun y1 y2 v63_1 v63_2 v63_18 v63_19 v63_20 v63_21 v63_22 v63_24 v63_25 v63_26 v63_27 v63_28 v63_29 v63_30 v63_31 v63_32 v63_33 => V.jn (V.joinF Z1.E Tryz.f63.ntmps [1, 1, 1, 1, 1, 1, 1, 1] [] (V.codeOf Tryz.f63) (Z1.kt x0 x1)) (Z1.s63 x0 v11_33 y1 y2 v63_1 v63_2 v63_18 v63_19 v63_20 v63_21 v63_22 v63_24 v63_25 v63_26 v63_27 v63_28 v63_29 v63_30 v63_31 v63_32 v63_33)) v27_1 v27_2 v27_36 := by kernel_rfl
theorem Z1.e27 (x0 : (Tl1Cur)) (x1 : THead) (v11_33 : Int) (v25_35 : Int) (y1 : THead) (y2 : Int) (v27_1 : Int) (v27_2 : Int) (v27_36 : Int) : V.jn (V.joinF Z1.E Tryz.f63.ntmps [1, 1, 1, 1, 1, 1, 1, 1, 0, 1, 0, 1, 0, 1, 1] [] (V.codeOf Tryz.f63) (Z1.kt x0 x1)) (Z1.s27 x0 x1 v11_33 v25_35 y1 y2 v27_1 v27_2 v27_36) = Z1.l27 x0 x1 v11_33 v25_35 y1 y2 v27_1 v27_2 v27_36 := by
 rw [V.jn_eq, Z1.r27]
 simp only [Z1.e63]
 rfl
theorem Z1.r25 (x0 : (Tl1Cur)) (x1 : THead) (v11_33 : Int) (v13_36 : Int) (y1 : THead) (y2 : Int) (v25_1 : Int) (v25_2 : Int) (v25_35 : Int) : V.joinF Z1.E Tryz.f63.ntmps [1, 1, 1, 1, 1, 1, 1, 1, 0, 1, 0, 1, 0, 1] [] (V.codeOf Tryz.f63) (Z1.kt x0 x1) (Z1.s25 x0 x1 v11_33 v13_36 y1 y2 v25_1 v25_2 v25_35) = Z1.g25 x0 x1 v11_33 v13_36 y1 y2 (fun y1 y2 v27_1 v27_2 v27_36 => V.jn (V.joinF Z1.E Tryz.f63.ntmps [1, 1, 1, 1, 1, 1, 1, 1, 0, 1, 0, 1, 0, 1, 1] [] (V.codeOf Tryz.f63) (Z1.kt x0 x1)) (Z1.s27 x0 x1 v11_33 v25_35 y1 y2 v27_1 v27_2 v27_36)) v25_1 v25_2 v25_35 := by kernel_rfl
theorem Z1.e25 (x0 : (Tl1Cur)) (x1 : THead) (v11_33 : Int) (v13_36 : Int) (y1 : THead) (y2 : Int) (v25_1 : Int) (v25_2 : Int) (v25_35 : Int) : V.jn (V.joinF Z1.E Tryz.f63.ntmps [1, 1, 1, 1, 1, 1, 1, 1, 0, 1, 0, 1, 0, 1] [] (V.codeOf Tryz.f63) (Z1.kt x0 x1)) (Z1.s25 x0 x1 v11_33 v13_36 y1 y2 v25_1 v25_2 v25_35) = Z1.l25 x0 x1 v11_33 v13_36 y1 y2 v25_1 v25_2 v25_35 := by
 rw [V.jn_eq, Z1.r25]
 simp only [Z1.e27]
 rfl
theorem Z1.r41 (x0 : (Tl1Cur)) (x1 : THead) (v11_33 : Int) (v11_35 : Int) (v13_36 : Int) (y1 : THead) (y2 : Int) (v41_0 : Bool) (v41_2 : Int) (v41_3 : Int) (v41_29 : Bool) : V.joinF Z1.E Tryz.f63.ntmps [1, 1, 1, 1, 1, 1, 1, 1, 0, 1, 0, 1, 1, 1, 0, 1, 1, 1] [] (V.codeOf Tryz.f63) (Z1.kt x0 x1) (Z1.s41 x0 x1 v11_33 v11_35 v13_36 y1 y2 v41_0 v41_2 v41_3 v41_29) = Z1.g41 x0 x1 v11_33 v11_35 v13_36 y1 y2 (fun y1 y2 v63_1 v63_2 v63_18 v63_19 v63_20 v63_21 v63_22 v63_24 v63_25 v63_26 v63_27 v63_28 v63_29 v63_30 v63_31 v63_32 v63_33 => V.jn (V.joinF Z1.E Tryz.f63.ntmps [1, 1, 1, 1, 1, 1, 1, 1] [] (V.codeOf Tryz.f63) (Z1.kt x0 x1)) (Z1.s63 x0 v11_33 y1 y2 v63_1 v63_2 v63_18 v63_19 v63_20 v63_21 v63_22 v63_24 v63_25 v63_26 v63_27 v63_28 v63_29 v63_30 v63_31 v63_32 v63_33)) v41_0 v41_2 v41_3 v41_29 := by kernel_rfl
theorem Z1.e41 (x0 : (Tl1Cur)) (x1 : THead) (v11_33 : Int) (v11_35 : Int) (v13_36 : Int) (y1 : THead) (y2 : Int) (v41_0 : Bool) (v41_2 : Int) (v41_3 : Int) (v41_29 : Bool) : V.jn (V.joinF Z1.E Tryz.f63.ntmps [1, 1, 1, 1, 1, 1, 1, 1, 0, 1, 0, 1, 1, 1, 0, 1, 1, 1] [] (V.codeOf Tryz.f63) (Z1.kt x0 x1)) (Z1.s41 x0 x1 v11_33 v11_35 v13_36 y1 y2 v41_0 v41_2 v41_3 v41_29) = Z1.l41 x0 x1 v11_33 v11_35 v13_36 y1 y2 v41_0 v41_2 v41_3 v41_29 := by
 rw [V.jn_eq, Z1.r41]
 simp only [Z1.e63]
 rfl
theorem Z1.r13 (x0 : (Tl1Cur)) (x1 : THead) (v11_33 : Int) (v11_35 : Int) (y1 : THead) (y2 : Int) (v13_1 : Int) (v13_2 : Int) (v13_36 : Int) : V.joinF Z1.E Tryz.f63.ntmps [1, 1, 1, 1, 1] [] (V.codeOf Tryz.f63) (Z1.kt x0 x1) (Z1.s13 x0 x1 v11_33 v11_35 y1 y2 v13_1 v13_2 v13_36) = Z1.g13 x0 x1 v11_33 v11_35 y1 y2 (fun y1 y2 v25_1 v25_2 v25_35 => V.jn (V.joinF Z1.E Tryz.f63.ntmps [1, 1, 1, 1, 1, 1, 1, 1, 0, 1, 0, 1, 0, 1] [] (V.codeOf Tryz.f63) (Z1.kt x0 x1)) (Z1.s25 x0 x1 v11_33 v13_36 y1 y2 v25_1 v25_2 v25_35)) (fun y1 y2 v41_0 v41_2 v41_3 v41_29 => V.jn (V.joinF Z1.E Tryz.f63.ntmps [1, 1, 1, 1, 1, 1, 1, 1, 0, 1, 0, 1, 1, 1, 0, 1, 1, 1] [] (V.codeOf Tryz.f63) (Z1.kt x0 x1)) (Z1.s41 x0 x1 v11_33 v11_35 v13_36 y1 y2 v41_0 v41_2 v41_3 v41_29)) (fun y1 y2 v63_1 v63_2 v63_18 v63_19 v63_20 v63_21 v63_22 v63_24 v63_25 v63_26 v63_27 v63_28 v63_29 v63_30 v63_31 v63_32 v63_33 => V.jn (V.joinF Z1.E Tryz.f63.ntmps [1, 1, 1, 1, 1, 1, 1, 1] [] (V.codeOf Tryz.f63) (Z1.kt x0 x1)) (Z1.s63 x0 v11_33 y1 y2 v63_1 v63_2 v63_18 v63_19 v63_20 v63_21 v63_22 v63_24 v63_25 v63_26 v63_27 v63_28 v63_29 v63_30 v63_31 v63_32 v63_33)) v13_1 v13_2 v13_36 := by kernel_rfl
theorem Z1.e13 (x0 : (Tl1Cur)) (x1 : THead) (v11_33 : Int) (v11_35 : Int) (y1 : THead) (y2 : Int) (v13_1 : Int) (v13_2 : Int) (v13_36 : Int) : V.jn (V.joinF Z1.E Tryz.f63.ntmps [1, 1, 1, 1, 1] [] (V.codeOf Tryz.f63) (Z1.kt x0 x1)) (Z1.s13 x0 x1 v11_33 v11_35 y1 y2 v13_1 v13_2 v13_36) = Z1.l13 x0 x1 v11_33 v11_35 y1 y2 v13_1 v13_2 v13_36 := by
 rw [V.jn_eq, Z1.r13]
 simp only [Z1.e25, Z1.e41, Z1.e63]
 rfl
theorem Z1.r11 (x0 : (Tl1Cur)) (x1 : THead) (y1 : THead) (y2 : Int) (v11_1 : Int) (v11_2 : Int) (v11_33 : Int) (v11_35 : Int) : V.joinF Z1.E Tryz.f63.ntmps [1, 1, 1, 1] [] (V.codeOf Tryz.f63) (Z1.kt x0 x1) (Z1.s11 x0 x1 y1 y2 v11_1 v11_2 v11_33 v11_35) = Z1.g11 x0 x1 y1 y2 (fun y1 y2 v13_1 v13_2 v13_36 => V.jn (V.joinF Z1.E Tryz.f63.ntmps [1, 1, 1, 1, 1] [] (V.codeOf Tryz.f63) (Z1.kt x0 x1)) (Z1.s13 x0 x1 v11_33 v11_35 y1 y2 v13_1 v13_2 v13_36)) v11_1 v11_2 v11_33 v11_35 := by kernel_rfl
theorem Z1.e11 (x0 : (Tl1Cur)) (x1 : THead) (y1 : THead) (y2 : Int) (v11_1 : Int) (v11_2 : Int) (v11_33 : Int) (v11_35 : Int) : V.jn (V.joinF Z1.E Tryz.f63.ntmps [1, 1, 1, 1] [] (V.codeOf Tryz.f63) (Z1.kt x0 x1)) (Z1.s11 x0 x1 y1 y2 v11_1 v11_2 v11_33 v11_35) = Z1.l11 x0 x1 y1 y2 v11_1 v11_2 v11_33 v11_35 := by
 rw [V.jn_eq, Z1.r11]
 simp only [Z1.e13]
 rfl
noncomputable abbrev Z1.s (x0 : (Tl1Cur)) (x1 : THead) : V.St := ⟨[(0, .v false [.ptr 0 0]), (1, .v true (V.lsHead x1))], [(0, .box [.val (.sl (.cons (.int .u8) .nil) x0.1), .vi (x0.2.1), .vi (x0.2.2)])]⟩
theorem Z1.v0 (x0 : (Tl1Cur)) (x1 : THead) : V.evBody Z1.E Z1.con Tryz.f63 (V.fl2 x0 x1) = V.evC Z1.E Tryz.f63.ntmps (V.codeOf Tryz.f63) (Z1.kt x0 x1) (Z1.s x0 x1) := by kernel_rfl
theorem Z1.v (x0 : (Tl1Cur)) (x1 : THead) : V.evC Z1.E Tryz.f63.ntmps (V.codeOf Tryz.f63) (Z1.kt x0 x1) (Z1.s x0 x1) = Z1.b x0 x1 (fun y1 y2 v11_1 v11_2 v11_33 v11_35 => V.jn (V.joinF Z1.E Tryz.f63.ntmps [1, 1, 1, 1] [] (V.codeOf Tryz.f63) (Z1.kt x0 x1)) (Z1.s11 x0 x1 y1 y2 v11_1 v11_2 v11_33 v11_35)) := by kernel_rfl
theorem Z1.eq (x0 : (Tl1Cur)) (x1 : THead) : V.evBody Z1.E Z1.con Tryz.f63 (V.fl2 x0 x1) = Z1 x0 x1 := by
 rw [Z1.v0, Z1.v]
 simp only [Z1.e11]
 rfl
theorem Z1.ok : V.Valid Tryz.prog 63 Z1.con :=
 V.fo (V.tab_cons Z5.ok (V.tab_cons Z72.ok (V.tab_cons Z95.ok (V.tab_cons Z70.ok (V.tab_cons Z73.ok (V.tab_cons Z22.ok (V.tab_cons Z101.ok (V.tab_cons Z47.ok (V.tab_cons Z118.ok V.tab_nil))))))))) Tryz.func63 (by kernel_rfl) (fun x y h => (show V.evBody Z1.E Z1.con Tryz.f63 x = _ from Z1.eq (V.p2_0 x) (V.p2_1 x)).trans (V.cfl (by kernel_rfl) h))
noncomputable abbrev Z148.con : V.Con := ⟨(V.ci (V.ci (.cons (.sl (V.ci .nil)) .nil))), (.cons .bool .nil), fun (x : Int × Int × List Int) => Z148 (x.1, x.2.1) x.2.2, [], [(true, 2), (false, 1)], [(false, 1)], [false], []⟩
noncomputable abbrev Z148.E : V.Env := V.mkE V.tys [(43, Z105.con), (75, Z29.con)] [] [(1, 10)] [] [] []
theorem Z148.eq (x0 : TSig) (x1 : List Int) : V.evBody Z148.E Z148.con Tryz.f89 ((x0.1, x0.2, x1) : Int × Int × List Int) = Z148 x0 x1 := by kernel_rfl
theorem Z148.ok : V.Valid Tryz.prog 89 Z148.con :=
 V.fo (V.tab_cons Z105.ok (V.tab_cons Z29.ok V.tab_nil)) Tryz.func89 (by kernel_rfl) (fun x y h => (show V.evBody Z148.E Z148.con Tryz.f89 x = _ from Z148.eq (x.1, x.2.1) x.2.2).trans (V.cfl (by kernel_rfl) h))
noncomputable abbrev Z4.con : V.Con := ⟨(.cons (.sl (V.ci .nil)) (V.ci (.cons (.sl (V.ci .nil)) (.cons (.sl (V.ci (V.ci .nil))) .nil)))), (V.ci .nil), fun (x : List Int × Int × List Int × List TSig) => Z4 (x.1, x.2.1) x.2.2.1 x.2.2.2, [], [(true, 2), (false, 1), (false, 1)], [(false, 1)], [false], []⟩
noncomputable abbrev Z4.E : V.Env := V.mkE V.tys [(89, Z148.con)] [(6, [1, 2, 3, 7, 8], []), (12, [1, 2, 3, 7, 8, 9], []), (19, [1, 2, 3, 7, 8, 9, 41], [])] [(8, 17)] [] [] []
noncomputable abbrev Z4.kt (x0 : TKeys) (x1 : List Int) (x2 : List TSig) : V.Kt Int := V.ktOf Z4.E Z4.con Tryz.f56 ((x0.1, x0.2, x1, x2) : List Int × Int × List Int × List TSig)
noncomputable abbrev Z4.s19 (x0 : TKeys) (x1 : List Int) (x2 : List TSig) (v6_2 : Int) (v6_3 : Int) (v12_4 : Int) (v19_5 : Bool) : V.St := ⟨[(1, .v false [.val (.sl (V.ci .nil) x1)]), (2, .v false [.val (.sl (V.ci (V.ci .nil)) x2)]), (3, .v false [.ptr 64000 0]), (7, .v false [.vi (v6_2)]), (8, .v false [.vi (v6_3)]), (9, .v false [.vi (v12_4)]), (41, .v false [.val (.bool v19_5)])], [(64000, .box [.val (.sl (V.ci .nil) x0.1), .vi (x0.2)])]⟩
noncomputable abbrev Z4.s12 (x0 : TKeys) (x1 : List Int) (x2 : List TSig) (v6_2 : Int) (v6_3 : Int) (v12_4 : Int) : V.St := ⟨[(1, .v false [.val (.sl (V.ci .nil) x1)]), (2, .v false [.val (.sl (V.ci (V.ci .nil)) x2)]), (3, .v false [.ptr 64000 0]), (7, .v false [.vi (v6_2)]), (8, .v false [.vi (v6_3)]), (9, .v false [.vi (v12_4)])], [(64000, .box [.val (.sl (V.ci .nil) x0.1), .vi (x0.2)])]⟩
noncomputable abbrev Z4.s6 (x0 : TKeys) (x1 : List Int) (x2 : List TSig) (v6_2 : Int) (v6_3 : Int) : V.St := ⟨[(1, .v false [.val (.sl (V.ci .nil) x1)]), (2, .v false [.val (.sl (V.ci (V.ci .nil)) x2)]), (3, .v false [.ptr 64000 0]), (7, .v false [.vi (v6_2)]), (8, .v false [.vi (v6_3)])], [(64000, .box [.val (.sl (V.ci .nil) x0.1), .vi (x0.2)])]⟩
theorem Z4.r19 (x0 : TKeys) (x1 : List Int) (x2 : List TSig) (v12_4 : Int) (v6_2 : Int) (v6_3 : Int) (R6 : V.St → Option Int) (R12 : V.St → Option Int) (v19_5 : Bool) : V.joinF Z4.E Tryz.f56.ntmps [1, 1, 0, 1, 0, 0, 1, 0, 0, 1, 0, 0, 1, 0, 0] [R6, R12] (V.codeOf Tryz.f56) (Z4.kt x0 x1 x2) (Z4.s19 x0 x1 x2 v6_2 v6_3 v12_4 v19_5) = Z4.g19 x0 x1 x2 v6_2 v6_3 v12_4 (fun v6_2 v6_3 => R6 (Z4.s6 x0 x1 x2 v6_2 v6_3)) (fun v12_4 => R12 (Z4.s12 x0 x1 x2 v6_2 v6_3 v12_4)) v19_5 := by kernel_rfl
theorem Z4.e19 (x0 : TKeys) (x1 : List Int) (x2 : List TSig) (v12_4 : Int) (v6_2 : Int) (v6_3 : Int) (R6 : V.St → Option Int) (R12 : V.St → Option Int) (v19_5 : Bool) : V.jn (V.joinF Z4.E Tryz.f56.ntmps [1, 1, 0, 1, 0, 0, 1, 0, 0, 1, 0, 0, 1, 0, 0] [R6, R12] (V.codeOf Tryz.f56) (Z4.kt x0 x1 x2)) (Z4.s19 x0 x1 x2 v6_2 v6_3 v12_4 v19_5) = Z4.l19 x0 x1 x2 v6_2 v6_3 v12_4 (fun v6_2 v6_3 => R6 (Z4.s6 x0 x1 x2 v6_2 v6_3)) (fun v12_4 => R12 (Z4.s12 x0 x1 x2 v6_2 v6_3 v12_4)) v19_5 := by
 rw [V.jn_eq, Z4.r19]
 rfl
theorem Z4.r12 (x0 : TKeys) (x1 : List Int) (x2 : List TSig) (v6_2 : Int) (v6_3 : Int) (R6 : V.St → Option Int) (R : V.St → Option Int) (v12_4 : Int) : V.loopF Z4.E Tryz.f56.ntmps [1, 1, 0, 1, 0, 0, 1, 0, 0, 1, 0] [R6] (V.codeOf Tryz.f56) (Z4.kt x0 x1 x2) R (Z4.s12 x0 x1 x2 v6_2 v6_3 v12_4) = Z4.g12 x0 x1 x2 v6_2 v6_3 (fun v6_2 v6_3 => R6 (Z4.s6 x0 x1 x2 v6_2 v6_3)) (fun v12_4 => R (Z4.s12 x0 x1 x2 v6_2 v6_3 v12_4)) (fun v19_5 => V.jn (V.joinF Z4.E Tryz.f56.ntmps [1, 1, 0, 1, 0, 0, 1, 0, 0, 1, 0, 0, 1, 0, 0] [R6, R] (V.codeOf Tryz.f56) (Z4.kt x0 x1 x2)) (Z4.s19 x0 x1 x2 v6_2 v6_3 v12_4 v19_5)) v12_4 := by kernel_rfl
theorem Z4.e12 (x0 : TKeys) (x1 : List Int) (x2 : List TSig) (v6_2 : Int) (v6_3 : Int) (R6 : V.St → Option Int) : ∀ (n : Nat) (v12_4 : Int), V.loopN (V.loopF Z4.E Tryz.f56.ntmps [1, 1, 0, 1, 0, 0, 1, 0, 0, 1, 0] [R6] (V.codeOf Tryz.f56) (Z4.kt x0 x1 x2)) n (Z4.s12 x0 x1 x2 v6_2 v6_3 v12_4) = Z4.l12 x0 x1 x2 v6_2 v6_3 (fun v6_2 v6_3 => R6 (Z4.s6 x0 x1 x2 v6_2 v6_3)) n v12_4 := by
 intro n
 induction n with
 | zero => intros; rw [V.loopN_z]; rfl
 | succ n ih =>
   intro v12_4
   rw [V.loopN_s, Z4.r12]
   simp only [Z4.e19, ih]
   first | exact (Z4.u12 ..).symm | rfl
theorem Z4.r6 (x0 : TKeys) (x1 : List Int) (x2 : List TSig) (R : V.St → Option Int) (v6_2 : Int) (v6_3 : Int) : V.loopF Z4.E Tryz.f56.ntmps [1, 1, 0, 1, 0] [] (V.codeOf Tryz.f56) (Z4.kt x0 x1 x2) R (Z4.s6 x0 x1 x2 v6_2 v6_3) = Z4.g6 x0 x1 x2 (fun v6_2 v6_3 => R (Z4.s6 x0 x1 x2 v6_2 v6_3)) (fun v12_4 => V.loopN (V.loopF Z4.E Tryz.f56.ntmps [1, 1, 0, 1, 0, 0, 1, 0, 0, 1, 0] [R] (V.codeOf Tryz.f56) (Z4.kt x0 x1 x2)) V.KK (Z4.s12 x0 x1 x2 v6_2 v6_3 v12_4)) v6_2 v6_3 := by kernel_rfl
theorem Z4.e6 (x0 : TKeys) (x1 : List Int) (x2 : List TSig) : ∀ (n : Nat) (v6_2 : Int) (v6_3 : Int), V.loopN (V.loopF Z4.E Tryz.f56.ntmps [1, 1, 0, 1, 0] [] (V.codeOf Tryz.f56) (Z4.kt x0 x1 x2)) n (Z4.s6 x0 x1 x2 v6_2 v6_3) = Z4.l6 x0 x1 x2 n v6_2 v6_3 := by
 intro n
 induction n with
 | zero => intros; rw [V.loopN_z]; rfl
 | succ n ih =>
   intro v6_2 v6_3
   rw [V.loopN_s, Z4.r6]
   simp only [Z4.e12, ih]
   first | exact (Z4.u6 ..).symm | rfl
theorem Z4.v (x0 : TKeys) (x1 : List Int) (x2 : List TSig) : V.evBody Z4.E Z4.con Tryz.f56 ((x0.1, x0.2, x1, x2) : List Int × Int × List Int × List TSig) = Z4.b x0 x1 x2 (fun v6_2 v6_3 => V.loopN (V.loopF Z4.E Tryz.f56.ntmps [1, 1, 0, 1, 0] [] (V.codeOf Tryz.f56) (Z4.kt x0 x1 x2)) V.KK (Z4.s6 x0 x1 x2 v6_2 v6_3)) := by kernel_rfl
theorem Z4.eq (x0 : TKeys) (x1 : List Int) (x2 : List TSig) : V.evBody Z4.E Z4.con Tryz.f56 ((x0.1, x0.2, x1, x2) : List Int × Int × List Int × List TSig) = Z4 x0 x1 x2 := by
 rw [Z4.v]
 simp only [Z4.e6]
 rfl
theorem Z4.ok : V.Valid Tryz.prog 56 Z4.con :=
 V.fo (V.tab_cons Z148.ok V.tab_nil) Tryz.func56 (by kernel_rfl) (fun x y h => (show V.evBody Z4.E Z4.con Tryz.f56 x = _ from Z4.eq (x.1, x.2.1) x.2.2.1 x.2.2.2).trans (V.cfl (by kernel_rfl) h))
noncomputable abbrev Z117.con : V.Con := ⟨(.cons (.sl (V.ci .nil)) (V.ci (.cons (.sl (V.ci .nil)) (.cons (.sl (V.ci (V.ci .nil))) .nil)))), (.cons .bool .nil), fun (x : List Int × Int × List Int × List TSig) => Z117 (x.1, x.2.1) x.2.2.1 x.2.2.2, [], [(true, 2), (false, 1), (false, 1)], [(false, 1)], [false], []⟩
noncomputable abbrev Z117.E : V.Env := V.mkE V.tys [(56, Z4.con), (57, Z23.con)] [] [(1, 9)] [] [] []
theorem Z117.eq (x0 : TKeys) (x1 : List Int) (x2 : List TSig) : V.evBody Z117.E Z117.con Tryz.f117 ((x0.1, x0.2, x1, x2) : List Int × Int × List Int × List TSig) = Z117 x0 x1 x2 := by kernel_rfl
theorem Z117.ok : V.Valid Tryz.prog 117 Z117.con :=
 V.fo (V.tab_cons Z4.ok (V.tab_cons Z23.ok V.tab_nil)) Tryz.func117 (by kernel_rfl) (fun x y h => (show V.evBody Z117.E Z117.con Tryz.f117 x = _ from Z117.eq (x.1, x.2.1) x.2.2.1 x.2.2.2).trans (V.cfl (by kernel_rfl) h))
noncomputable abbrev Z90.con : V.Con := ⟨V.A3, (.cons .bool .nil), fun (x : V.D3) => Z90 (V.p3_0 x), [], [(true, 17)], [(false, 1)], [false], []⟩
noncomputable abbrev Z90.E : V.Env := V.mkE V.tys [(79, Z68.con), (113, Z6.con), (117, Z117.con), (128, Z119.con)] [] [(2, 34)] [] [] []
noncomputable abbrev Z90.kt (x0 : TSigned) : V.Kt Bool := V.ktOf Z90.E Z90.con Tryz.f103 (V.fl3 x0)
noncomputable abbrev Z90.s (x0 : TSigned) : V.St := ⟨[(0, .v true (V.lsSigned x0))], []⟩
theorem Z90.v0 (x0 : TSigned) : V.evBody Z90.E Z90.con Tryz.f103 (V.fl3 x0) = V.evC Z90.E Tryz.f103.ntmps (V.codeOf Tryz.f103) (Z90.kt x0) (Z90.s x0) := by kernel_rfl
theorem Z90.v (x0 : TSigned) : V.evC Z90.E Tryz.f103.ntmps (V.codeOf Tryz.f103) (Z90.kt x0) (Z90.s x0) = Z90 x0 := by kernel_rfl
theorem Z90.eq (x0 : TSigned) : V.evBody Z90.E Z90.con Tryz.f103 (V.fl3 x0) = Z90 x0 := (Z90.v0 x0).trans (Z90.v x0)
theorem Z90.ok : V.Valid Tryz.prog 103 Z90.con :=
 V.fo (V.tab_cons Z68.ok (V.tab_cons Z6.ok (V.tab_cons Z117.ok (V.tab_cons Z119.ok V.tab_nil)))) Tryz.func103 (by kernel_rfl) (fun x y h => (show V.evBody Z90.E Z90.con Tryz.f103 x = _ from Z90.eq (V.p3_0 x)).trans (V.cfl (by kernel_rfl) h))
noncomputable abbrev Z92.con : V.Con := ⟨V.A4, (V.ci .nil), fun (x : V.D4) => Z92 (V.p4_0 x) (V.p4_1 x), [], [(true, 16), (true, 16)], [(false, 1)], [false], []⟩
noncomputable abbrev Z92.E : V.Env := V.mkE V.tys [] [] [] [] [] []
noncomputable abbrev Z92.kt (x0 : THead) (x1 : THead) : V.Kt Int := V.ktOf Z92.E Z92.con Tryz.f114 (V.fl4 x0 x1)
noncomputable abbrev Z92.s (x0 : THead) (x1 : THead) : V.St := ⟨[(0, .v true (V.lsHead x0)), (1, .v true (V.lsHead x1))], []⟩
theorem Z92.v0 (x0 : THead) (x1 : THead) : V.evBody Z92.E Z92.con Tryz.f114 (V.fl4 x0 x1) = V.evC Z92.E Tryz.f114.ntmps (V.codeOf Tryz.f114) (Z92.kt x0 x1) (Z92.s x0 x1) := by kernel_rfl
theorem Z92.v (x0 : THead) (x1 : THead) : V.evC Z92.E Tryz.f114.ntmps (V.codeOf Tryz.f114) (Z92.kt x0 x1) (Z92.s x0 x1) = Z92 x0 x1 := by kernel_rfl
theorem Z92.eq (x0 : THead) (x1 : THead) : V.evBody Z92.E Z92.con Tryz.f114 (V.fl4 x0 x1) = Z92 x0 x1 := (Z92.v0 x0 x1).trans (Z92.v x0 x1)
theorem Z92.ok : V.Valid Tryz.prog 114 Z92.con :=
 V.fo V.tab_nil Tryz.func114 (by kernel_rfl) (fun x y h => (show V.evBody Z92.E Z92.con Tryz.f114 x = _ from Z92.eq (V.p4_0 x) (V.p4_1 x)).trans (V.cfl (by kernel_rfl) h))
noncomputable abbrev Z26.con : V.Con := ⟨(.cons (.sl (V.ci .nil)) (.cons (.sl (V.ci .nil)) .nil)), (.cons .bool .nil), fun (x : List Int × List Int) => Z26 x.1 x.2, [], [(false, 1), (false, 1)], [(false, 1)], [false], []⟩
noncomputable abbrev Z26.E : V.Env := V.mkE V.tys [] [(8, [0, 1, 5], [])] [(6, 8)] [] [] []
noncomputable abbrev Z26.kt (x0 : List Int) (x1 : List Int) : V.Kt Bool := V.ktOf Z26.E Z26.con Tryz.f78 ((x0, x1) : List Int × List Int)
noncomputable abbrev Z26.s8 (x0 : List Int) (x1 : List Int) (v8_2 : Int) : V.St := ⟨[(0, .v false [.val (.sl (V.ci .nil) x0)]), (1, .v false [.val (.sl (V.ci .nil) x1)]), (5, .v false [.vi (v8_2)])], []⟩
theorem Z26.r8 (x0 : List Int) (x1 : List Int) (R : V.St → Option Bool) (v8_2 : Int) : V.loopF Z26.E Tryz.f78.ntmps [1, 1, 0, 1, 0] [] (V.codeOf Tryz.f78) (Z26.kt x0 x1) R (Z26.s8 x0 x1 v8_2) = Z26.g8 x0 x1 (fun v8_2 => R (Z26.s8 x0 x1 v8_2)) v8_2 := by kernel_rfl
theorem Z26.e8 (x0 : List Int) (x1 : List Int) : ∀ (n : Nat) (v8_2 : Int), V.loopN (V.loopF Z26.E Tryz.f78.ntmps [1, 1, 0, 1, 0] [] (V.codeOf Tryz.f78) (Z26.kt x0 x1)) n (Z26.s8 x0 x1 v8_2) = Z26.l8 x0 x1 n v8_2 := by
 intro n
 induction n with
 | zero => intros; rw [V.loopN_z]; rfl
 | succ n ih =>
   intro v8_2
   rw [V.loopN_s, Z26.r8]
   simp only [ih]
   first | exact (Z26.u8 ..).symm | rfl
theorem Z26.v (x0 : List Int) (x1 : List Int) : V.evBody Z26.E Z26.con Tryz.f78 ((x0, x1) : List Int × List Int) = Z26.b x0 x1 (fun v8_2 => V.loopN (V.loopF Z26.E Tryz.f78.ntmps [1, 1, 0, 1, 0] [] (V.codeOf Tryz.f78) (Z26.kt x0 x1)) V.KK (Z26.s8 x0 x1 v8_2)) := by kernel_rfl
theorem Z26.eq (x0 : List Int) (x1 : List Int) : V.evBody Z26.E Z26.con Tryz.f78 ((x0, x1) : List Int × List Int) = Z26 x0 x1 := by
 rw [Z26.v]
 simp only [Z26.e8]
 rfl
theorem Z26.ok : V.Valid Tryz.prog 78 Z26.con :=
 V.fo V.tab_nil Tryz.func78 (by kernel_rfl) (fun x y h => (show V.evBody Z26.E Z26.con Tryz.f78 x = _ from Z26.eq x.1 x.2).trans (V.cfl (by kernel_rfl) h))
noncomputable abbrev Z109.con : V.Con := ⟨(.cons (.sl (V.ci .nil)) (V.ci (.cons (.sl (V.ci .nil)) (V.ci .nil)))), (.cons .bool .nil), fun (x : List Int × Int × List Int × Int) => Z109 (x.1, x.2.1) x.2.2, [], [(true, 2), (true, 2)], [(false, 1)], [false], []⟩
noncomputable abbrev Z109.E : V.Env := V.mkE V.tys [(78, Z26.con)] [] [] [] [] []
theorem Z109.eq (x0 : TKeys) (x1 : TKeys) : V.evBody Z109.E Z109.con Tryz.f131 ((x0.1, x0.2, x1.1, x1.2) : List Int × Int × List Int × Int) = Z109 x0 x1 := by kernel_rfl
theorem Z109.ok : V.Valid Tryz.prog 131 Z109.con :=
 V.fo (V.tab_cons Z26.ok V.tab_nil) Tryz.func131 (by kernel_rfl) (fun x y h => (show V.evBody Z109.E Z109.con Tryz.f131 x = _ from Z109.eq (x.1, x.2.1) x.2.2).trans (V.cfl (by kernel_rfl) h))
noncomputable abbrev Z83.con : V.Con := ⟨V.A4, (.cons .bool .nil), fun (x : V.D4) => Z83 (V.p4_0 x) (V.p4_1 x), [], [(true, 16), (true, 16)], [(false, 1)], [false], []⟩
noncomputable abbrev Z83.E : V.Env := V.mkE V.tys [] [] [] [] [] []
noncomputable abbrev Z83.kt (x0 : THead) (x1 : THead) : V.Kt Bool := V.ktOf Z83.E Z83.con Tryz.f132 (V.fl4 x0 x1)
noncomputable abbrev Z83.s (x0 : THead) (x1 : THead) : V.St := ⟨[(0, .v true (V.lsHead x0)), (1, .v true (V.lsHead x1))], []⟩
theorem Z83.v0 (x0 : THead) (x1 : THead) : V.evBody Z83.E Z83.con Tryz.f132 (V.fl4 x0 x1) = V.evC Z83.E Tryz.f132.ntmps (V.codeOf Tryz.f132) (Z83.kt x0 x1) (Z83.s x0 x1) := by kernel_rfl
theorem Z83.v (x0 : THead) (x1 : THead) : V.evC Z83.E Tryz.f132.ntmps (V.codeOf Tryz.f132) (Z83.kt x0 x1) (Z83.s x0 x1) = Z83 x0 x1 := by kernel_rfl
theorem Z83.eq (x0 : THead) (x1 : THead) : V.evBody Z83.E Z83.con Tryz.f132 (V.fl4 x0 x1) = Z83 x0 x1 := (Z83.v0 x0 x1).trans (Z83.v x0 x1)
theorem Z83.ok : V.Valid Tryz.prog 132 Z83.con :=
 V.fo V.tab_nil Tryz.func132 (by kernel_rfl) (fun x y h => (show V.evBody Z83.E Z83.con Tryz.f132 x = _ from Z83.eq (V.p4_0 x) (V.p4_1 x)).trans (V.cfl (by kernel_rfl) h))
noncomputable abbrev Z39.con : V.Con := ⟨V.A4, (V.ci .nil), fun (x : V.D4) => Z39 (V.p4_0 x) (V.p4_1 x), [], [(true, 16), (true, 16)], [(false, 1)], [false], []⟩
noncomputable abbrev Z39.E : V.Env := V.mkE V.tys [(130, Z104.con), (131, Z109.con), (132, Z83.con)] [(9, [2, 3, 8], [])] [] [] [] []
noncomputable abbrev Z39.kt (x0 : THead) (x1 : THead) : V.Kt Int := V.ktOf Z39.E Z39.con Tryz.f115 (V.fl4 x0 x1)
noncomputable abbrev Z39.s9 (x0 : THead) (x1 : THead) (v9_0 : Bool) : V.St := ⟨[(2, .v false [.ptr 64000 0]), (3, .v false [.ptr 64064 0]), (8, .v false [.val (.bool v9_0)])], [(64000, .box (V.lsHead x0)), (64064, .box (V.lsHead x1))]⟩
theorem Z39.r9 (x0 : THead) (x1 : THead) (v9_0 : Bool) : V.joinF Z39.E Tryz.f115.ntmps [1, 0, 0, 1, 1] [] (V.codeOf Tryz.f115) (Z39.kt x0 x1) (Z39.s9 x0 x1 v9_0) = Z39.g9 x0 x1 v9_0 := by kernel_rfl
theorem Z39.e9 (x0 : THead) (x1 : THead) (v9_0 : Bool) : V.jn (V.joinF Z39.E Tryz.f115.ntmps [1, 0, 0, 1, 1] [] (V.codeOf Tryz.f115) (Z39.kt x0 x1)) (Z39.s9 x0 x1 v9_0) = Z39.l9 x0 x1 v9_0 := by
 rw [V.jn_eq, Z39.r9]
 rfl
noncomputable abbrev Z39.s (x0 : THead) (x1 : THead) : V.St := ⟨[(0, .v true (V.lsHead x0)), (1, .v true (V.lsHead x1))], []⟩
theorem Z39.v0 (x0 : THead) (x1 : THead) : V.evBody Z39.E Z39.con Tryz.f115 (V.fl4 x0 x1) = V.evC Z39.E Tryz.f115.ntmps (V.codeOf Tryz.f115) (Z39.kt x0 x1) (Z39.s x0 x1) := by kernel_rfl
theorem Z39.v (x0 : THead) (x1 : THead) : V.evC Z39.E Tryz.f115.ntmps (V.codeOf Tryz.f115) (Z39.kt x0 x1) (Z39.s x0 x1) = Z39.b x0 x1 (fun v9_0 => V.jn (V.joinF Z39.E Tryz.f115.ntmps [1, 0, 0, 1, 1] [] (V.codeOf Tryz.f115) (Z39.kt x0 x1)) (Z39.s9 x0 x1 v9_0)) := by kernel_rfl
theorem Z39.eq (x0 : THead) (x1 : THead) : V.evBody Z39.E Z39.con Tryz.f115 (V.fl4 x0 x1) = Z39 x0 x1 := by
 rw [Z39.v0, Z39.v]
 simp only [Z39.e9]
 rfl
theorem Z39.ok : V.Valid Tryz.prog 115 Z39.con :=
 V.fo (V.tab_cons Z104.ok (V.tab_cons Z109.ok (V.tab_cons Z83.ok V.tab_nil))) Tryz.func115 (by kernel_rfl) (fun x y h => (show V.evBody Z39.E Z39.con Tryz.f115 x = _ from Z39.eq (V.p4_0 x) (V.p4_1 x)).trans (V.cfl (by kernel_rfl) h))
noncomputable abbrev Z40.con : V.Con := ⟨V.A4, (V.ci .nil), fun (x : V.D4) => Z40 (V.p4_0 x) (V.p4_1 x), [], [(true, 16), (true, 16)], [(false, 1)], [false], []⟩
noncomputable abbrev Z40.E : V.Env := V.mkE V.tys [(130, Z104.con), (131, Z109.con), (132, Z83.con)] [(9, [2, 3, 9], [])] [] [] [] []
noncomputable abbrev Z40.kt (x0 : THead) (x1 : THead) : V.Kt Int := V.ktOf Z40.E Z40.con Tryz.f116 (V.fl4 x0 x1)
noncomputable abbrev Z40.s9 (x0 : THead) (x1 : THead) (v9_0 : Bool) : V.St := ⟨[(2, .v false [.ptr 64000 0]), (3, .v false [.ptr 64064 0]), (9, .v false [.val (.bool v9_0)])], [(64000, .box (V.lsHead x0)), (64064, .box (V.lsHead x1))]⟩
theorem Z40.r9 (x0 : THead) (x1 : THead) (v9_0 : Bool) : V.joinF Z40.E Tryz.f116.ntmps [1, 0, 0, 1, 1] [] (V.codeOf Tryz.f116) (Z40.kt x0 x1) (Z40.s9 x0 x1 v9_0) = Z40.g9 x0 x1 v9_0 := by kernel_rfl
theorem Z40.e9 (x0 : THead) (x1 : THead) (v9_0 : Bool) : V.jn (V.joinF Z40.E Tryz.f116.ntmps [1, 0, 0, 1, 1] [] (V.codeOf Tryz.f116) (Z40.kt x0 x1)) (Z40.s9 x0 x1 v9_0) = Z40.l9 x0 x1 v9_0 := by
 rw [V.jn_eq, Z40.r9]
 rfl
noncomputable abbrev Z40.s (x0 : THead) (x1 : THead) : V.St := ⟨[(0, .v true (V.lsHead x0)), (1, .v true (V.lsHead x1))], []⟩
theorem Z40.v0 (x0 : THead) (x1 : THead) : V.evBody Z40.E Z40.con Tryz.f116 (V.fl4 x0 x1) = V.evC Z40.E Tryz.f116.ntmps (V.codeOf Tryz.f116) (Z40.kt x0 x1) (Z40.s x0 x1) := by kernel_rfl
theorem Z40.v (x0 : THead) (x1 : THead) : V.evC Z40.E Tryz.f116.ntmps (V.codeOf Tryz.f116) (Z40.kt x0 x1) (Z40.s x0 x1) = Z40.b x0 x1 (fun v9_0 => V.jn (V.joinF Z40.E Tryz.f116.ntmps [1, 0, 0, 1, 1] [] (V.codeOf Tryz.f116) (Z40.kt x0 x1)) (Z40.s9 x0 x1 v9_0)) := by kernel_rfl
theorem Z40.eq (x0 : THead) (x1 : THead) : V.evBody Z40.E Z40.con Tryz.f116 (V.fl4 x0 x1) = Z40 x0 x1 := by
 rw [Z40.v0, Z40.v]
 simp only [Z40.e9]
 rfl
theorem Z40.ok : V.Valid Tryz.prog 116 Z40.con :=
 V.fo (V.tab_cons Z104.ok (V.tab_cons Z109.ok (V.tab_cons Z83.ok V.tab_nil))) Tryz.func116 (by kernel_rfl) (fun x y h => (show V.evBody Z40.E Z40.con Tryz.f116 x = _ from Z40.eq (V.p4_0 x) (V.p4_1 x)).trans (V.cfl (by kernel_rfl) h))
noncomputable abbrev Z7.con : V.Con := ⟨V.A5, (V.ci .nil), fun (x : V.D5) => Z7 (V.p5_0 x) (V.p5_1 x), [], [(true, 16), (true, 17)], [(false, 1)], [false], []⟩
noncomputable abbrev Z7.E : V.Env := V.mkE V.tys [(59, Z72.con), (79, Z68.con), (113, Z6.con), (114, Z92.con), (115, Z39.con), (116, Z40.con), (117, Z117.con)] [(9, [2, 3, 5], []), (13, [2, 3, 5], []), (31, [3, 5, 6, 7], [])] [(4, 25), (15, 8)] [] [] []
noncomputable abbrev Z7.kt (x0 : THead) (x1 : TSigned) : V.Kt Int := V.ktOf Z7.E Z7.con Tryz.f95 (V.fl5 x0 x1)
noncomputable abbrev Z7.s31 (x1 : TSigned) (v31_0 : Int) (v31_34 : List Int) (v31_35 : Int) : V.St := ⟨[(3, .v false [.ptr 64064 0]), (5, .v false [.ptr 128128 0]), (6, .v false [.vi (v31_0)]), (7, .v false [.ptr 512128 0])], [(64064, .box (V.lsSigned x1)), (128128, .box [.vi (x1.1), .vi (x1.2.1), .vi (x1.2.2.1), .vi (x1.2.2.2.1), .vi (x1.2.2.2.2.1), .vi (x1.2.2.2.2.2.1), .vi (x1.2.2.2.2.2.2.1), .vi (x1.2.2.2.2.2.2.2.1), .val (.sl (V.ci .nil) x1.2.2.2.2.2.2.2.2.1), .vi (x1.2.2.2.2.2.2.2.2.2.1), .val (.sl (V.ci .nil) x1.2.2.2.2.2.2.2.2.2.2.1), .vi (x1.2.2.2.2.2.2.2.2.2.2.2.1), .vi (x1.2.2.2.2.2.2.2.2.2.2.2.2.1), .val (.sl (V.ci .nil) x1.2.2.2.2.2.2.2.2.2.2.2.2.2.1), .vi (x1.2.2.2.2.2.2.2.2.2.2.2.2.2.2.1), .val (.bool x1.2.2.2.2.2.2.2.2.2.2.2.2.2.2.2.1)]), (512128, .box [.val (.sl (V.ci .nil) v31_34), .vi (v31_35)])]⟩
noncomputable abbrev Z7.s13 (x0 : THead) (x1 : TSigned) : V.St := ⟨[(2, .v false [.ptr 64000 0]), (3, .v false [.ptr 64064 0]), (5, .v false [.ptr 128128 0])], [(64000, .box (V.lsHead x0)), (64064, .box (V.lsSigned x1)), (128128, .box [.vi (x1.1), .vi (x1.2.1), .vi (x1.2.2.1), .vi (x1.2.2.2.1), .vi (x1.2.2.2.2.1), .vi (x1.2.2.2.2.2.1), .vi (x1.2.2.2.2.2.2.1), .vi (x1.2.2.2.2.2.2.2.1), .val (.sl (V.ci .nil) x1.2.2.2.2.2.2.2.2.1), .vi (x1.2.2.2.2.2.2.2.2.2.1), .val (.sl (V.ci .nil) x1.2.2.2.2.2.2.2.2.2.2.1), .vi (x1.2.2.2.2.2.2.2.2.2.2.2.1), .vi (x1.2.2.2.2.2.2.2.2.2.2.2.2.1), .val (.sl (V.ci .nil) x1.2.2.2.2.2.2.2.2.2.2.2.2.2.1), .vi (x1.2.2.2.2.2.2.2.2.2.2.2.2.2.2.1), .val (.bool x1.2.2.2.2.2.2.2.2.2.2.2.2.2.2.2.1)])]⟩
noncomputable abbrev Z7.s9 (x0 : THead) (x1 : TSigned) : V.St := ⟨[(2, .v false [.ptr 64000 0]), (3, .v false [.ptr 64064 0]), (5, .v false [.ptr 128128 0])], [(64000, .box (V.lsHead x0)), (64064, .box (V.lsSigned x1)), (128128, .box [.vi (x1.1), .vi (x1.2.1), .vi (x1.2.2.1), .vi (x1.2.2.2.1), .vi (x1.2.2.2.2.1), .vi (x1.2.2.2.2.2.1), .vi (x1.2.2.2.2.2.2.1), .vi (x1.2.2.2.2.2.2.2.1), .val (.sl (V.ci .nil) x1.2.2.2.2.2.2.2.2.1), .vi (x1.2.2.2.2.2.2.2.2.2.1), .val (.sl (V.ci .nil) x1.2.2.2.2.2.2.2.2.2.2.1), .vi (x1.2.2.2.2.2.2.2.2.2.2.2.1), .vi (x1.2.2.2.2.2.2.2.2.2.2.2.2.1), .val (.sl (V.ci .nil) x1.2.2.2.2.2.2.2.2.2.2.2.2.2.1), .vi (x1.2.2.2.2.2.2.2.2.2.2.2.2.2.2.1), .val (.bool x1.2.2.2.2.2.2.2.2.2.2.2.2.2.2.2.1)])]⟩
theorem Z7.r31 (x0 : THead) (x1 : TSigned) (v31_0 : Int) (v31_34 : List Int) (v31_35 : Int) : V.joinF Z7.E Tryz.f95.ntmps [1, 1, 1, 1, 1, 1] [] (V.codeOf Tryz.f95) (Z7.kt x0 x1) (Z7.s31 x1 v31_0 v31_34 v31_35) = Z7.g31 x1 v31_0 v31_34 v31_35 := by kernel_rfl
theorem Z7.e31 (x0 : THead) (x1 : TSigned) (v31_0 : Int) (v31_34 : List Int) (v31_35 : Int) : V.jn (V.joinF Z7.E Tryz.f95.ntmps [1, 1, 1, 1, 1, 1] [] (V.codeOf Tryz.f95) (Z7.kt x0 x1)) (Z7.s31 x1 v31_0 v31_34 v31_35) = Z7.l31 x1 v31_0 v31_34 v31_35 := by
 rw [V.jn_eq, Z7.r31]
 rfl
theorem Z7.r13 (x0 : THead) (x1 : TSigned) : V.joinF Z7.E Tryz.f95.ntmps [1, 1, 1] [] (V.codeOf Tryz.f95) (Z7.kt x0 x1) (Z7.s13 x0 x1) = Z7.g13 x0 x1 (fun v31_0 v31_34 v31_35 => V.jn (V.joinF Z7.E Tryz.f95.ntmps [1, 1, 1, 1, 1, 1] [] (V.codeOf Tryz.f95) (Z7.kt x0 x1)) (Z7.s31 x1 v31_0 v31_34 v31_35)) := by kernel_rfl
theorem Z7.e13 (x0 : THead) (x1 : TSigned) : V.jn (V.joinF Z7.E Tryz.f95.ntmps [1, 1, 1] [] (V.codeOf Tryz.f95) (Z7.kt x0 x1)) (Z7.s13 x0 x1) = Z7.l13 x0 x1 := by
 rw [V.jn_eq, Z7.r13]
 simp only [Z7.e31]
 rfl
theorem Z7.r9 (x0 : THead) (x1 : TSigned) : V.joinF Z7.E Tryz.f95.ntmps [1, 1] [] (V.codeOf Tryz.f95) (Z7.kt x0 x1) (Z7.s9 x0 x1) = Z7.g9 x0 x1 (V.jn (V.joinF Z7.E Tryz.f95.ntmps [1, 1, 1] [] (V.codeOf Tryz.f95) (Z7.kt x0 x1)) (Z7.s13 x0 x1)) := by kernel_rfl
theorem Z7.e9 (x0 : THead) (x1 : TSigned) : V.jn (V.joinF Z7.E Tryz.f95.ntmps [1, 1] [] (V.codeOf Tryz.f95) (Z7.kt x0 x1)) (Z7.s9 x0 x1) = Z7.l9 x0 x1 := by
 rw [V.jn_eq, Z7.r9]
 simp only [Z7.e13]
 rfl
noncomputable abbrev Z7.s (x0 : THead) (x1 : TSigned) : V.St := ⟨[(0, .v true (V.lsHead x0)), (1, .v true (V.lsSigned x1))], []⟩
theorem Z7.v0 (x0 : THead) (x1 : TSigned) : V.evBody Z7.E Z7.con Tryz.f95 (V.fl5 x0 x1) = V.evC Z7.E Tryz.f95.ntmps (V.codeOf Tryz.f95) (Z7.kt x0 x1) (Z7.s x0 x1) := by kernel_rfl
theorem Z7.v (x0 : THead) (x1 : TSigned) : V.evC Z7.E Tryz.f95.ntmps (V.codeOf Tryz.f95) (Z7.kt x0 x1) (Z7.s x0 x1) = Z7.b x0 x1 (V.jn (V.joinF Z7.E Tryz.f95.ntmps [1, 1] [] (V.codeOf Tryz.f95) (Z7.kt x0 x1)) (Z7.s9 x0 x1)) := by kernel_rfl
theorem Z7.eq (x0 : THead) (x1 : TSigned) : V.evBody Z7.E Z7.con Tryz.f95 (V.fl5 x0 x1) = Z7 x0 x1 := by
 rw [Z7.v0, Z7.v]
 simp only [Z7.e9]
 rfl
theorem Z7.ok : V.Valid Tryz.prog 95 Z7.con :=
 V.fo (V.tab_cons Z72.ok (V.tab_cons Z68.ok (V.tab_cons Z6.ok (V.tab_cons Z92.ok (V.tab_cons Z39.ok (V.tab_cons Z40.ok (V.tab_cons Z117.ok V.tab_nil))))))) Tryz.func95 (by kernel_rfl) (fun x y h => (show V.evBody Z7.E Z7.con Tryz.f95 x = _ from Z7.eq (V.p5_0 x) (V.p5_1 x)).trans (V.cfl (by kernel_rfl) h))
noncomputable abbrev Z91.con : V.Con := ⟨V.A5, (.cons .bool .nil), fun (x : V.D5) => Z91 (V.p5_0 x) (V.p5_1 x), [], [(true, 16), (true, 17)], [(false, 1)], [false], []⟩
noncomputable abbrev Z91.E : V.Env := V.mkE V.tys [(95, Z7.con)] [] [] [] [] []
noncomputable abbrev Z91.kt (x0 : THead) (x1 : TSigned) : V.Kt Bool := V.ktOf Z91.E Z91.con Tryz.f104 (V.fl5 x0 x1)
noncomputable abbrev Z91.s (x0 : THead) (x1 : TSigned) : V.St := ⟨[(0, .v true (V.lsHead x0)), (1, .v true (V.lsSigned x1))], []⟩
theorem Z91.v0 (x0 : THead) (x1 : TSigned) : V.evBody Z91.E Z91.con Tryz.f104 (V.fl5 x0 x1) = V.evC Z91.E Tryz.f104.ntmps (V.codeOf Tryz.f104) (Z91.kt x0 x1) (Z91.s x0 x1) := by kernel_rfl
theorem Z91.v (x0 : THead) (x1 : TSigned) : V.evC Z91.E Tryz.f104.ntmps (V.codeOf Tryz.f104) (Z91.kt x0 x1) (Z91.s x0 x1) = Z91 x0 x1 := by kernel_rfl
theorem Z91.eq (x0 : THead) (x1 : TSigned) : V.evBody Z91.E Z91.con Tryz.f104 (V.fl5 x0 x1) = Z91 x0 x1 := (Z91.v0 x0 x1).trans (Z91.v x0 x1)
theorem Z91.ok : V.Valid Tryz.prog 104 Z91.con :=
 V.fo (V.tab_cons Z7.ok V.tab_nil) Tryz.func104 (by kernel_rfl) (fun x y h => (show V.evBody Z91.E Z91.con Tryz.f104 x = _ from Z91.eq (V.p5_0 x) (V.p5_1 x)).trans (V.cfl (by kernel_rfl) h))
noncomputable abbrev Z44.con : V.Con := ⟨(.cons (.sl V.eSigned) .nil), (V.ci .nil), fun (x : List TSigned) => Z44 x, [], [(false, 1)], [(false, 1)], [false], []⟩
noncomputable abbrev Z44.E : V.Env := V.mkE V.tys [(103, Z90.con), (104, Z91.con)] [(4, [0, 3], [])] [(4, 23)] [] [] []
noncomputable abbrev Z44.kt (x0 : List TSigned) : V.Kt Int := V.ktOf Z44.E Z44.con Tryz.f76 ((x0) : List TSigned)
noncomputable abbrev Z44.s4 (x0 : List TSigned) (v4_1 : Int) : V.St := ⟨[(0, .v false [.val (.sl V.eSigned x0)]), (3, .v false [.vi (v4_1)])], []⟩
theorem Z44.r4 (x0 : List TSigned) (R : V.St → Option Int) (v4_1 : Int) : V.loopF Z44.E Tryz.f76.ntmps [1, 0, 1, 0] [] (V.codeOf Tryz.f76) (Z44.kt x0) R (Z44.s4 x0 v4_1) = Z44.g4 x0 (fun v4_1 => R (Z44.s4 x0 v4_1)) v4_1 := by kernel_rfl
theorem Z44.e4 (x0 : List TSigned) : ∀ (n : Nat) (v4_1 : Int), V.loopN (V.loopF Z44.E Tryz.f76.ntmps [1, 0, 1, 0] [] (V.codeOf Tryz.f76) (Z44.kt x0)) n (Z44.s4 x0 v4_1) = Z44.l4 x0 n v4_1 := by
 intro n
 induction n with
 | zero => intros; rw [V.loopN_z]; rfl
 | succ n ih =>
   intro v4_1
   rw [V.loopN_s, Z44.r4]
   simp only [ih]
   first | exact (Z44.u4 ..).symm | rfl
theorem Z44.v (x0 : List TSigned) : V.evBody Z44.E Z44.con Tryz.f76 ((x0) : List TSigned) = Z44.b x0 (fun v4_1 => V.loopN (V.loopF Z44.E Tryz.f76.ntmps [1, 0, 1, 0] [] (V.codeOf Tryz.f76) (Z44.kt x0)) V.KK (Z44.s4 x0 v4_1)) := by kernel_rfl
theorem Z44.eq (x0 : List TSigned) : V.evBody Z44.E Z44.con Tryz.f76 ((x0) : List TSigned) = Z44 x0 := by
 rw [Z44.v]
 simp only [Z44.e4]
 rfl
theorem Z44.ok : V.Valid Tryz.prog 76 Z44.con :=
 V.fo (V.tab_cons Z90.ok (V.tab_cons Z91.ok V.tab_nil)) Tryz.func76 (by kernel_rfl) (fun x y h => (show V.evBody Z44.E Z44.con Tryz.f76 x = _ from Z44.eq x).trans (V.cfl (by kernel_rfl) h))
noncomputable abbrev Z103.con : V.Con := ⟨(.cons (.sl V.eSigned) .nil), (.cons .bool .nil), fun (x : List TSigned) => Z103 x, [], [(false, 1)], [(false, 1)], [false], []⟩
noncomputable abbrev Z103.E : V.Env := V.mkE V.tys [(75, Z29.con), (76, Z44.con)] [] [] [] [] []
theorem Z103.eq (x0 : List TSigned) : V.evBody Z103.E Z103.con Tryz.f40 ((x0) : List TSigned) = Z103 x0 := by kernel_rfl
theorem Z103.ok : V.Valid Tryz.prog 40 Z103.con :=
 V.fo (V.tab_cons Z29.ok (V.tab_cons Z44.ok V.tab_nil)) Tryz.func40 (by kernel_rfl) (fun x y h => (show V.evBody Z103.E Z103.con Tryz.f40 x = _ from Z103.eq x).trans (V.cfl (by kernel_rfl) h))
noncomputable abbrev Z150.con : V.Con := ⟨(.cons (.sl V.eSigned) .nil), V.eRHeadBool, fun (x : List TSigned) => Z150 x, [], [(false, 1)], [(true, 16), (false, 1)], [false, false, false, false, false, false, false, false, true, false, true, false, false, true, false, false, false], []⟩
noncomputable abbrev Z150.E : V.Env := V.mkE V.tys [(40, Z103.con), (80, Z73.con)] [] [] [] [] []
theorem Z150.eq (x0 : List TSigned) : V.evBody Z150.E Z150.con Tryz.f94 ((x0) : List TSigned) = Z150 x0 := by kernel_rfl
theorem Z150.ok : V.Valid Tryz.prog 94 Z150.con :=
 V.fo (V.tab_cons Z103.ok (V.tab_cons Z73.ok V.tab_nil)) Tryz.func94 (by kernel_rfl) (fun x y h => (show V.evBody Z150.E Z150.con Tryz.f94 x = _ from Z150.eq x).trans (V.cfl (by kernel_rfl) h))
noncomputable abbrev Z66.con : V.Con := ⟨V.A3, V.eSigned, fun (x : V.D3) => Z66 (V.p3_0 x), [], [(true, 17)], [(true, 17)], [false, false, false, false, false, false, false, false, true, false, true, false, false, true, false, false, true], []⟩
noncomputable abbrev Z66.E : V.Env := V.mkE V.tys [(80, Z73.con)] [] [(1, 6)] [] [] []
noncomputable abbrev Z66.kt (x0 : TSigned) : V.Kt TSigned := V.ktOf Z66.E Z66.con Tryz.f47 (V.fl3 x0)
noncomputable abbrev Z66.s (x0 : TSigned) : V.St := ⟨[(0, .v true (V.lsSigned x0))], []⟩
theorem Z66.v0 (x0 : TSigned) : V.evBody Z66.E Z66.con Tryz.f47 (V.fl3 x0) = V.evC Z66.E Tryz.f47.ntmps (V.codeOf Tryz.f47) (Z66.kt x0) (Z66.s x0) := by kernel_rfl
theorem Z66.v (x0 : TSigned) : V.evC Z66.E Tryz.f47.ntmps (V.codeOf Tryz.f47) (Z66.kt x0) (Z66.s x0) = Z66 x0 := by kernel_rfl
theorem Z66.eq (x0 : TSigned) : V.evBody Z66.E Z66.con Tryz.f47 (V.fl3 x0) = Z66 x0 := (Z66.v0 x0).trans (Z66.v x0)
theorem Z66.ok : V.Valid Tryz.prog 47 Z66.con :=
 V.fo (V.tab_cons Z73.ok V.tab_nil) Tryz.func47 (by kernel_rfl) (fun x y h => (show V.evBody Z66.E Z66.con Tryz.f47 x = _ from Z66.eq (V.p3_0 x)).trans (V.cfl (by kernel_rfl) h))
noncomputable abbrev Z41.con : V.Con := ⟨(.cons (.sl V.eSigned) .nil), (.cons (.sl V.eSigned) .nil), fun (x : List TSigned) => Z41 x, [], [(false, 1)], [(false, 1)], [true], []⟩
noncomputable abbrev Z41.E : V.Env := V.mkE V.tys [(47, Z66.con)] [(6, [0, 3, 4], [(64000038400192, V.eSigned, true)])] [] [] [] []
noncomputable abbrev Z41.kt (x0 : List TSigned) : V.Kt (List TSigned) := V.ktOf Z41.E Z41.con Tryz.f61 ((x0) : List TSigned)
noncomputable abbrev Z41.s6 (x0 : List TSigned) (v6_1 : Int) (v6_2 : List TSigned) : V.St := ⟨[(0, .v false [.val (.sl V.eSigned x0)]), (3, .v false [.ref 64000038400192]), (4, .v false [.vi (v6_1)])], [(64000038400192, .row V.eSigned true v6_2)]⟩
theorem Z41.r6 (x0 : List TSigned) (R : V.St → Option (List TSigned)) (v6_1 : Int) (v6_2 : List TSigned) : V.loopF Z41.E Tryz.f61.ntmps [1, 1, 0, 1, 0] [] (V.codeOf Tryz.f61) (Z41.kt x0) R (Z41.s6 x0 v6_1 v6_2) = Z41.g6 x0 (fun v6_1 v6_2 => R (Z41.s6 x0 v6_1 v6_2)) v6_1 v6_2 := by kernel_rfl
theorem Z41.e6 (x0 : List TSigned) : ∀ (n : Nat) (v6_1 : Int) (v6_2 : List TSigned), V.loopN (V.loopF Z41.E Tryz.f61.ntmps [1, 1, 0, 1, 0] [] (V.codeOf Tryz.f61) (Z41.kt x0)) n (Z41.s6 x0 v6_1 v6_2) = Z41.l6 x0 n v6_1 v6_2 := by
 intro n
 induction n with
 | zero => intros; rw [V.loopN_z]; rfl
 | succ n ih =>
   intro v6_1 v6_2
   rw [V.loopN_s, Z41.r6]
   simp only [ih]
   first | exact (Z41.u6 ..).symm | rfl
theorem Z41.v (x0 : List TSigned) : V.evBody Z41.E Z41.con Tryz.f61 ((x0) : List TSigned) = Z41.b x0 (fun v6_1 v6_2 => V.loopN (V.loopF Z41.E Tryz.f61.ntmps [1, 1, 0, 1, 0] [] (V.codeOf Tryz.f61) (Z41.kt x0)) V.KK (Z41.s6 x0 v6_1 v6_2)) := by kernel_rfl
theorem Z41.eq (x0 : List TSigned) : V.evBody Z41.E Z41.con Tryz.f61 ((x0) : List TSigned) = Z41 x0 := by
 rw [Z41.v]
 simp only [Z41.e6]
 rfl
theorem Z41.ok : V.Valid Tryz.prog 61 Z41.con :=
 V.fo (V.tab_cons Z66.ok V.tab_nil) Tryz.func61 (by kernel_rfl) (fun x y h => (show V.evBody Z41.E Z41.con Tryz.f61 x = _ from Z41.eq x).trans (V.cfl (by kernel_rfl) h))
noncomputable abbrev Z38.con : V.Con := ⟨V.A6, (.cons (.sl V.eSigned) (V.ci .nil)), fun (x : V.D6) => Z38 (V.p6_0 x) (V.p6_1 x), [], [(false, 1), (true, 17)], [(false, 1), (false, 1)], [true, false], []⟩
noncomputable abbrev Z38.E : V.Env := V.mkE V.tys [(47, Z66.con), (61, Z41.con), (94, Z150.con), (95, Z7.con)] [(7, [0, 3, 6, 20], [])] [(7, 3)] [] [] []
noncomputable abbrev Z38.kt (x0 : List TSigned) (x1 : TSigned) : V.Kt (List TSigned × Int) := V.ktOf Z38.E Z38.con Tryz.f62 (V.fl6 x0 x1)
noncomputable abbrev Z38.s7 (x0 : List TSigned) (x1 : TSigned) (y1 : TRHeadBool) (v7_1 : Bool) : V.St := ⟨[(0, .v false [.val (.sl V.eSigned x0)]), (3, .v false [.ptr 64000 0]), (6, .v false [.ptr 128320 0]), (20, .v false [.val (.bool v7_1)])], [(64000, .box (V.lsSigned x1)), (128320, .box [.vi (y1.1), .vi (y1.2.1), .vi (y1.2.2.1), .vi (y1.2.2.2.1), .vi (y1.2.2.2.2.1), .vi (y1.2.2.2.2.2.1), .vi (y1.2.2.2.2.2.2.1), .vi (y1.2.2.2.2.2.2.2.1), .ref 64000000000008212488, .vi (y1.2.2.2.2.2.2.2.2.2.1), .ref 64000000000008212490, .vi (y1.2.2.2.2.2.2.2.2.2.2.2.1), .vi (y1.2.2.2.2.2.2.2.2.2.2.2.2.1), .ref 64000000000008212493, .vi (y1.2.2.2.2.2.2.2.2.2.2.2.2.2.2.1), .val (.bool y1.2.2.2.2.2.2.2.2.2.2.2.2.2.2.2.1)]), (64000000000008212488, .row (V.ci .nil) true y1.2.2.2.2.2.2.2.2.1), (64000000000008212490, .row (V.ci .nil) true y1.2.2.2.2.2.2.2.2.2.2.1), (64000000000008212493, .row (V.ci .nil) true y1.2.2.2.2.2.2.2.2.2.2.2.2.2.1)]⟩
theorem Z38.r7 (x0 : List TSigned) (x1 : TSigned) (y1 : TRHeadBool) (v7_1 : Bool) : V.joinF Z38.E Tryz.f62.ntmps [1, 1, 0] [] (V.codeOf Tryz.f62) (Z38.kt x0 x1) (Z38.s7 x0 x1 y1 v7_1) = Z38.g7 x0 x1 y1 v7_1 := by kernel_rfl
theorem Z38.e7 (x0 : List TSigned) (x1 : TSigned) (y1 : TRHeadBool) (v7_1 : Bool) : V.jn (V.joinF Z38.E Tryz.f62.ntmps [1, 1, 0] [] (V.codeOf Tryz.f62) (Z38.kt x0 x1)) (Z38.s7 x0 x1 y1 v7_1) = Z38.l7 x0 x1 y1 v7_1 := by
 rw [V.jn_eq, Z38.r7]
 rfl
noncomputable abbrev Z38.s (x0 : List TSigned) (x1 : TSigned) : V.St := ⟨[(0, .v false [.val (.sl V.eSigned x0)]), (1, .v true (V.lsSigned x1))], []⟩
theorem Z38.v0 (x0 : List TSigned) (x1 : TSigned) : V.evBody Z38.E Z38.con Tryz.f62 (V.fl6 x0 x1) = V.evC Z38.E Tryz.f62.ntmps (V.codeOf Tryz.f62) (Z38.kt x0 x1) (Z38.s x0 x1) := by kernel_rfl
theorem Z38.v (x0 : List TSigned) (x1 : TSigned) : V.evC Z38.E Tryz.f62.ntmps (V.codeOf Tryz.f62) (Z38.kt x0 x1) (Z38.s x0 x1) = Z38.b x0 x1 (fun y1 v7_1 => V.jn (V.joinF Z38.E Tryz.f62.ntmps [1, 1, 0] [] (V.codeOf Tryz.f62) (Z38.kt x0 x1)) (Z38.s7 x0 x1 y1 v7_1)) := by kernel_rfl
theorem Z38.eq (x0 : List TSigned) (x1 : TSigned) : V.evBody Z38.E Z38.con Tryz.f62 (V.fl6 x0 x1) = Z38 x0 x1 := by
 rw [Z38.v0, Z38.v]
 simp only [Z38.e7]
 rfl
theorem Z38.ok : V.Valid Tryz.prog 62 Z38.con :=
 V.fo (V.tab_cons Z66.ok (V.tab_cons Z41.ok (V.tab_cons Z150.ok (V.tab_cons Z7.ok V.tab_nil)))) Tryz.func62 (by kernel_rfl) (fun x y h => (show V.evBody Z38.E Z38.con Tryz.f62 x = _ from Z38.eq (V.p6_0 x) (V.p6_1 x)).trans (V.cfl (by kernel_rfl) h))
noncomputable abbrev Z45.con : V.Con := ⟨(.cons (.ptr (.cons (.sl (.cons (.int .u8) .nil)) (V.ci (V.ci .nil)))) .nil), (.cons (.ptr (.cons (.sl (.cons (.int .u8) .nil)) (V.ci (V.ci .nil)))) (.cons (.sl V.eSigned) .nil)), fun (x : (Tl1Cur)) => Z45 x, [(0, false)], [(false, 1)], [(false, 1)], [true], []⟩
noncomputable abbrev Z45.E : V.Env := V.mkE V.tys [(27, Z5.con), (62, Z38.con), (63, Z1.con), (93, Z21.con)] [(6, [0, 3, 4], [])] [] [] [] []
noncomputable abbrev Z45.kt (x0 : (Tl1Cur)) : V.Kt ((Tl1Cur) × List TSigned) := V.ktOf Z45.E Z45.con Tryz.f60 ((x0) : (Tl1Cur))
noncomputable abbrev Z45.s6 (x0 : (Tl1Cur)) (v6_0 : Int) (v6_2 : Int) (v6_3 : Int) (v6_4 : List TSigned) : V.St := ⟨[(0, .v false [.ptr 0 0]), (3, .v false [.ref 64000038400192]), (4, .v false [.vi (v6_0)])], [(0, .box [.val (.sl (.cons (.int .u8) .nil) x0.1), .vi (v6_2), .vi (v6_3)]), (64000038400192, .row V.eSigned true v6_4)]⟩
theorem Z45.r6 (x0 : (Tl1Cur)) (R : V.St → Option ((Tl1Cur) × List TSigned)) (v6_0 : Int) (v6_2 : Int) (v6_3 : Int) (v6_4 : List TSigned) : V.loopF Z45.E Tryz.f60.ntmps [1, 1, 0, 1, 0] [] (V.codeOf Tryz.f60) (Z45.kt x0) R (Z45.s6 x0 v6_0 v6_2 v6_3 v6_4) = Z45.g6 x0 (fun v6_0 v6_2 v6_3 v6_4 => R (Z45.s6 x0 v6_0 v6_2 v6_3 v6_4)) v6_0 v6_2 v6_3 v6_4 := by kernel_rfl
theorem Z45.e6 (x0 : (Tl1Cur)) : ∀ (n : Nat) (v6_0 : Int) (v6_2 : Int) (v6_3 : Int) (v6_4 : List TSigned), V.loopN (V.loopF Z45.E Tryz.f60.ntmps [1, 1, 0, 1, 0] [] (V.codeOf Tryz.f60) (Z45.kt x0)) n (Z45.s6 x0 v6_0 v6_2 v6_3 v6_4) = Z45.l6 x0 n v6_0 v6_2 v6_3 v6_4 := by
 intro n
 induction n with
 | zero => intros; rw [V.loopN_z]; rfl
 | succ n ih =>
   intro v6_0 v6_2 v6_3 v6_4
   rw [V.loopN_s, Z45.r6]
   simp only [ih]
   first | exact (Z45.u6 ..).symm | rfl
theorem Z45.v (x0 : (Tl1Cur)) : V.evBody Z45.E Z45.con Tryz.f60 ((x0) : (Tl1Cur)) = Z45.b x0 (fun v6_0 v6_2 v6_3 v6_4 => V.loopN (V.loopF Z45.E Tryz.f60.ntmps [1, 1, 0, 1, 0] [] (V.codeOf Tryz.f60) (Z45.kt x0)) V.KK (Z45.s6 x0 v6_0 v6_2 v6_3 v6_4)) := by kernel_rfl
theorem Z45.eq (x0 : (Tl1Cur)) : V.evBody Z45.E Z45.con Tryz.f60 ((x0) : (Tl1Cur)) = Z45 x0 := by
 rw [Z45.v]
 simp only [Z45.e6]
 rfl
theorem Z45.ok : V.Valid Tryz.prog 60 Z45.con :=
 V.fo (V.tab_cons Z5.ok (V.tab_cons Z38.ok (V.tab_cons Z1.ok (V.tab_cons Z21.ok V.tab_nil)))) Tryz.func60 (by kernel_rfl) (fun x y h => (show V.evBody Z45.E Z45.con Tryz.f60 x = _ from Z45.eq x).trans (V.cfl (by kernel_rfl) h))
noncomputable abbrev Z8.con : V.Con := ⟨(.cons (.ptr (.cons (.sl (.cons (.int .u8) .nil)) (V.ci (V.ci .nil)))) .nil), (.cons (.ptr (.cons (.sl (.cons (.int .u8) .nil)) (V.ci (V.ci .nil)))) (.cons (.sl V.eSigned) (.cons (.sl V.eSigned) .nil))), fun (x : (Tl1Cur)) => Z8 x, [(0, false)], [(false, 1)], [(false, 1), (false, 1)], [false, true], []⟩
noncomputable abbrev Z8.E : V.Env := V.mkE V.tys [(27, Z5.con), (47, Z66.con), (60, Z45.con), (61, Z41.con), (62, Z38.con), (63, Z1.con), (64, Z95.con), (65, Z70.con)] [(5, [0, 4], [(4, V.eSigned, false)]), (8, [0, 4, 5, 6], []), (23, [0, 4, 5], [])] [] [] [] []
noncomputable abbrev Z8.kt (x0 : (Tl1Cur)) : V.Kt ((Tl1Cur) × List TSigned × List TSigned) := V.ktOf Z8.E Z8.con Tryz.f25 ((x0) : (Tl1Cur))
noncomputable abbrev Z8.s23 (x0 : (Tl1Cur)) (y1 : (Tl1Cur) × List TSigned) (y7 : (Tl1Cur) × Bool) (v23_4 : List TSigned) : V.St := ⟨[(0, .v false [.ptr 0 0]), (4, .v false [.val (.sl V.eSigned y1.2)]), (5, .v false [.ref 64000147200320])], [(0, .box [.val (.sl (.cons (.int .u8) .nil) x0.1), .vi (y7.1.2.1), .vi (y7.1.2.2)]), (64000147200320, .row V.eSigned true v23_4)]⟩
noncomputable abbrev Z8.s8 (x0 : (Tl1Cur)) (y1 : (Tl1Cur) × List TSigned) (v8_1 : Int) (v8_3 : Int) (v8_4 : Int) (v8_5 : List TSigned) : V.St := ⟨[(0, .v false [.ptr 0 0]), (4, .v false [.val (.sl V.eSigned y1.2)]), (5, .v false [.ref 64000051200320]), (6, .v false [.vi (v8_1)])], [(0, .box [.val (.sl (.cons (.int .u8) .nil) x0.1), .vi (v8_3), .vi (v8_4)]), (64000051200320, .row V.eSigned true v8_5)]⟩
noncomputable abbrev Z8.s5 (x0 : (Tl1Cur)) (y1 : (Tl1Cur) × List TSigned) : V.St := ⟨[(0, .v false [.ptr 0 0]), (4, .v false [.val (.sl V.eSigned y1.2)])], [(0, .box [.val (.sl (.cons (.int .u8) .nil) x0.1), .vi (y1.1.2.1), .vi (y1.1.2.2)])]⟩
theorem Z8.r23 (x0 : (Tl1Cur)) (y1 : (Tl1Cur) × List TSigned) (y7 : (Tl1Cur) × Bool) (v23_4 : List TSigned) : V.joinF Z8.E Tryz.f25.ntmps [1, 1, 1, 1] [] (V.codeOf Tryz.f25) (Z8.kt x0) (Z8.s23 x0 y1 y7 v23_4) = Z8.g23 x0 y1 y7 v23_4 := by kernel_rfl
theorem Z8.e23 (x0 : (Tl1Cur)) (y1 : (Tl1Cur) × List TSigned) (y7 : (Tl1Cur) × Bool) (v23_4 : List TSigned) : V.jn (V.joinF Z8.E Tryz.f25.ntmps [1, 1, 1, 1] [] (V.codeOf Tryz.f25) (Z8.kt x0)) (Z8.s23 x0 y1 y7 v23_4) = Z8.l23 x0 y1 y7 v23_4 := by
 rw [V.jn_eq, Z8.r23]
 rfl
theorem Z8.r8 (x0 : (Tl1Cur)) (y1 : (Tl1Cur) × List TSigned) (R : V.St → Option ((Tl1Cur) × List TSigned × List TSigned)) (v8_1 : Int) (v8_3 : Int) (v8_4 : Int) (v8_5 : List TSigned) : V.loopF Z8.E Tryz.f25.ntmps [1, 1, 1, 0, 1, 0] [] (V.codeOf Tryz.f25) (Z8.kt x0) R (Z8.s8 x0 y1 v8_1 v8_3 v8_4 v8_5) = Z8.g8 x0 y1 (fun v8_1 v8_3 v8_4 v8_5 => R (Z8.s8 x0 y1 v8_1 v8_3 v8_4 v8_5)) (fun y1 y7 v23_4 => V.jn (V.joinF Z8.E Tryz.f25.ntmps [1, 1, 1, 1] [] (V.codeOf Tryz.f25) (Z8.kt x0)) (Z8.s23 x0 y1 y7 v23_4)) v8_1 v8_3 v8_4 v8_5 := by kernel_rfl
theorem Z8.e8 (x0 : (Tl1Cur)) (y1 : (Tl1Cur) × List TSigned) : ∀ (n : Nat) (v8_1 : Int) (v8_3 : Int) (v8_4 : Int) (v8_5 : List TSigned), V.loopN (V.loopF Z8.E Tryz.f25.ntmps [1, 1, 1, 0, 1, 0] [] (V.codeOf Tryz.f25) (Z8.kt x0)) n (Z8.s8 x0 y1 v8_1 v8_3 v8_4 v8_5) = Z8.l8 x0 y1 n v8_1 v8_3 v8_4 v8_5 := by
 intro n
 induction n with
 | zero => intros; rw [V.loopN_z]; rfl
 | succ n ih =>
   intro v8_1 v8_3 v8_4 v8_5
   rw [V.loopN_s, Z8.r8]
   simp only [Z8.e23, ih]
   first | exact (Z8.u8 ..).symm | rfl
theorem Z8.r5 (x0 : (Tl1Cur)) (y1 : (Tl1Cur) × List TSigned) : V.joinF Z8.E Tryz.f25.ntmps [1] [] (V.codeOf Tryz.f25) (Z8.kt x0) (Z8.s5 x0 y1) = Z8.g5 x0 y1 (fun y1 v8_1 v8_3 v8_4 v8_5 => V.loopN (V.loopF Z8.E Tryz.f25.ntmps [1, 1, 1, 0, 1, 0] [] (V.codeOf Tryz.f25) (Z8.kt x0)) V.KK (Z8.s8 x0 y1 v8_1 v8_3 v8_4 v8_5)) := by kernel_rfl
theorem Z8.e5 (x0 : (Tl1Cur)) (y1 : (Tl1Cur) × List TSigned) : V.jn (V.joinF Z8.E Tryz.f25.ntmps [1] [] (V.codeOf Tryz.f25) (Z8.kt x0)) (Z8.s5 x0 y1) = Z8.l5 x0 y1 := by
 rw [V.jn_eq, Z8.r5]
 simp only [Z8.e8]
 rfl
theorem Z8.v (x0 : (Tl1Cur)) : V.evBody Z8.E Z8.con Tryz.f25 ((x0) : (Tl1Cur)) = Z8.b x0 (fun y1 => V.jn (V.joinF Z8.E Tryz.f25.ntmps [1] [] (V.codeOf Tryz.f25) (Z8.kt x0)) (Z8.s5 x0 y1)) := by kernel_rfl
theorem Z8.eq (x0 : (Tl1Cur)) : V.evBody Z8.E Z8.con Tryz.f25 ((x0) : (Tl1Cur)) = Z8 x0 := by
 rw [Z8.v]
 simp only [Z8.e5]
 rfl
theorem Z8.ok : V.Valid Tryz.prog 25 Z8.con :=
 V.fo (V.tab_cons Z5.ok (V.tab_cons Z66.ok (V.tab_cons Z45.ok (V.tab_cons Z41.ok (V.tab_cons Z38.ok (V.tab_cons Z1.ok (V.tab_cons Z95.ok (V.tab_cons Z70.ok V.tab_nil)))))))) Tryz.func25 (by kernel_rfl) (fun x y h => (show V.evBody Z8.E Z8.con Tryz.f25 x = _ from Z8.eq x).trans (V.cfl (by kernel_rfl) h))
noncomputable abbrev Z131.con : V.Con := ⟨(V.ci (.cons (.sl (V.ci (V.ci (V.ci .nil)))) .nil)), (V.ci (.cons (.sl (V.ci (V.ci (V.ci .nil)))) .nil)), fun (x : Int × List TMark) => Z131 x, [], [(true, 2)], [(true, 2)], [false, true], []⟩
noncomputable abbrev Z131.E : V.Env := V.mkE V.tys [] [] [(1, 6)] [] [] []
theorem Z131.eq (x0 : TWitness) : V.evBody Z131.E Z131.con Tryz.f38 ((x0.1, x0.2) : Int × List TMark) = Z131 x0 := by kernel_rfl
theorem Z131.ok : V.Valid Tryz.prog 38 Z131.con :=
 V.fo V.tab_nil Tryz.func38 (by kernel_rfl) (fun x y h => (show V.evBody Z131.E Z131.con Tryz.f38 x = _ from Z131.eq x).trans (V.cfl (by kernel_rfl) h))
noncomputable abbrev Z33.con : V.Con := ⟨(V.ci (.cons (.sl (V.ci (V.ci (V.ci .nil)))) (V.ci (V.ci .nil)))), (V.ci .nil), fun (x : Int × List TMark × Int × Int) => Z33 (x.1, x.2.1) x.2.2.1 x.2.2.2, [], [(true, 2), (false, 1), (false, 1)], [(false, 1)], [false], []⟩
noncomputable abbrev Z33.E : V.Env := V.mkE V.tys [] [(4, [1, 2, 3, 7], [])] [] [] [] []
noncomputable abbrev Z33.kt (x0 : TWitness) (x1 : Int) (x2 : Int) : V.Kt Int := V.ktOf Z33.E Z33.con Tryz.f42 ((x0.1, x0.2, x1, x2) : Int × List TMark × Int × Int)
noncomputable abbrev Z33.s4 (x0 : TWitness) (x1 : Int) (x2 : Int) (v4_2 : Int) : V.St := ⟨[(1, .v false [.vi (x1)]), (2, .v false [.vi (x2)]), (3, .v false [.ptr 64000 0]), (7, .v false [.vi (v4_2)])], [(64000, .box [.vi (x0.1), .val (.sl (V.ci (V.ci (V.ci .nil))) x0.2)])]⟩
theorem Z33.r4 (x0 : TWitness) (x1 : Int) (x2 : Int) (R : V.St → Option Int) (v4_2 : Int) : V.loopF Z33.E Tryz.f42.ntmps [1, 0, 1, 0] [] (V.codeOf Tryz.f42) (Z33.kt x0 x1 x2) R (Z33.s4 x0 x1 x2 v4_2) = Z33.g4 x0 x1 x2 (fun v4_2 => R (Z33.s4 x0 x1 x2 v4_2)) v4_2 := by kernel_rfl
theorem Z33.e4 (x0 : TWitness) (x1 : Int) (x2 : Int) : ∀ (n : Nat) (v4_2 : Int), V.loopN (V.loopF Z33.E Tryz.f42.ntmps [1, 0, 1, 0] [] (V.codeOf Tryz.f42) (Z33.kt x0 x1 x2)) n (Z33.s4 x0 x1 x2 v4_2) = Z33.l4 x0 x1 x2 n v4_2 := by
 intro n
 induction n with
 | zero => intros; rw [V.loopN_z]; rfl
 | succ n ih =>
   intro v4_2
   rw [V.loopN_s, Z33.r4]
   simp only [ih]
   first | exact (Z33.u4 ..).symm | rfl
theorem Z33.v (x0 : TWitness) (x1 : Int) (x2 : Int) : V.evBody Z33.E Z33.con Tryz.f42 ((x0.1, x0.2, x1, x2) : Int × List TMark × Int × Int) = Z33.b x0 x1 x2 (fun v4_2 => V.loopN (V.loopF Z33.E Tryz.f42.ntmps [1, 0, 1, 0] [] (V.codeOf Tryz.f42) (Z33.kt x0 x1 x2)) V.KK (Z33.s4 x0 x1 x2 v4_2)) := by kernel_rfl
theorem Z33.eq (x0 : TWitness) (x1 : Int) (x2 : Int) : V.evBody Z33.E Z33.con Tryz.f42 ((x0.1, x0.2, x1, x2) : Int × List TMark × Int × Int) = Z33 x0 x1 x2 := by
 rw [Z33.v]
 simp only [Z33.e4]
 rfl
theorem Z33.ok : V.Valid Tryz.prog 42 Z33.con :=
 V.fo V.tab_nil Tryz.func42 (by kernel_rfl) (fun x y h => (show V.evBody Z33.E Z33.con Tryz.f42 x = _ from Z33.eq (x.1, x.2.1) x.2.2.1 x.2.2.2).trans (V.cfl (by kernel_rfl) h))
noncomputable abbrev Z50.con : V.Con := ⟨(V.ci (.cons (.sl (V.ci (V.ci (V.ci .nil)))) .nil)), (.cons .bool .nil), fun (x : Int × List TMark) => Z50 x, [], [(true, 2)], [(false, 1)], [false], []⟩
noncomputable abbrev Z50.E : V.Env := V.mkE V.tys [(42, Z33.con), (75, Z29.con)] [(4, [1, 3], [])] [] [] [] []
noncomputable abbrev Z50.kt (x0 : TWitness) : V.Kt Bool := V.ktOf Z50.E Z50.con Tryz.f39 ((x0.1, x0.2) : Int × List TMark)
noncomputable abbrev Z50.s4 (x0 : TWitness) (v4_0 : Int) : V.St := ⟨[(1, .v false [.ptr 64000 0]), (3, .v false [.vi (v4_0)])], [(64000, .box [.vi (x0.1), .val (.sl (V.ci (V.ci (V.ci .nil))) x0.2)])]⟩
theorem Z50.r4 (x0 : TWitness) (R : V.St → Option Bool) (v4_0 : Int) : V.loopF Z50.E Tryz.f39.ntmps [1, 0, 1, 0] [] (V.codeOf Tryz.f39) (Z50.kt x0) R (Z50.s4 x0 v4_0) = Z50.g4 x0 (fun v4_0 => R (Z50.s4 x0 v4_0)) v4_0 := by kernel_rfl
theorem Z50.e4 (x0 : TWitness) : ∀ (n : Nat) (v4_0 : Int), V.loopN (V.loopF Z50.E Tryz.f39.ntmps [1, 0, 1, 0] [] (V.codeOf Tryz.f39) (Z50.kt x0)) n (Z50.s4 x0 v4_0) = Z50.l4 x0 n v4_0 := by
 intro n
 induction n with
 | zero => intros; rw [V.loopN_z]; rfl
 | succ n ih =>
   intro v4_0
   rw [V.loopN_s, Z50.r4]
   simp only [ih]
   first | exact (Z50.u4 ..).symm | rfl
theorem Z50.v (x0 : TWitness) : V.evBody Z50.E Z50.con Tryz.f39 ((x0.1, x0.2) : Int × List TMark) = Z50.b x0 (fun v4_0 => V.loopN (V.loopF Z50.E Tryz.f39.ntmps [1, 0, 1, 0] [] (V.codeOf Tryz.f39) (Z50.kt x0)) V.KK (Z50.s4 x0 v4_0)) := by kernel_rfl
theorem Z50.eq (x0 : TWitness) : V.evBody Z50.E Z50.con Tryz.f39 ((x0.1, x0.2) : Int × List TMark) = Z50 x0 := by
 rw [Z50.v]
 simp only [Z50.e4]
 rfl
theorem Z50.ok : V.Valid Tryz.prog 39 Z50.con :=
 V.fo (V.tab_cons Z33.ok (V.tab_cons Z29.ok V.tab_nil)) Tryz.func39 (by kernel_rfl) (fun x y h => (show V.evBody Z50.E Z50.con Tryz.f39 x = _ from Z50.eq x).trans (V.cfl (by kernel_rfl) h))
noncomputable abbrev Z46.con : V.Con := ⟨(V.ci (.cons (.sl (V.ci (V.ci (V.ci .nil)))) (.cons (.sl V.eSigned) .nil))), (.cons .bool .nil), fun (x : Int × List TMark × List TSigned) => Z46 (x.1, x.2.1) x.2.2, [], [(true, 2), (false, 1)], [(false, 1)], [false], []⟩
noncomputable abbrev Z46.E : V.Env := V.mkE V.tys [(59, Z72.con)] [(6, [1, 2, 5, 6], [])] [(7, 15)] [] [] []
noncomputable abbrev Z46.kt (x0 : TWitness) (x1 : List TSigned) : V.Kt Bool := V.ktOf Z46.E Z46.con Tryz.f41 ((x0.1, x0.2, x1) : Int × List TMark × List TSigned)
noncomputable abbrev Z46.s6 (x0 : TWitness) (x1 : List TSigned) (v6_1 : Int) (v6_4 : Int) (v6_5 : Int) (v6_6 : Int) (v6_7 : Int) (v6_8 : Int) (v6_9 : Int) (v6_10 : Int) (v6_11 : Int) (v6_12 : List Int) (v6_13 : Int) (v6_14 : List Int) (v6_15 : Int) (v6_16 : Int) (v6_17 : List Int) (v6_18 : Int) (v6_19 : Bool) : V.St := ⟨[(1, .v false [.val (.sl V.eSigned x1)]), (2, .v false [.ptr 64000 0]), (5, .v false [.ptr 128448 0]), (6, .v false [.vi (v6_1)])], [(64000, .box [.vi (x0.1), .val (.sl (V.ci (V.ci (V.ci .nil))) x0.2)]), (128448, .box [.vi (v6_4), .vi (v6_5), .vi (v6_6), .vi (v6_7), .vi (v6_8), .vi (v6_9), .vi (v6_10), .vi (v6_11), .val (.sl (V.ci .nil) v6_12), .vi (v6_13), .val (.sl (V.ci .nil) v6_14), .vi (v6_15), .vi (v6_16), .val (.sl (V.ci .nil) v6_17), .vi (v6_18), .val (.bool v6_19)])]⟩
theorem Z46.r6 (x0 : TWitness) (x1 : List TSigned) (R : V.St → Option Bool) (v6_1 : Int) (v6_4 : Int) (v6_5 : Int) (v6_6 : Int) (v6_7 : Int) (v6_8 : Int) (v6_9 : Int) (v6_10 : Int) (v6_11 : Int) (v6_12 : List Int) (v6_13 : Int) (v6_14 : List Int) (v6_15 : Int) (v6_16 : Int) (v6_17 : List Int) (v6_18 : Int) (v6_19 : Bool) : V.loopF Z46.E Tryz.f41.ntmps [1, 1, 0, 1, 0] [] (V.codeOf Tryz.f41) (Z46.kt x0 x1) R (Z46.s6 x0 x1 v6_1 v6_4 v6_5 v6_6 v6_7 v6_8 v6_9 v6_10 v6_11 v6_12 v6_13 v6_14 v6_15 v6_16 v6_17 v6_18 v6_19) = Z46.g6 x0 x1 (fun v6_1 v6_4 v6_5 v6_6 v6_7 v6_8 v6_9 v6_10 v6_11 v6_12 v6_13 v6_14 v6_15 v6_16 v6_17 v6_18 v6_19 => R (Z46.s6 x0 x1 v6_1 v6_4 v6_5 v6_6 v6_7 v6_8 v6_9 v6_10 v6_11 v6_12 v6_13 v6_14 v6_15 v6_16 v6_17 v6_18 v6_19)) v6_1 v6_4 v6_5 v6_6 v6_7 v6_8 v6_9 v6_10 v6_11 v6_12 v6_13 v6_14 v6_15 v6_16 v6_17 v6_18 v6_19 := by kernel_rfl
theorem Z46.e6 (x0 : TWitness) (x1 : List TSigned) : ∀ (n : Nat) (v6_1 : Int) (v6_4 : Int) (v6_5 : Int) (v6_6 : Int) (v6_7 : Int) (v6_8 : Int) (v6_9 : Int) (v6_10 : Int) (v6_11 : Int) (v6_12 : List Int) (v6_13 : Int) (v6_14 : List Int) (v6_15 : Int) (v6_16 : Int) (v6_17 : List Int) (v6_18 : Int) (v6_19 : Bool), V.loopN (V.loopF Z46.E Tryz.f41.ntmps [1, 1, 0, 1, 0] [] (V.codeOf Tryz.f41) (Z46.kt x0 x1)) n (Z46.s6 x0 x1 v6_1 v6_4 v6_5 v6_6 v6_7 v6_8 v6_9 v6_10 v6_11 v6_12 v6_13 v6_14 v6_15 v6_16 v6_17 v6_18 v6_19) = Z46.l6 x0 x1 n v6_1 v6_4 v6_5 v6_6 v6_7 v6_8 v6_9 v6_10 v6_11 v6_12 v6_13 v6_14 v6_15 v6_16 v6_17 v6_18 v6_19 := by
 intro n
 induction n with
 | zero => intros; rw [V.loopN_z]; rfl
 | succ n ih =>
   intro v6_1 v6_4 v6_5 v6_6 v6_7 v6_8 v6_9 v6_10 v6_11 v6_12 v6_13 v6_14 v6_15 v6_16 v6_17 v6_18 v6_19
   rw [V.loopN_s, Z46.r6]
   simp only [ih]
   first | exact (Z46.u6 ..).symm | rfl
theorem Z46.v (x0 : TWitness) (x1 : List TSigned) : V.evBody Z46.E Z46.con Tryz.f41 ((x0.1, x0.2, x1) : Int × List TMark × List TSigned) = Z46.b x0 x1 (fun v6_1 v6_4 v6_5 v6_6 v6_7 v6_8 v6_9 v6_10 v6_11 v6_12 v6_13 v6_14 v6_15 v6_16 v6_17 v6_18 v6_19 => V.loopN (V.loopF Z46.E Tryz.f41.ntmps [1, 1, 0, 1, 0] [] (V.codeOf Tryz.f41) (Z46.kt x0 x1)) V.KK (Z46.s6 x0 x1 v6_1 v6_4 v6_5 v6_6 v6_7 v6_8 v6_9 v6_10 v6_11 v6_12 v6_13 v6_14 v6_15 v6_16 v6_17 v6_18 v6_19)) := by kernel_rfl
theorem Z46.eq (x0 : TWitness) (x1 : List TSigned) : V.evBody Z46.E Z46.con Tryz.f41 ((x0.1, x0.2, x1) : Int × List TMark × List TSigned) = Z46 x0 x1 := by
 rw [Z46.v]
 simp only [Z46.e6]
 rfl
theorem Z46.ok : V.Valid Tryz.prog 41 Z46.con :=
 V.fo (V.tab_cons Z72.ok V.tab_nil) Tryz.func41 (by kernel_rfl) (fun x y h => (show V.evBody Z46.E Z46.con Tryz.f41 x = _ from Z46.eq (x.1, x.2.1) x.2.2).trans (V.cfl (by kernel_rfl) h))
noncomputable abbrev Z10.con : V.Con := ⟨V.A0, (V.ci (V.ci (V.ci .nil))), fun (x : V.D0) => Z10 (V.p0_0 x), [], [(true, 16)], [(true, 3)], [false, false, false], []⟩
noncomputable abbrev Z10.E : V.Env := V.mkE V.tys [(59, Z72.con)] [] [(1, 6)] [] [] []
noncomputable abbrev Z10.kt (x0 : THead) : V.Kt TMark := V.ktOf Z10.E Z10.con Tryz.f23 (V.fl0 x0)
noncomputable abbrev Z10.s (x0 : THead) : V.St := ⟨[(0, .v true (V.lsHead x0))], []⟩
theorem Z10.v0 (x0 : THead) : V.evBody Z10.E Z10.con Tryz.f23 (V.fl0 x0) = V.evC Z10.E Tryz.f23.ntmps (V.codeOf Tryz.f23) (Z10.kt x0) (Z10.s x0) := by kernel_rfl
theorem Z10.v (x0 : THead) : V.evC Z10.E Tryz.f23.ntmps (V.codeOf Tryz.f23) (Z10.kt x0) (Z10.s x0) = Z10 x0 := by kernel_rfl
theorem Z10.eq (x0 : THead) : V.evBody Z10.E Z10.con Tryz.f23 (V.fl0 x0) = Z10 x0 := (Z10.v0 x0).trans (Z10.v x0)
theorem Z10.ok : V.Valid Tryz.prog 23 Z10.con :=
 V.fo (V.tab_cons Z72.ok V.tab_nil) Tryz.func23 (by kernel_rfl) (fun x y h => (show V.evBody Z10.E Z10.con Tryz.f23 x = _ from Z10.eq (V.p0_0 x)).trans (V.cfl (by kernel_rfl) h))
noncomputable abbrev Z3.con : V.Con := ⟨(V.ci (V.ci (V.ci .nil))), (.cons (.sl (V.ci .nil)) .nil), fun (x : Int × Int × Int) => Z3 x, [], [(true, 3)], [(false, 1)], [true], []⟩
noncomputable abbrev Z3.E : V.Env := V.mkE V.tys [] [] [] [] [] []
theorem Z3.eq (x0 : TMark) : V.evBody Z3.E Z3.con Tryz.f21 ((x0.1, x0.2.1, x0.2.2) : Int × Int × Int) = Z3 x0 := by kernel_rfl
theorem Z3.ok : V.Valid Tryz.prog 21 Z3.con :=
 V.fo V.tab_nil Tryz.func21 (by kernel_rfl) (fun x y h => (show V.evBody Z3.E Z3.con Tryz.f21 x = _ from Z3.eq x).trans (V.cfl (by kernel_rfl) h))
noncomputable abbrev Z13.con : V.Con := ⟨(V.ci (.cons (.sl (V.ci (V.ci (V.ci .nil)))) (.cons (.sl V.eSigned) .nil))), V.eRWitnessSigBool, fun (x : Int × List TMark × List TSigned) => Z13 (x.1, x.2.1) x.2.2, [], [(true, 2), (false, 1)], [(true, 2), (true, 2), (false, 1)], [false, true, false, false, false], []⟩
noncomputable abbrev Z13.E : V.Env := V.mkE V.tys [(21, Z3.con), (23, Z10.con), (38, Z131.con), (39, Z50.con), (40, Z103.con), (41, Z46.con), (42, Z33.con), (43, Z105.con)] [(7, [1, 2, 4, 5, 7, 25], []), (10, [1, 2, 4, 5, 7, 8], [])] [(13, 9)] [] [] [(13, [1, 2, 8])]
noncomputable abbrev Z13.kt (x0 : TWitness) (x1 : List TSigned) : V.Kt TRWitnessSigBool := V.ktOf Z13.E Z13.con Tryz.f7 ((x0.1, x0.2, x1) : Int × List TMark × List TSigned)
noncomputable abbrev Z13.s10 (x0 : TWitness) (x1 : List TSigned) (y1 : TWitness) (v10_1 : Int) (v10_8 : List TMark) : V.St := ⟨[(1, .v false [.val (.sl V.eSigned x1)]), (2, .v false [.ptr 64000 0]), (4, .v false [.ptr 64064 0]), (5, .v false [.ptr 64128 0]), (7, .v false [.ptr 128128 0]), (8, .v false [.vi (v10_1)])], [(64000, .box [.vi (x0.1), .val (.sl (V.ci (V.ci (V.ci .nil))) x0.2)]), (64064, .box [.vi ((0 : Int)), .nil0]), (64128, .box [.vi ((0 : Int)), .vi ((0 : Int))]), (128128, .box [.vi (y1.1), .ref 64000000000008200193]), (64000000000008200193, .row (V.ci (V.ci (V.ci .nil))) true v10_8)]⟩
noncomputable abbrev Z13.s7 (x0 : TWitness) (x1 : List TSigned) (y1 : TWitness) (v7_1 : Bool) : V.St := ⟨[(1, .v false [.val (.sl V.eSigned x1)]), (2, .v false [.ptr 64000 0]), (4, .v false [.ptr 64064 0]), (5, .v false [.ptr 64128 0]), (7, .v false [.ptr 128128 0]), (25, .v false [.val (.bool v7_1)])], [(64000, .box [.vi (x0.1), .val (.sl (V.ci (V.ci (V.ci .nil))) x0.2)]), (64064, .box [.vi ((0 : Int)), .nil0]), (64128, .box [.vi ((0 : Int)), .vi ((0 : Int))]), (128128, .box [.vi (y1.1), .ref 64000000000008200193]), (64000000000008200193, .row (V.ci (V.ci (V.ci .nil))) true y1.2)]⟩
theorem Z13.r10 (x0 : TWitness) (x1 : List TSigned) (y1 : TWitness) (R : V.St → Option TRWitnessSigBool) (v10_1 : Int) (v10_8 : List TMark) : V.loopF Z13.E Tryz.f7.ntmps [1, 1, 1, 0, 1, 0] [] (V.codeOf Tryz.f7) (Z13.kt x0 x1) R (Z13.s10 x0 x1 y1 v10_1 v10_8) = Z13.g10 x0 x1 y1 (fun v10_1 v10_8 => R (Z13.s10 x0 x1 y1 v10_1 v10_8)) v10_1 v10_8 := by kernel_rfl
theorem Z13.e10 (x0 : TWitness) (x1 : List TSigned) (y1 : TWitness) : ∀ (n : Nat) (v10_1 : Int) (v10_8 : List TMark), V.loopN (V.loopF Z13.E Tryz.f7.ntmps [1, 1, 1, 0, 1, 0] [] (V.codeOf Tryz.f7) (Z13.kt x0 x1)) n (Z13.s10 x0 x1 y1 v10_1 v10_8) = Z13.l10 x0 x1 y1 n v10_1 v10_8 := by
 intro n
 induction n with
 | zero => intros; rw [V.loopN_z]; rfl
 | succ n ih =>
   intro v10_1 v10_8
   rw [V.loopN_s, Z13.r10]
   simp only [ih]
   first | exact (Z13.u10 ..).symm | rfl
theorem Z13.r7 (x0 : TWitness) (x1 : List TSigned) (y1 : TWitness) (v7_1 : Bool) : V.joinF Z13.E Tryz.f7.ntmps [1, 1, 0] [] (V.codeOf Tryz.f7) (Z13.kt x0 x1) (Z13.s7 x0 x1 y1 v7_1) = Z13.g7 x0 x1 y1 (fun y1 v10_1 v10_8 => V.loopN (V.loopF Z13.E Tryz.f7.ntmps [1, 1, 1, 0, 1, 0] [] (V.codeOf Tryz.f7) (Z13.kt x0 x1)) V.KK (Z13.s10 x0 x1 y1 v10_1 v10_8)) v7_1 := by kernel_rfl
theorem Z13.e7 (x0 : TWitness) (x1 : List TSigned) (y1 : TWitness) (v7_1 : Bool) : V.jn (V.joinF Z13.E Tryz.f7.ntmps [1, 1, 0] [] (V.codeOf Tryz.f7) (Z13.kt x0 x1)) (Z13.s7 x0 x1 y1 v7_1) = Z13.l7 x0 x1 y1 v7_1 := by
 rw [V.jn_eq, Z13.r7]
 simp only [Z13.e10]
 rfl
theorem Z13.v (x0 : TWitness) (x1 : List TSigned) : V.evBody Z13.E Z13.con Tryz.f7 ((x0.1, x0.2, x1) : Int × List TMark × List TSigned) = Z13.b x0 x1 (fun y1 v7_1 => V.jn (V.joinF Z13.E Tryz.f7.ntmps [1, 1, 0] [] (V.codeOf Tryz.f7) (Z13.kt x0 x1)) (Z13.s7 x0 x1 y1 v7_1)) := by kernel_rfl
theorem Z13.eq (x0 : TWitness) (x1 : List TSigned) : V.evBody Z13.E Z13.con Tryz.f7 ((x0.1, x0.2, x1) : Int × List TMark × List TSigned) = Z13 x0 x1 := by
 rw [Z13.v]
 simp only [Z13.e7]
 rfl
theorem Z13.ok : V.Valid Tryz.prog 7 Z13.con :=
 V.fo (V.tab_cons Z3.ok (V.tab_cons Z10.ok (V.tab_cons Z131.ok (V.tab_cons Z50.ok (V.tab_cons Z103.ok (V.tab_cons Z46.ok (V.tab_cons Z33.ok (V.tab_cons Z105.ok V.tab_nil)))))))) Tryz.func7 (by kernel_rfl) (fun x y h => (show V.evBody Z13.E Z13.con Tryz.f7 x = _ from Z13.eq (x.1, x.2.1) x.2.2).trans (V.cfl (by kernel_rfl) h))
noncomputable abbrev Z14.con : V.Con := ⟨(.cons (.ptr (.cons (.sl (.cons (.int .u8) .nil)) (V.ci (V.ci .nil)))) (.cons (.sl V.eSigned) (.cons (.sl V.eSigned) .nil))), (.cons (.ptr (.cons (.sl (.cons (.int .u8) .nil)) (V.ci (V.ci .nil)))) (V.ci (.cons (.sl (V.ci (V.ci (V.ci .nil)))) .nil))), fun (x : (Tl1Cur) × List TSigned × List TSigned) => Z14 x.1 x.2.1 x.2.2, [(0, false)], [(false, 1), (false, 1), (false, 1)], [(true, 2)], [false, true], []⟩
noncomputable abbrev Z14.E : V.Env := V.mkE V.tys [(7, Z13.con), (27, Z5.con), (64, Z95.con)] [(6, [0, 1, 2, 6, 7, 8], [(64000000000008208385, (V.ci (V.ci (V.ci .nil))), true)]), (17, [0, 1, 2, 6, 7, 8, 9], [])] [] [] [] [(8, [1000])]
noncomputable abbrev Z14.kt (x0 : (Tl1Cur)) (x1 : List TSigned) (x2 : List TSigned) : V.Kt ((Tl1Cur) × Int × List TMark) := V.ktOf Z14.E Z14.con Tryz.f26 ((x0, x1, x2) : (Tl1Cur) × List TSigned × List TSigned)
noncomputable abbrev Z14.s17 (x0 : (Tl1Cur)) (x1 : List TSigned) (x2 : List TSigned) (v6_2 : Int) (v6_7 : Int) (v6_8 : List TMark) (y3 : (Tl1Cur) × Bool) (v17_3 : List TSigned) : V.St := ⟨[(0, .v false [.ptr 0 0]), (1, .v false [.val (.sl V.eSigned x1)]), (2, .v false [.val (.sl V.eSigned x2)]), (6, .v false [.ptr 64000 0]), (7, .v false [.ptr 128256 0]), (8, .v false [.vi (v6_2)]), (9, .v false [.val (.sl V.eSigned v17_3)])], [(0, .box [.val (.sl (.cons (.int .u8) .nil) x0.1), .vi (y3.1.2.1), .vi (y3.1.2.2)]), (64000, .box [.vi ((0 : Int)), .nil0]), (128256, .box [.vi (v6_7), .ref 64000000000008208385]), (64000000000008208385, .row (V.ci (V.ci (V.ci .nil))) true v6_8)]⟩
noncomputable abbrev Z14.s6 (x0 : (Tl1Cur)) (x1 : List TSigned) (x2 : List TSigned) (v6_2 : Int) (v6_4 : Int) (v6_5 : Int) (v6_7 : Int) (v6_8 : List TMark) : V.St := ⟨[(0, .v false [.ptr 0 0]), (1, .v false [.val (.sl V.eSigned x1)]), (2, .v false [.val (.sl V.eSigned x2)]), (6, .v false [.ptr 64000 0]), (7, .v false [.ptr 128256 0]), (8, .v false [.vi (v6_2)])], [(0, .box [.val (.sl (.cons (.int .u8) .nil) x0.1), .vi (v6_4), .vi (v6_5)]), (64000, .box [.vi ((0 : Int)), .nil0]), (128256, .box [.vi (v6_7), .ref 64000000000008208385]), (64000000000008208385, .row (V.ci (V.ci (V.ci .nil))) true v6_8)]⟩
theorem Z14.r17 (x0 : (Tl1Cur)) (x1 : List TSigned) (x2 : List TSigned) (v6_2 : Int) (v6_7 : Int) (v6_8 : List TMark) (y3 : (Tl1Cur) × Bool) (R6 : V.St → Option ((Tl1Cur) × Int × List TMark)) (v17_3 : List TSigned) : V.joinF Z14.E Tryz.f26.ntmps [1, 1, 0, 1, 0, 0, 1, 0, 0, 1] [R6] (V.codeOf Tryz.f26) (Z14.kt x0 x1 x2) (Z14.s17 x0 x1 x2 v6_2 v6_7 v6_8 y3 v17_3) = Z14.g17 x0 x1 x2 v6_2 v6_7 v6_8 y3 (fun v6_2 v6_4 v6_5 v6_7 v6_8 => R6 (Z14.s6 x0 x1 x2 v6_2 v6_4 v6_5 v6_7 v6_8)) v17_3 := by kernel_rfl
theorem Z14.e17 (x0 : (Tl1Cur)) (x1 : List TSigned) (x2 : List TSigned) (v6_2 : Int) (v6_7 : Int) (v6_8 : List TMark) (y3 : (Tl1Cur) × Bool) (R6 : V.St → Option ((Tl1Cur) × Int × List TMark)) (v17_3 : List TSigned) : V.jn (V.joinF Z14.E Tryz.f26.ntmps [1, 1, 0, 1, 0, 0, 1, 0, 0, 1] [R6] (V.codeOf Tryz.f26) (Z14.kt x0 x1 x2)) (Z14.s17 x0 x1 x2 v6_2 v6_7 v6_8 y3 v17_3) = Z14.l17 x0 x1 x2 v6_2 v6_7 v6_8 y3 (fun v6_2 v6_4 v6_5 v6_7 v6_8 => R6 (Z14.s6 x0 x1 x2 v6_2 v6_4 v6_5 v6_7 v6_8)) v17_3 := by
 rw [V.jn_eq, Z14.r17]
 rfl
theorem Z14.r6 (x0 : (Tl1Cur)) (x1 : List TSigned) (x2 : List TSigned) (R : V.St → Option ((Tl1Cur) × Int × List TMark)) (v6_2 : Int) (v6_4 : Int) (v6_5 : Int) (v6_7 : Int) (v6_8 : List TMark) : V.loopF Z14.E Tryz.f26.ntmps [1, 1, 0, 1, 0] [] (V.codeOf Tryz.f26) (Z14.kt x0 x1 x2) R (Z14.s6 x0 x1 x2 v6_2 v6_4 v6_5 v6_7 v6_8) = Z14.g6 x0 x1 x2 (fun v6_2 v6_4 v6_5 v6_7 v6_8 => R (Z14.s6 x0 x1 x2 v6_2 v6_4 v6_5 v6_7 v6_8)) (fun y3 v17_3 => V.jn (V.joinF Z14.E Tryz.f26.ntmps [1, 1, 0, 1, 0, 0, 1, 0, 0, 1] [R] (V.codeOf Tryz.f26) (Z14.kt x0 x1 x2)) (Z14.s17 x0 x1 x2 v6_2 v6_7 v6_8 y3 v17_3)) v6_2 v6_4 v6_5 v6_7 v6_8 := by kernel_rfl
theorem Z14.e6 (x0 : (Tl1Cur)) (x1 : List TSigned) (x2 : List TSigned) : ∀ (n : Nat) (v6_2 : Int) (v6_4 : Int) (v6_5 : Int) (v6_7 : Int) (v6_8 : List TMark), V.loopN (V.loopF Z14.E Tryz.f26.ntmps [1, 1, 0, 1, 0] [] (V.codeOf Tryz.f26) (Z14.kt x0 x1 x2)) n (Z14.s6 x0 x1 x2 v6_2 v6_4 v6_5 v6_7 v6_8) = Z14.l6 x0 x1 x2 n v6_2 v6_4 v6_5 v6_7 v6_8 := by
 intro n
 induction n with
 | zero => intros; rw [V.loopN_z]; rfl
 | succ n ih =>
   intro v6_2 v6_4 v6_5 v6_7 v6_8
   rw [V.loopN_s, Z14.r6]
   simp only [Z14.e17, ih]
   first | exact (Z14.u6 ..).symm | rfl
theorem Z14.v (x0 : (Tl1Cur)) (x1 : List TSigned) (x2 : List TSigned) : V.evBody Z14.E Z14.con Tryz.f26 ((x0, x1, x2) : (Tl1Cur) × List TSigned × List TSigned) = Z14.b x0 x1 x2 (fun v6_2 v6_4 v6_5 v6_7 v6_8 => V.loopN (V.loopF Z14.E Tryz.f26.ntmps [1, 1, 0, 1, 0] [] (V.codeOf Tryz.f26) (Z14.kt x0 x1 x2)) V.KK (Z14.s6 x0 x1 x2 v6_2 v6_4 v6_5 v6_7 v6_8)) := by kernel_rfl
theorem Z14.eq (x0 : (Tl1Cur)) (x1 : List TSigned) (x2 : List TSigned) : V.evBody Z14.E Z14.con Tryz.f26 ((x0, x1, x2) : (Tl1Cur) × List TSigned × List TSigned) = Z14 x0 x1 x2 := by
 rw [Z14.v]
 simp only [Z14.e6]
 rfl
theorem Z14.ok : V.Valid Tryz.prog 26 Z14.con :=
 V.fo (V.tab_cons Z13.ok (V.tab_cons Z5.ok (V.tab_cons Z95.ok V.tab_nil))) Tryz.func26 (by kernel_rfl) (fun x y h => (show V.evBody Z14.E Z14.con Tryz.f26 x = _ from Z14.eq x.1 x.2.1 x.2.2).trans (V.cfl (by kernel_rfl) h))
noncomputable abbrev Z42.con : V.Con := ⟨(.cons (.ptr (.cons (.sl (.cons (.int .u8) .nil)) (V.ci (V.ci .nil)))) (.cons (.sl (V.ci .nil)) .nil)), (.cons (.ptr (.cons (.sl (.cons (.int .u8) .nil)) (V.ci (V.ci .nil)))) (V.ci .nil)), fun (x : (Tl1Cur) × List Int) => Z42 x.1 x.2, [(0, false)], [(false, 1), (false, 1)], [(false, 1)], [false], []⟩
noncomputable abbrev Z42.E : V.Env := V.mkE V.tys [(27, Z5.con)] [] [] [] [] []
theorem Z42.eq (x0 : (Tl1Cur)) (x1 : List Int) : V.evBody Z42.E Z42.con Tryz.f67 ((x0, x1) : (Tl1Cur) × List Int) = Z42 x0 x1 := by kernel_rfl
theorem Z42.ok : V.Valid Tryz.prog 67 Z42.con :=
 V.fo (V.tab_cons Z5.ok V.tab_nil) Tryz.func67 (by kernel_rfl) (fun x y h => (show V.evBody Z42.E Z42.con Tryz.f67 x = _ from Z42.eq x.1 x.2).trans (V.cfl (by kernel_rfl) h))
noncomputable abbrev Z53.con : V.Con := ⟨(.cons (.ptr (.cons (.sl (.cons (.int .u8) .nil)) (V.ci (V.ci .nil)))) .nil), (.cons (.ptr (.cons (.sl (.cons (.int .u8) .nil)) (V.ci (V.ci .nil)))) (V.ci (.cons (.sl (V.ci (V.ci (V.ci .nil)))) .nil))), fun (x : (Tl1Cur)) => Z53 x, [(0, false)], [(false, 1)], [(true, 2)], [false, true], []⟩
noncomputable abbrev Z53.E : V.Env := V.mkE V.tys [(25, Z8.con), (26, Z14.con), (27, Z5.con), (67, Z42.con)] [(20, [0, 2, 5, 6], [])] [] [] [] [(7, [1000])]
noncomputable abbrev Z53.kt (x0 : (Tl1Cur)) : V.Kt ((Tl1Cur) × Int × List TMark) := V.ktOf Z53.E Z53.con Tryz.f28 ((x0) : (Tl1Cur))
noncomputable abbrev Z53.s20 (x0 : (Tl1Cur)) (y2 : (Tl1Cur) × Int × List TMark) (y3 : (Tl1Cur) × Int) (v20_0 : Int) (v20_6 : List TMark) : V.St := ⟨[(0, .v false [.ptr 0 0]), (2, .v false [.ptr 64000 0]), (5, .v false [.ptr 192256 0]), (6, .v false [.vi (v20_0)])], [(0, .box [.val (.sl (.cons (.int .u8) .nil) x0.1), .vi (y3.1.2.1), .vi (y3.1.2.2)]), (64000, .box [.vi ((0 : Int)), .nil0]), (192256, .box [.vi (y2.2.1), .ref 64000000000012304385]), (64000000000012304385, .row (V.ci (V.ci (V.ci .nil))) true v20_6)]⟩
theorem Z53.r20 (x0 : (Tl1Cur)) (y2 : (Tl1Cur) × Int × List TMark) (y3 : (Tl1Cur) × Int) (R : V.St → Option ((Tl1Cur) × Int × List TMark)) (v20_0 : Int) (v20_6 : List TMark) : V.loopF Z53.E Tryz.f28.ntmps [1, 1, 1, 0, 1, 0, 1, 1, 1, 1, 1, 0, 1, 0] [] (V.codeOf Tryz.f28) (Z53.kt x0) R (Z53.s20 x0 y2 y3 v20_0 v20_6) = Z53.g20 x0 y2 y3 (fun v20_0 v20_6 => R (Z53.s20 x0 y2 y3 v20_0 v20_6)) v20_0 v20_6 := by kernel_rfl
theorem Z53.e20 (x0 : (Tl1Cur)) (y2 : (Tl1Cur) × Int × List TMark) (y3 : (Tl1Cur) × Int) : ∀ (n : Nat) (v20_0 : Int) (v20_6 : List TMark), V.loopN (V.loopF Z53.E Tryz.f28.ntmps [1, 1, 1, 0, 1, 0, 1, 1, 1, 1, 1, 0, 1, 0] [] (V.codeOf Tryz.f28) (Z53.kt x0)) n (Z53.s20 x0 y2 y3 v20_0 v20_6) = Z53.l20 x0 y2 y3 n v20_0 v20_6 := by
 intro n
 induction n with
 | zero => intros; rw [V.loopN_z]; rfl
 | succ n ih =>
   intro v20_0 v20_6
   rw [V.loopN_s, Z53.r20]
   simp only [ih]
   first | exact (Z53.u20 ..).symm | rfl
theorem Z53.v (x0 : (Tl1Cur)) : V.evBody Z53.E Z53.con Tryz.f28 ((x0) : (Tl1Cur)) = Z53.b x0 (fun y2 y3 v20_0 v20_6 => V.loopN (V.loopF Z53.E Tryz.f28.ntmps [1, 1, 1, 0, 1, 0, 1, 1, 1, 1, 1, 0, 1, 0] [] (V.codeOf Tryz.f28) (Z53.kt x0)) V.KK (Z53.s20 x0 y2 y3 v20_0 v20_6)) := by kernel_rfl
theorem Z53.eq (x0 : (Tl1Cur)) : V.evBody Z53.E Z53.con Tryz.f28 ((x0) : (Tl1Cur)) = Z53 x0 := by
 rw [Z53.v]
 simp only [Z53.e20]
 rfl
theorem Z53.ok : V.Valid Tryz.prog 28 Z53.con :=
 V.fo (V.tab_cons Z8.ok (V.tab_cons Z14.ok (V.tab_cons Z5.ok (V.tab_cons Z42.ok V.tab_nil)))) Tryz.func28 (by kernel_rfl) (fun x y h => (show V.evBody Z53.E Z53.con Tryz.f28 x = _ from Z53.eq x).trans (V.cfl (by kernel_rfl) h))
noncomputable abbrev Z24.con : V.Con := ⟨(.cons (.ptr (.cons (.sl (.cons (.int .u8) .nil)) (V.ci (V.ci .nil)))) .nil), (.cons (.ptr (.cons (.sl (.cons (.int .u8) .nil)) (V.ci (V.ci .nil)))) (V.ci (V.ci (V.ci (V.ci (V.ci (V.ci (V.ci (V.ci (.cons (.sl (V.ci .nil)) (V.ci (.cons (.sl (V.ci .nil)) (V.ci (V.ci (.cons (.sl (V.ci .nil)) (V.ci (.cons .bool .nil))))))))))))))))), fun (x : (Tl1Cur)) => Z24 x, [(0, false)], [(false, 1)], [(true, 16)], [false, false, false, false, false, false, false, false, true, false, true, false, false, true, false, false], []⟩
noncomputable abbrev Z24.E : V.Env := V.mkE V.tys [(27, Z5.con), (64, Z95.con), (82, Z22.con)] [(7, [0, 2, 3], []), (13, [0, 2, 3], [(64000000000008265738, (V.ci .nil), true)])] [] [] [] [(2, [1000])]
noncomputable abbrev Z24.kt (x0 : (Tl1Cur)) : V.Kt ((Tl1Cur) × Int × Int × Int × Int × Int × Int × Int × Int × List Int × Int × List Int × Int × Int × List Int × Int × Bool) := V.ktOf Z24.E Z24.con Tryz.f83 ((x0) : (Tl1Cur))
noncomputable abbrev Z24.s13 (x0 : (Tl1Cur)) (v7_18 : Int) (v7_20 : Int) (y1 : (Tl1Cur) × Int) (y2 : (Tl1Cur) × Int) (y4 : (Tl1Cur) × Int) (y5 : (Tl1Cur) × Int) (y6 : (Tl1Cur) × Int) (y7 : (Tl1Cur) × Int) (y8 : (Tl1Cur) × List Int × Int) (v13_1 : Int) (v13_2 : Int) (v13_25 : Int) (v13_26 : Int) (v13_30 : List Int) : V.St := ⟨[(0, .v false [.ptr 0 0]), (2, .v false [.ptr 64000 0]), (3, .v false [.ptr 129152 0])], [(0, .box [.val (.sl (.cons (.int .u8) .nil) x0.1), .vi (v13_1), .vi (v13_2)]), (64000, .box [.vi ((0 : Int)), .vi ((0 : Int)), .vi ((0 : Int)), .vi ((0 : Int)), .vi ((0 : Int)), .vi ((0 : Int)), .vi ((0 : Int)), .vi ((0 : Int)), .nil0, .vi ((0 : Int)), .nil0, .vi ((0 : Int)), .vi ((0 : Int)), .nil0, .vi ((0 : Int)), .val (.bool false)]), (129152, .box [.vi (y1.2), .vi (y2.2), .vi (v7_18), .vi (y4.2), .vi (v7_20), .vi (y7.2), .vi (y5.2), .vi (y6.2), .ref 64000000000008265736, .vi (y8.2.2), .ref 64000000000008265738, .vi (v13_25), .vi (v13_26), .nil0, .vi ((0 : Int)), .val (.bool false)]), (64000000000008265736, .row (V.ci .nil) true y8.2.1), (64000000000008265738, .row (V.ci .nil) true v13_30)]⟩
noncomputable abbrev Z24.s7 (x0 : (Tl1Cur)) (y1 : (Tl1Cur) × Int) (y2 : (Tl1Cur) × Int) (y4 : (Tl1Cur) × Int) (y5 : (Tl1Cur) × Int) (y6 : (Tl1Cur) × Int) (y7 : (Tl1Cur) × Int) (y8 : (Tl1Cur) × List Int × Int) (v7_1 : Int) (v7_2 : Int) (v7_18 : Int) (v7_20 : Int) : V.St := ⟨[(0, .v false [.ptr 0 0]), (2, .v false [.ptr 64000 0]), (3, .v false [.ptr 129152 0])], [(0, .box [.val (.sl (.cons (.int .u8) .nil) x0.1), .vi (v7_1), .vi (v7_2)]), (64000, .box [.vi ((0 : Int)), .vi ((0 : Int)), .vi ((0 : Int)), .vi ((0 : Int)), .vi ((0 : Int)), .vi ((0 : Int)), .vi ((0 : Int)), .vi ((0 : Int)), .nil0, .vi ((0 : Int)), .nil0, .vi ((0 : Int)), .vi ((0 : Int)), .nil0, .vi ((0 : Int)), .val (.bool false)]), (129152, .box [.vi (y1.2), .vi (y2.2), .vi (v7_18), .vi (y4.2), .vi (v7_20), .vi (y7.2), .vi (y5.2), .vi (y6.2), .ref 64000000000008265736, .vi (y8.2.2), .nil0, .vi ((0 : Int)), .vi ((0 : Int)), .nil0, .vi ((0 : Int)), .val (.bool false)]), (64000000000008265736, .row (V.ci .nil) true y8.2.1)]⟩
theorem Z24.r13 (x0 : (Tl1Cur)) (v7_18 : Int) (v7_20 : Int) (y1 : (Tl1Cur) × Int) (y2 : (Tl1Cur) × Int) (y4 : (Tl1Cur) × Int) (y5 : (Tl1Cur) × Int) (y6 : (Tl1Cur) × Int) (y7 : (Tl1Cur) × Int) (y8 : (Tl1Cur) × List Int × Int) (v13_1 : Int) (v13_2 : Int) (v13_25 : Int) (v13_26 : Int) (v13_30 : List Int) : V.joinF Z24.E Tryz.f83.ntmps [1, 1, 1] [] (V.codeOf Tryz.f83) (Z24.kt x0) (Z24.s13 x0 v7_18 v7_20 y1 y2 y4 y5 y6 y7 y8 v13_1 v13_2 v13_25 v13_26 v13_30) = Z24.g13 x0 v7_18 v7_20 y1 y2 y4 y5 y6 y7 y8 v13_1 v13_2 v13_25 v13_26 v13_30 := by kernel_rfl
theorem Z24.e13 (x0 : (Tl1Cur)) (v7_18 : Int) (v7_20 : Int) (y1 : (Tl1Cur) × Int) (y2 : (Tl1Cur) × Int) (y4 : (Tl1Cur) × Int) (y5 : (Tl1Cur) × Int) (y6 : (Tl1Cur) × Int) (y7 : (Tl1Cur) × Int) (y8 : (Tl1Cur) × List Int × Int) (v13_1 : Int) (v13_2 : Int) (v13_25 : Int) (v13_26 : Int) (v13_30 : List Int) : V.jn (V.joinF Z24.E Tryz.f83.ntmps [1, 1, 1] [] (V.codeOf Tryz.f83) (Z24.kt x0)) (Z24.s13 x0 v7_18 v7_20 y1 y2 y4 y5 y6 y7 y8 v13_1 v13_2 v13_25 v13_26 v13_30) = Z24.l13 x0 v7_18 v7_20 y1 y2 y4 y5 y6 y7 y8 v13_1 v13_2 v13_25 v13_26 v13_30 := by
 rw [V.jn_eq, Z24.r13]
 rfl
theorem Z24.r7 (x0 : (Tl1Cur)) (y1 : (Tl1Cur) × Int) (y2 : (Tl1Cur) × Int) (y4 : (Tl1Cur) × Int) (y5 : (Tl1Cur) × Int) (y6 : (Tl1Cur) × Int) (y7 : (Tl1Cur) × Int) (y8 : (Tl1Cur) × List Int × Int) (v7_1 : Int) (v7_2 : Int) (v7_18 : Int) (v7_20 : Int) : V.joinF Z24.E Tryz.f83.ntmps [1, 1] [] (V.codeOf Tryz.f83) (Z24.kt x0) (Z24.s7 x0 y1 y2 y4 y5 y6 y7 y8 v7_1 v7_2 v7_18 v7_20) = Z24.g7 x0 y1 y2 y4 y5 y6 y7 y8 (fun y1 y2 y4 y5 y6 y7 y8 v13_1 v13_2 v13_25 v13_26 v13_30 => V.jn (V.joinF Z24.E Tryz.f83.ntmps [1, 1, 1] [] (V.codeOf Tryz.f83) (Z24.kt x0)) (Z24.s13 x0 v7_18 v7_20 y1 y2 y4 y5 y6 y7 y8 v13_1 v13_2 v13_25 v13_26 v13_30)) v7_1 v7_2 v7_18 v7_20 := by kernel_rfl
theorem Z24.e7 (x0 : (Tl1Cur)) (y1 : (Tl1Cur) × Int) (y2 : (Tl1Cur) × Int) (y4 : (Tl1Cur) × Int) (y5 : (Tl1Cur) × Int) (y6 : (Tl1Cur) × Int) (y7 : (Tl1Cur) × Int) (y8 : (Tl1Cur) × List Int × Int) (v7_1 : Int) (v7_2 : Int) (v7_18 : Int) (v7_20 : Int) : V.jn (V.joinF Z24.E Tryz.f83.ntmps [1, 1] [] (V.codeOf Tryz.f83) (Z24.kt x0)) (Z24.s7 x0 y1 y2 y4 y5 y6 y7 y8 v7_1 v7_2 v7_18 v7_20) = Z24.l7 x0 y1 y2 y4 y5 y6 y7 y8 v7_1 v7_2 v7_18 v7_20 := by
 rw [V.jn_eq, Z24.r7]
 simp only [Z24.e13]
 rfl
theorem Z24.v (x0 : (Tl1Cur)) : V.evBody Z24.E Z24.con Tryz.f83 ((x0) : (Tl1Cur)) = Z24.b x0 (fun y1 y2 y4 y5 y6 y7 y8 v7_1 v7_2 v7_18 v7_20 => V.jn (V.joinF Z24.E Tryz.f83.ntmps [1, 1] [] (V.codeOf Tryz.f83) (Z24.kt x0)) (Z24.s7 x0 y1 y2 y4 y5 y6 y7 y8 v7_1 v7_2 v7_18 v7_20)) := by kernel_rfl
theorem Z24.eq (x0 : (Tl1Cur)) : V.evBody Z24.E Z24.con Tryz.f83 ((x0) : (Tl1Cur)) = Z24 x0 := by
 rw [Z24.v]
 simp only [Z24.e7]
 rfl
theorem Z24.ok : V.Valid Tryz.prog 83 Z24.con :=
 V.fo (V.tab_cons Z5.ok (V.tab_cons Z95.ok (V.tab_cons Z22.ok V.tab_nil))) Tryz.func83 (by kernel_rfl) (fun x y h => (show V.evBody Z24.E Z24.con Tryz.f83 x = _ from Z24.eq x).trans (V.cfl (by kernel_rfl) h))
noncomputable abbrev Z112.con : V.Con := ⟨(.cons (.ptr (.cons (.sl (.cons (.int .u8) .nil)) (V.ci (V.ci .nil)))) .nil), (.cons (.ptr (.cons (.sl (.cons (.int .u8) .nil)) (V.ci (V.ci .nil)))) (.cons (.sl (V.ci .nil)) (V.ci .nil))), fun (x : (Tl1Cur)) => Z112 x, [(0, false)], [(false, 1)], [(true, 2)], [true, false], []⟩
noncomputable abbrev Z112.E : V.Env := V.mkE V.tys [(27, Z5.con), (67, Z42.con), (82, Z22.con)] [] [] [] [] [(6, [1000])]
theorem Z112.eq (x0 : (Tl1Cur)) : V.evBody Z112.E Z112.con Tryz.f52 ((x0) : (Tl1Cur)) = Z112 x0 := by kernel_rfl
theorem Z112.ok : V.Valid Tryz.prog 52 Z112.con :=
 V.fo (V.tab_cons Z5.ok (V.tab_cons Z42.ok (V.tab_cons Z22.ok V.tab_nil))) Tryz.func52 (by kernel_rfl) (fun x y h => (show V.evBody Z112.E Z112.con Tryz.f52 x = _ from Z112.eq x).trans (V.cfl (by kernel_rfl) h))
noncomputable abbrev Z106.con : V.Con := ⟨(.cons (.ptr (.cons (.sl (.cons (.int .u8) .nil)) (V.ci (V.ci .nil)))) .nil), (.cons (.ptr (.cons (.sl (.cons (.int .u8) .nil)) (V.ci (V.ci .nil)))) (V.ci (V.ci (V.ci (V.ci (V.ci (V.ci (V.ci (V.ci (.cons (.sl (V.ci .nil)) (V.ci (.cons (.sl (V.ci .nil)) (V.ci (V.ci (.cons (.sl (V.ci .nil)) (V.ci (.cons .bool .nil))))))))))))))))), fun (x : (Tl1Cur)) => Z106 x, [(0, false)], [(false, 1)], [(true, 16)], [false, false, false, false, false, false, false, false, true, false, true, false, false, true, false, false], []⟩
noncomputable abbrev Z106.E : V.Env := V.mkE V.tys [(27, Z5.con), (52, Z112.con), (67, Z42.con), (83, Z24.con)] [] [] [] [] []
theorem Z106.eq (x0 : (Tl1Cur)) : V.evBody Z106.E Z106.con Tryz.f53 ((x0) : (Tl1Cur)) = Z106 x0 := by kernel_rfl
theorem Z106.ok : V.Valid Tryz.prog 53 Z106.con :=
 V.fo (V.tab_cons Z5.ok (V.tab_cons Z112.ok (V.tab_cons Z42.ok (V.tab_cons Z24.ok V.tab_nil)))) Tryz.func53 (by kernel_rfl) (fun x y h => (show V.evBody Z106.E Z106.con Tryz.f53 x = _ from Z106.eq x).trans (V.cfl (by kernel_rfl) h))
noncomputable abbrev Z54.con : V.Con := ⟨(.cons (.ptr (.cons (.sl (.cons (.int .u8) .nil)) (V.ci (V.ci .nil)))) .nil), (.cons (.ptr (.cons (.sl (.cons (.int .u8) .nil)) (V.ci (V.ci .nil)))) (.cons (.sl (V.ci .nil)) .nil)), fun (x : (Tl1Cur)) => Z54 x, [(0, false)], [(false, 1)], [(false, 1)], [true], []⟩
noncomputable abbrev Z54.E : V.Env := V.mkE V.tys [(27, Z5.con)] [(6, [0, 3, 4], [(64000038400192, (V.ci .nil), true)])] [] [] [] []
noncomputable abbrev Z54.kt (x0 : (Tl1Cur)) : V.Kt ((Tl1Cur) × List Int) := V.ktOf Z54.E Z54.con Tryz.f85 ((x0) : (Tl1Cur))
noncomputable abbrev Z54.s6 (x0 : (Tl1Cur)) (v6_0 : Int) (v6_2 : Int) (v6_3 : Int) (v6_4 : List Int) : V.St := ⟨[(0, .v false [.ptr 0 0]), (3, .v false [.ref 64000038400192]), (4, .v false [.vi (v6_0)])], [(0, .box [.val (.sl (.cons (.int .u8) .nil) x0.1), .vi (v6_2), .vi (v6_3)]), (64000038400192, .row (V.ci .nil) true v6_4)]⟩
theorem Z54.r6 (x0 : (Tl1Cur)) (R : V.St → Option ((Tl1Cur) × List Int)) (v6_0 : Int) (v6_2 : Int) (v6_3 : Int) (v6_4 : List Int) : V.loopF Z54.E Tryz.f85.ntmps [1, 1, 0, 1, 0] [] (V.codeOf Tryz.f85) (Z54.kt x0) R (Z54.s6 x0 v6_0 v6_2 v6_3 v6_4) = Z54.g6 x0 (fun v6_0 v6_2 v6_3 v6_4 => R (Z54.s6 x0 v6_0 v6_2 v6_3 v6_4)) v6_0 v6_2 v6_3 v6_4 := by kernel_rfl
theorem Z54.e6 (x0 : (Tl1Cur)) : ∀ (n : Nat) (v6_0 : Int) (v6_2 : Int) (v6_3 : Int) (v6_4 : List Int), V.loopN (V.loopF Z54.E Tryz.f85.ntmps [1, 1, 0, 1, 0] [] (V.codeOf Tryz.f85) (Z54.kt x0)) n (Z54.s6 x0 v6_0 v6_2 v6_3 v6_4) = Z54.l6 x0 n v6_0 v6_2 v6_3 v6_4 := by
 intro n
 induction n with
 | zero => intros; rw [V.loopN_z]; rfl
 | succ n ih =>
   intro v6_0 v6_2 v6_3 v6_4
   rw [V.loopN_s, Z54.r6]
   simp only [ih]
   first | exact (Z54.u6 ..).symm | rfl
theorem Z54.v (x0 : (Tl1Cur)) : V.evBody Z54.E Z54.con Tryz.f85 ((x0) : (Tl1Cur)) = Z54.b x0 (fun v6_0 v6_2 v6_3 v6_4 => V.loopN (V.loopF Z54.E Tryz.f85.ntmps [1, 1, 0, 1, 0] [] (V.codeOf Tryz.f85) (Z54.kt x0)) V.KK (Z54.s6 x0 v6_0 v6_2 v6_3 v6_4)) := by kernel_rfl
theorem Z54.eq (x0 : (Tl1Cur)) : V.evBody Z54.E Z54.con Tryz.f85 ((x0) : (Tl1Cur)) = Z54 x0 := by
 rw [Z54.v]
 simp only [Z54.e6]
 rfl
theorem Z54.ok : V.Valid Tryz.prog 85 Z54.con :=
 V.fo (V.tab_cons Z5.ok V.tab_nil) Tryz.func85 (by kernel_rfl) (fun x y h => (show V.evBody Z54.E Z54.con Tryz.f85 x = _ from Z54.eq x).trans (V.cfl (by kernel_rfl) h))
noncomputable abbrev Z0.con : V.Con := ⟨(.cons (.ptr (.cons (.sl (.cons (.int .u8) .nil)) (V.ci (V.ci .nil)))) (.cons (.sl (V.ci .nil)) (V.ci (.cons (.sl (V.ci .nil)) .nil)))), (.cons (.ptr (.cons (.sl (.cons (.int .u8) .nil)) (V.ci (V.ci .nil)))) (.cons (.sl (V.ci (V.ci .nil))) .nil)), fun (x : (Tl1Cur) × List Int × Int × List Int) => Z0 x.1 (x.2.1, x.2.2.1) x.2.2.2, [(0, false)], [(false, 1), (true, 2), (false, 1)], [(false, 1)], [true], []⟩
noncomputable abbrev Z0.E : V.Env := V.mkE V.tys [(27, Z5.con), (67, Z42.con), (84, Z28.con), (85, Z54.con)] [(5, [0, 7], [])] [] [] [] [(1, [1000])]
noncomputable abbrev Z0.kt (x0 : (Tl1Cur)) (x1 : TKeys) (x2 : List Int) : V.Kt ((Tl1Cur) × List TSig) := V.ktOf Z0.E Z0.con Tryz.f54 ((x0, x1.1, x1.2, x2) : (Tl1Cur) × List Int × Int × List Int)
noncomputable abbrev Z0.s5 (x0 : (Tl1Cur)) (v5_1 : Int) (v5_2 : Int) (v5_3 : List TSig) : V.St := ⟨[(0, .v false [.ptr 0 0]), (7, .v false [.ref 64000032000448])], [(0, .box [.val (.sl (.cons (.int .u8) .nil) x0.1), .vi (v5_1), .vi (v5_2)]), (64000032000448, .row (V.ci (V.ci .nil)) true v5_3)]⟩
theorem Z0.r5 (x0 : (Tl1Cur)) (x1 : TKeys) (x2 : List Int) (v5_1 : Int) (v5_2 : Int) (v5_3 : List TSig) : V.joinF Z0.E Tryz.f54.ntmps [1] [] (V.codeOf Tryz.f54) (Z0.kt x0 x1 x2) (Z0.s5 x0 v5_1 v5_2 v5_3) = Z0.g5 x0 v5_1 v5_2 v5_3 := by kernel_rfl
theorem Z0.e5 (x0 : (Tl1Cur)) (x1 : TKeys) (x2 : List Int) (v5_1 : Int) (v5_2 : Int) (v5_3 : List TSig) : V.jn (V.joinF Z0.E Tryz.f54.ntmps [1] [] (V.codeOf Tryz.f54) (Z0.kt x0 x1 x2)) (Z0.s5 x0 v5_1 v5_2 v5_3) = Z0.l5 x0 v5_1 v5_2 v5_3 := by
 rw [V.jn_eq, Z0.r5]
 rfl
theorem Z0.v (x0 : (Tl1Cur)) (x1 : TKeys) (x2 : List Int) : V.evBody Z0.E Z0.con Tryz.f54 ((x0, x1.1, x1.2, x2) : (Tl1Cur) × List Int × Int × List Int) = Z0.b x0 x1 x2 (fun v5_1 v5_2 v5_3 => V.jn (V.joinF Z0.E Tryz.f54.ntmps [1] [] (V.codeOf Tryz.f54) (Z0.kt x0 x1 x2)) (Z0.s5 x0 v5_1 v5_2 v5_3)) := by kernel_rfl
theorem Z0.eq (x0 : (Tl1Cur)) (x1 : TKeys) (x2 : List Int) : V.evBody Z0.E Z0.con Tryz.f54 ((x0, x1.1, x1.2, x2) : (Tl1Cur) × List Int × Int × List Int) = Z0 x0 x1 x2 := by
 rw [Z0.v]
 simp only [Z0.e5]
 rfl
theorem Z0.ok : V.Valid Tryz.prog 54 Z0.con :=
 V.fo (V.tab_cons Z5.ok (V.tab_cons Z42.ok (V.tab_cons Z28.ok (V.tab_cons Z54.ok V.tab_nil)))) Tryz.func54 (by kernel_rfl) (fun x y h => (show V.evBody Z0.E Z0.con Tryz.f54 x = _ from Z0.eq x.1 (x.2.1, x.2.2.1) x.2.2.2).trans (V.cfl (by kernel_rfl) h))
noncomputable abbrev Z153.con : V.Con := ⟨(.cons (.ptr (.cons (.sl (.cons (.int .u8) .nil)) (V.ci (V.ci .nil)))) .nil), (.cons (.ptr (.cons (.sl (.cons (.int .u8) .nil)) (V.ci (V.ci .nil)))) (V.ci (V.ci (V.ci (V.ci (V.ci (V.ci (V.ci (V.ci (.cons (.sl (V.ci .nil)) (V.ci (.cons (.sl (V.ci .nil)) (V.ci (V.ci (.cons (.sl (V.ci .nil)) (V.ci (.cons .bool (.cons (.sl (V.ci (V.ci .nil))) .nil)))))))))))))))))), fun (x : (Tl1Cur)) => Z153 x, [(0, false)], [(false, 1)], [(true, 17)], [false, false, false, false, false, false, false, false, true, false, true, false, false, true, false, false, true], []⟩
noncomputable abbrev Z153.E : V.Env := V.mkE V.tys [(27, Z5.con), (53, Z106.con), (54, Z0.con), (65, Z70.con), (79, Z68.con), (93, Z21.con)] [] [(6, 7)] [] [] []
theorem Z153.eq (x0 : (Tl1Cur)) : V.evBody Z153.E Z153.con Tryz.f68 ((x0) : (Tl1Cur)) = Z153 x0 := by kernel_rfl
theorem Z153.ok : V.Valid Tryz.prog 68 Z153.con :=
 V.fo (V.tab_cons Z5.ok (V.tab_cons Z106.ok (V.tab_cons Z0.ok (V.tab_cons Z70.ok (V.tab_cons Z68.ok (V.tab_cons Z21.ok V.tab_nil)))))) Tryz.func68 (by kernel_rfl) (fun x y h => (show V.evBody Z153.E Z153.con Tryz.f68 x = _ from Z153.eq x).trans (V.cfl (by kernel_rfl) h))
noncomputable abbrev Z110.con : V.Con := ⟨(.cons (.ptr (.cons (.sl (.cons (.int .u8) .nil)) (V.ci (V.ci .nil)))) .nil), (.cons (.ptr (.cons (.sl (.cons (.int .u8) .nil)) (V.ci (V.ci .nil)))) (.cons (.sl V.eSigned) .nil)), fun (x : (Tl1Cur)) => Z110 x, [(0, false)], [(false, 1)], [(false, 1)], [true], []⟩
noncomputable abbrev Z110.E : V.Env := V.mkE V.tys [(27, Z5.con), (60, Z45.con), (68, Z153.con)] [] [] [] [] []
theorem Z110.eq (x0 : (Tl1Cur)) : V.evBody Z110.E Z110.con Tryz.f29 ((x0) : (Tl1Cur)) = Z110 x0 := by kernel_rfl
theorem Z110.ok : V.Valid Tryz.prog 29 Z110.con :=
 V.fo (V.tab_cons Z5.ok (V.tab_cons Z45.ok (V.tab_cons Z153.ok V.tab_nil))) Tryz.func29 (by kernel_rfl) (fun x y h => (show V.evBody Z110.E Z110.con Tryz.f29 x = _ from Z110.eq x).trans (V.cfl (by kernel_rfl) h))
noncomputable abbrev Z143.con : V.Con := ⟨(.cons (.sl (.cons (.int .u8) .nil)) .nil), (V.ci (.cons (.sl (V.ci (V.ci (V.ci .nil)))) (.cons (.sl V.eSigned) .nil))), fun (x : List Int) => Z143 x, [], [(false, 1)], [(true, 2), (false, 1)], [false, true, false], []⟩
noncomputable abbrev Z143.E : V.Env := V.mkE V.tys [(24, Z12.con), (25, Z8.con), (26, Z14.con), (27, Z5.con), (28, Z53.con), (29, Z110.con)] [] [] [] [] [(8, [1000])]
theorem Z143.eq (x0 : List Int) : V.evBody Z143.E Z143.con Tryz.f5 ((x0) : List Int) = Z143 x0 := by kernel_rfl
theorem Z143.ok : V.Valid Tryz.prog 5 Z143.con :=
 V.fo (V.tab_cons Z12.ok (V.tab_cons Z8.ok (V.tab_cons Z14.ok (V.tab_cons Z5.ok (V.tab_cons Z53.ok (V.tab_cons Z110.ok V.tab_nil)))))) Tryz.func5 (by kernel_rfl) (fun x y h => (show V.evBody Z143.E Z143.con Tryz.f5 x = _ from Z143.eq x).trans (V.cfl (by kernel_rfl) h))
noncomputable abbrev Z140.con : V.Con := ⟨(.cons (.sl (V.ci (V.ci (V.ci .nil)))) .nil), (.cons (.sl (V.ci (V.ci (V.ci .nil)))) .nil), fun (x : List TMark) => Z140 x, [], [(false, 1)], [(false, 1)], [true], []⟩
noncomputable abbrev Z140.E : V.Env := V.mkE V.tys [] [] [] [] [] []
theorem Z140.eq (x0 : List TMark) : V.evBody Z140.E Z140.con Tryz.f69 ((x0) : List TMark) = Z140 x0 := by kernel_rfl
theorem Z140.ok : V.Valid Tryz.prog 69 Z140.con :=
 V.fo V.tab_nil Tryz.func69 (by kernel_rfl) (fun x y h => (show V.evBody Z140.E Z140.con Tryz.f69 x = _ from Z140.eq x).trans (V.cfl (by kernel_rfl) h))
noncomputable abbrev Z128.con : V.Con := ⟨(V.ci (.cons (.sl (V.ci (V.ci (V.ci .nil)))) .nil)), (V.ci (.cons (.sl (V.ci (V.ci (V.ci .nil)))) .nil)), fun (x : Int × List TMark) => Z128 x, [], [(true, 2)], [(true, 2)], [false, true], []⟩
noncomputable abbrev Z128.E : V.Env := V.mkE V.tys [(69, Z140.con)] [] [(1, 5)] [] [] []
theorem Z128.eq (x0 : TWitness) : V.evBody Z128.E Z128.con Tryz.f30 ((x0.1, x0.2) : Int × List TMark) = Z128 x0 := by kernel_rfl
theorem Z128.ok : V.Valid Tryz.prog 30 Z128.con :=
 V.fo (V.tab_cons Z140.ok V.tab_nil) Tryz.func30 (by kernel_rfl) (fun x y h => (show V.evBody Z128.E Z128.con Tryz.f30 x = _ from Z128.eq x).trans (V.cfl (by kernel_rfl) h))
noncomputable abbrev Z74.con : V.Con := ⟨(V.ci (V.ci (V.ci .nil))), (.cons .bool .nil), fun (x : Int × Int × Int) => Z74 x.1 x.2.1 x.2.2, [], [(false, 1), (false, 1), (false, 1)], [(false, 1)], [false], []⟩
noncomputable abbrev Z74.E : V.Env := V.mkE V.tys [] [] [] [] [] []
theorem Z74.eq (x0 : Int) (x1 : Int) (x2 : Int) : V.evBody Z74.E Z74.con Tryz.f49 ((x0, x1, x2) : Int × Int × Int) = Z74 x0 x1 x2 := by kernel_rfl
theorem Z74.ok : V.Valid Tryz.prog 49 Z74.con :=
 V.fo V.tab_nil Tryz.func49 (by kernel_rfl) (fun x y h => (show V.evBody Z74.E Z74.con Tryz.f49 x = _ from Z74.eq x.1 x.2.1 x.2.2).trans (V.cfl (by kernel_rfl) h))
noncomputable abbrev Z102.con : V.Con := ⟨(V.ci .nil), (.cons .bool .nil), fun (x : Int) => Z102 x, [], [(false, 1)], [(false, 1)], [false], []⟩
noncomputable abbrev Z102.E : V.Env := V.mkE V.tys [(49, Z74.con)] [] [] [] [] []
theorem Z102.eq (x0 : Int) : V.evBody Z102.E Z102.con Tryz.f48 ((x0) : Int) = Z102 x0 := by kernel_rfl
theorem Z102.ok : V.Valid Tryz.prog 48 Z102.con :=
 V.fo (V.tab_cons Z74.ok V.tab_nil) Tryz.func48 (by kernel_rfl) (fun x y h => (show V.evBody Z102.E Z102.con Tryz.f48 x = _ from Z102.eq x).trans (V.cfl (by kernel_rfl) h))
noncomputable abbrev Z111.con : V.Con := ⟨(V.ci (V.ci (V.ci (V.ci (V.ci (V.ci .nil)))))), (.cons .bool .nil), fun (x : Int × Int × Int × Int × Int × Int) => Z111 (x.1, x.2.1, x.2.2.1) x.2.2.2, [], [(true, 3), (true, 3)], [(false, 1)], [false], []⟩
noncomputable abbrev Z111.E : V.Env := V.mkE V.tys [] [] [] [] [] []
theorem Z111.eq (x0 : TMark) (x1 : TMark) : V.evBody Z111.E Z111.con Tryz.f35 ((x0.1, x0.2.1, x0.2.2, x1.1, x1.2.1, x1.2.2) : Int × Int × Int × Int × Int × Int) = Z111 x0 x1 := by kernel_rfl
theorem Z111.ok : V.Valid Tryz.prog 35 Z111.con :=
 V.fo V.tab_nil Tryz.func35 (by kernel_rfl) (fun x y h => (show V.evBody Z111.E Z111.con Tryz.f35 x = _ from Z111.eq (x.1, x.2.1, x.2.2.1) x.2.2.2).trans (V.cfl (by kernel_rfl) h))
noncomputable abbrev Z64.con : V.Con := ⟨(.cons (.sl (V.ci (V.ci (V.ci .nil)))) (.cons (.fn 35 true (V.ci (V.ci (V.ci .nil))) .nil) .nil)), (V.ci .nil), fun (x : List TMark × (TMark) × (Unit)) => Z64 x.1 x.2, [], [(false, 1), (false, 1)], [(false, 1)], [false], []⟩
noncomputable abbrev Z64.E : V.Env := V.mkE V.tys [(35, Z111.con)] [(4, [0, 1, 7, 8], [])] [] [] [] []
noncomputable abbrev Z64.kt (x0 : List TMark) (x1 : (TMark) × (Unit)) : V.Kt Int := V.ktOf Z64.E Z64.con Tryz.f71 ((x0, x1) : List TMark × (TMark) × (Unit))
noncomputable abbrev Z64.s4 (x0 : List TMark) (x1 : (TMark) × (Unit)) (v4_2 : Int) (v4_3 : Int) : V.St := ⟨[(0, .v false [.val (.sl (V.ci (V.ci (V.ci .nil))) x0)]), (1, .v false [.val (.fn 35 true (V.ci (V.ci (V.ci .nil))) .nil x1.1 ())]), (7, .v false [.vi (v4_2)]), (8, .v false [.vi (v4_3)])], []⟩
theorem Z64.r4 (x0 : List TMark) (x1 : (TMark) × (Unit)) (R : V.St → Option Int) (v4_2 : Int) (v4_3 : Int) : V.loopF Z64.E Tryz.f71.ntmps [1, 0, 1, 0] [] (V.codeOf Tryz.f71) (Z64.kt x0 x1) R (Z64.s4 x0 x1 v4_2 v4_3) = Z64.g4 x0 x1 (fun v4_2 v4_3 => R (Z64.s4 x0 x1 v4_2 v4_3)) v4_2 v4_3 := by kernel_rfl
theorem Z64.e4 (x0 : List TMark) (x1 : (TMark) × (Unit)) : ∀ (n : Nat) (v4_2 : Int) (v4_3 : Int), V.loopN (V.loopF Z64.E Tryz.f71.ntmps [1, 0, 1, 0] [] (V.codeOf Tryz.f71) (Z64.kt x0 x1)) n (Z64.s4 x0 x1 v4_2 v4_3) = Z64.l4 x0 x1 n v4_2 v4_3 := by
 intro n
 induction n with
 | zero => intros; rw [V.loopN_z]; rfl
 | succ n ih =>
   intro v4_2 v4_3
   rw [V.loopN_s, Z64.r4]
   simp only [ih]
   first | exact (Z64.u4 ..).symm | rfl
theorem Z64.v (x0 : List TMark) (x1 : (TMark) × (Unit)) : V.evBody Z64.E Z64.con Tryz.f71 ((x0, x1) : List TMark × (TMark) × (Unit)) = Z64.b x0 x1 (fun v4_2 v4_3 => V.loopN (V.loopF Z64.E Tryz.f71.ntmps [1, 0, 1, 0] [] (V.codeOf Tryz.f71) (Z64.kt x0 x1)) V.KK (Z64.s4 x0 x1 v4_2 v4_3)) := by kernel_rfl
theorem Z64.eq (x0 : List TMark) (x1 : (TMark) × (Unit)) : V.evBody Z64.E Z64.con Tryz.f71 ((x0, x1) : List TMark × (TMark) × (Unit)) = Z64 x0 x1 := by
 rw [Z64.v]
 simp only [Z64.e4]
 rfl
theorem Z64.ok : V.Valid Tryz.prog 71 Z64.con :=
 V.fo (V.tab_cons Z111.ok V.tab_nil) Tryz.func71 (by kernel_rfl) (fun x y h => (show V.evBody Z64.E Z64.con Tryz.f71 x = _ from Z64.eq x.1 x.2).trans (V.cfl (by kernel_rfl) h))
noncomputable abbrev Z115.con : V.Con := ⟨(.cons (.sl (V.ci (V.ci (V.ci .nil)))) (.cons (.fn 35 true (V.ci (V.ci (V.ci .nil))) .nil) .nil)), (.cons .bool .nil), fun (x : List TMark × (TMark) × (Unit)) => Z115 x.1 x.2, [], [(false, 1), (false, 1)], [(false, 1)], [false], []⟩
noncomputable abbrev Z115.E : V.Env := V.mkE V.tys [(71, Z64.con)] [] [] [] [] []
theorem Z115.eq (x0 : List TMark) (x1 : (TMark) × (Unit)) : V.evBody Z115.E Z115.con Tryz.f32 ((x0, x1) : List TMark × (TMark) × (Unit)) = Z115 x0 x1 := by kernel_rfl
theorem Z115.ok : V.Valid Tryz.prog 32 Z115.con :=
 V.fo (V.tab_cons Z64.ok V.tab_nil) Tryz.func32 (by kernel_rfl) (fun x y h => (show V.evBody Z115.E Z115.con Tryz.f32 x = _ from Z115.eq x.1 x.2).trans (V.cfl (by kernel_rfl) h))
noncomputable abbrev Z99.con : V.Con := ⟨(V.ci .nil), (.cons .bool .nil), fun (x : Int) => Z99 x, [], [(false, 1)], [(false, 1)], [false], []⟩
noncomputable abbrev Z99.E : V.Env := V.mkE V.tys [(49, Z74.con)] [] [] [] [] []
theorem Z99.eq (x0 : Int) : V.evBody Z99.E Z99.con Tryz.f50 ((x0) : Int) = Z99 x0 := by kernel_rfl
theorem Z99.ok : V.Valid Tryz.prog 50 Z99.con :=
 V.fo (V.tab_cons Z74.ok V.tab_nil) Tryz.func50 (by kernel_rfl) (fun x y h => (show V.evBody Z99.E Z99.con Tryz.f50 x = _ from Z99.eq x).trans (V.cfl (by kernel_rfl) h))
noncomputable abbrev Z31.con : V.Con := ⟨(V.ci (.cons (.sl (V.ci (V.ci (V.ci .nil)))) .nil)), (.cons .bool .nil), fun (x : Int × List TMark) => Z31 x, [], [(true, 2)], [(false, 1)], [false], []⟩
noncomputable abbrev Z31.E : V.Env := V.mkE V.tys [(32, Z115.con), (48, Z102.con), (49, Z74.con), (50, Z99.con)] [(4, [1, 6, 7, 8], [])] [(4, 23)] [] [] []
noncomputable abbrev Z31.kt (x0 : TWitness) : V.Kt Bool := V.ktOf Z31.E Z31.con Tryz.f11 ((x0.1, x0.2) : Int × List TMark)
noncomputable abbrev Z31.s4 (x0 : TWitness) (v4_1 : Int) (v4_2 : Int) : V.St := ⟨[(1, .v false [.ptr 64000 0]), (6, .v false [.val (.sl (V.ci (V.ci (V.ci .nil))) x0.2)]), (7, .v false [.vi (v4_1)]), (8, .v false [.vi (v4_2)])], [(64000, .box [.vi (x0.1), .val (.sl (V.ci (V.ci (V.ci .nil))) x0.2)])]⟩
theorem Z31.r4 (x0 : TWitness) (R : V.St → Option Bool) (v4_1 : Int) (v4_2 : Int) : V.loopF Z31.E Tryz.f11.ntmps [1, 0, 1, 0] [] (V.codeOf Tryz.f11) (Z31.kt x0) R (Z31.s4 x0 v4_1 v4_2) = Z31.g4 x0 (fun v4_1 v4_2 => R (Z31.s4 x0 v4_1 v4_2)) v4_1 v4_2 := by kernel_rfl
theorem Z31.e4 (x0 : TWitness) : ∀ (n : Nat) (v4_1 : Int) (v4_2 : Int), V.loopN (V.loopF Z31.E Tryz.f11.ntmps [1, 0, 1, 0] [] (V.codeOf Tryz.f11) (Z31.kt x0)) n (Z31.s4 x0 v4_1 v4_2) = Z31.l4 x0 n v4_1 v4_2 := by
 intro n
 induction n with
 | zero => intros; rw [V.loopN_z]; rfl
 | succ n ih =>
   intro v4_1 v4_2
   rw [V.loopN_s, Z31.r4]
   simp only [ih]
   first | exact (Z31.u4 ..).symm | rfl
theorem Z31.v (x0 : TWitness) : V.evBody Z31.E Z31.con Tryz.f11 ((x0.1, x0.2) : Int × List TMark) = Z31.b x0 (fun v4_1 v4_2 => V.loopN (V.loopF Z31.E Tryz.f11.ntmps [1, 0, 1, 0] [] (V.codeOf Tryz.f11) (Z31.kt x0)) V.KK (Z31.s4 x0 v4_1 v4_2)) := by kernel_rfl
theorem Z31.eq (x0 : TWitness) : V.evBody Z31.E Z31.con Tryz.f11 ((x0.1, x0.2) : Int × List TMark) = Z31 x0 := by
 rw [Z31.v]
 simp only [Z31.e4]
 rfl
theorem Z31.ok : V.Valid Tryz.prog 11 Z31.con :=
 V.fo (V.tab_cons Z115.ok (V.tab_cons Z102.ok (V.tab_cons Z74.ok (V.tab_cons Z99.ok V.tab_nil)))) Tryz.func11 (by kernel_rfl) (fun x y h => (show V.evBody Z31.E Z31.con Tryz.f11 x = _ from Z31.eq x).trans (V.cfl (by kernel_rfl) h))
noncomputable abbrev Z93.con : V.Con := ⟨V.A0, (.cons .bool .nil), fun (x : V.D0) => Z93 (V.p0_0 x), [], [(true, 16)], [(false, 1)], [false], []⟩
noncomputable abbrev Z93.E : V.Env := V.mkE V.tys [] [] [] [] [] []
noncomputable abbrev Z93.kt (x0 : THead) : V.Kt Bool := V.ktOf Z93.E Z93.con Tryz.f143 (V.fl0 x0)
noncomputable abbrev Z93.s (x0 : THead) : V.St := ⟨[(0, .v true (V.lsHead x0))], []⟩
theorem Z93.v0 (x0 : THead) : V.evBody Z93.E Z93.con Tryz.f143 (V.fl0 x0) = V.evC Z93.E Tryz.f143.ntmps (V.codeOf Tryz.f143) (Z93.kt x0) (Z93.s x0) := by kernel_rfl
theorem Z93.v (x0 : THead) : V.evC Z93.E Tryz.f143.ntmps (V.codeOf Tryz.f143) (Z93.kt x0) (Z93.s x0) = Z93 x0 := by kernel_rfl
theorem Z93.eq (x0 : THead) : V.evBody Z93.E Z93.con Tryz.f143 (V.fl0 x0) = Z93 x0 := (Z93.v0 x0).trans (Z93.v x0)
theorem Z93.ok : V.Valid Tryz.prog 143 Z93.con :=
 V.fo V.tab_nil Tryz.func143 (by kernel_rfl) (fun x y h => (show V.evBody Z93.E Z93.con Tryz.f143 x = _ from Z93.eq (V.p0_0 x)).trans (V.cfl (by kernel_rfl) h))
noncomputable abbrev Z48.con : V.Con := ⟨(.cons (.sl (V.ci .nil)) .nil), (.cons .bool .nil), fun (x : List Int) => Z48 x, [], [(false, 1)], [(false, 1)], [false], []⟩
noncomputable abbrev Z48.E : V.Env := V.mkE V.tys [] [(4, [0, 5, 6], [])] [(4, 12)] [] [] []
noncomputable abbrev Z48.kt (x0 : List Int) : V.Kt Bool := V.ktOf Z48.E Z48.con Tryz.f81 ((x0) : List Int)
noncomputable abbrev Z48.s4 (x0 : List Int) (v4_1 : Int) (v4_2 : Int) : V.St := ⟨[(0, .v false [.val (.sl (V.ci .nil) x0)]), (5, .v false [.vi (v4_1)]), (6, .v false [.vi (v4_2)])], []⟩
theorem Z48.r4 (x0 : List Int) (R : V.St → Option Bool) (v4_1 : Int) (v4_2 : Int) : V.loopF Z48.E Tryz.f81.ntmps [1, 0, 1, 0] [] (V.codeOf Tryz.f81) (Z48.kt x0) R (Z48.s4 x0 v4_1 v4_2) = Z48.g4 x0 (fun v4_1 v4_2 => R (Z48.s4 x0 v4_1 v4_2)) v4_1 v4_2 := by kernel_rfl
theorem Z48.e4 (x0 : List Int) : ∀ (n : Nat) (v4_1 : Int) (v4_2 : Int), V.loopN (V.loopF Z48.E Tryz.f81.ntmps [1, 0, 1, 0] [] (V.codeOf Tryz.f81) (Z48.kt x0)) n (Z48.s4 x0 v4_1 v4_2) = Z48.l4 x0 n v4_1 v4_2 := by
 intro n
 induction n with
 | zero => intros; rw [V.loopN_z]; rfl
 | succ n ih =>
   intro v4_1 v4_2
   rw [V.loopN_s, Z48.r4]
   simp only [ih]
   first | exact (Z48.u4 ..).symm | rfl
theorem Z48.v (x0 : List Int) : V.evBody Z48.E Z48.con Tryz.f81 ((x0) : List Int) = Z48.b x0 (fun v4_1 v4_2 => V.loopN (V.loopF Z48.E Tryz.f81.ntmps [1, 0, 1, 0] [] (V.codeOf Tryz.f81) (Z48.kt x0)) V.KK (Z48.s4 x0 v4_1 v4_2)) := by kernel_rfl
theorem Z48.eq (x0 : List Int) : V.evBody Z48.E Z48.con Tryz.f81 ((x0) : List Int) = Z48 x0 := by
 rw [Z48.v]
 simp only [Z48.e4]
 rfl
theorem Z48.ok : V.Valid Tryz.prog 81 Z48.con :=
 V.fo V.tab_nil Tryz.func81 (by kernel_rfl) (fun x y h => (show V.evBody Z48.E Z48.con Tryz.f81 x = _ from Z48.eq x).trans (V.cfl (by kernel_rfl) h))
noncomputable abbrev Z96.con : V.Con := ⟨(.cons (.sl (V.ci .nil)) (V.ci .nil)), (.cons .bool .nil), fun (x : List Int × Int) => Z96 x, [], [(true, 2)], [(false, 1)], [false], []⟩
noncomputable abbrev Z96.E : V.Env := V.mkE V.tys [(49, Z74.con), (50, Z99.con), (81, Z48.con)] [] [] [] [] []
theorem Z96.eq (x0 : TKeys) : V.evBody Z96.E Z96.con Tryz.f51 ((x0.1, x0.2) : List Int × Int) = Z96 x0 := by kernel_rfl
theorem Z96.ok : V.Valid Tryz.prog 51 Z96.con :=
 V.fo (V.tab_cons Z74.ok (V.tab_cons Z99.ok (V.tab_cons Z48.ok V.tab_nil))) Tryz.func51 (by kernel_rfl) (fun x y h => (show V.evBody Z96.E Z96.con Tryz.f51 x = _ from Z96.eq x).trans (V.cfl (by kernel_rfl) h))
noncomputable abbrev Z94.con : V.Con := ⟨(.cons (.sl (V.ci .nil)) (V.ci .nil)), (.cons .bool .nil), fun (x : List Int × Int) => Z94 x, [], [(true, 2)], [(false, 1)], [false], []⟩
noncomputable abbrev Z94.E : V.Env := V.mkE V.tys [] [] [] [] [] []
theorem Z94.eq (x0 : TKeys) : V.evBody Z94.E Z94.con Tryz.f146 ((x0.1, x0.2) : List Int × Int) = Z94 x0 := by kernel_rfl
theorem Z94.ok : V.Valid Tryz.prog 146 Z94.con :=
 V.fo V.tab_nil Tryz.func146 (by kernel_rfl) (fun x y h => (show V.evBody Z94.E Z94.con Tryz.f146 x = _ from Z94.eq x).trans (V.cfl (by kernel_rfl) h))
noncomputable abbrev Z139.con : V.Con := ⟨(.cons (.sl (V.ci .nil)) (V.ci .nil)), (.cons .bool .nil), fun (x : List Int × Int) => Z139 x, [], [(true, 2)], [(false, 1)], [false], []⟩
noncomputable abbrev Z139.E : V.Env := V.mkE V.tys [(51, Z96.con), (146, Z94.con)] [] [] [] [] []
theorem Z139.eq (x0 : TKeys) : V.evBody Z139.E Z139.con Tryz.f144 ((x0.1, x0.2) : List Int × Int) = Z139 x0 := by kernel_rfl
theorem Z139.ok : V.Valid Tryz.prog 144 Z139.con :=
 V.fo (V.tab_cons Z96.ok (V.tab_cons Z94.ok V.tab_nil)) Tryz.func144 (by kernel_rfl) (fun x y h => (show V.evBody Z139.E Z139.con Tryz.f144 x = _ from Z139.eq x).trans (V.cfl (by kernel_rfl) h))
noncomputable abbrev Z157.con : V.Con := ⟨(V.ci (.cons (.sl (V.ci .nil)) (V.ci .nil))), (.cons .bool .nil), fun (x : Int × List Int × Int) => Z157 x.1 x.2, [], [(false, 1), (true, 2)], [(false, 1)], [false], []⟩
noncomputable abbrev Z157.E : V.Env := V.mkE V.tys [(49, Z74.con), (146, Z94.con)] [] [] [] [] []
theorem Z157.eq (x0 : Int) (x1 : TKeys) : V.evBody Z157.E Z157.con Tryz.f145 ((x0, x1.1, x1.2) : Int × List Int × Int) = Z157 x0 x1 := by kernel_rfl
theorem Z157.ok : V.Valid Tryz.prog 145 Z157.con :=
 V.fo (V.tab_cons Z74.ok (V.tab_cons Z94.ok V.tab_nil)) Tryz.func145 (by kernel_rfl) (fun x y h => (show V.evBody Z157.E Z157.con Tryz.f145 x = _ from Z157.eq x.1 x.2).trans (V.cfl (by kernel_rfl) h))
noncomputable abbrev Z76.con : V.Con := ⟨V.A0, (.cons .bool .nil), fun (x : V.D0) => Z76 (V.p0_0 x), [], [(true, 16)], [(false, 1)], [false], []⟩
noncomputable abbrev Z76.E : V.Env := V.mkE V.tys [(48, Z102.con), (49, Z74.con), (51, Z96.con), (143, Z93.con), (144, Z139.con), (145, Z157.con), (146, Z94.con)] [] [] [] [] []
noncomputable abbrev Z76.kt (x0 : THead) : V.Kt Bool := V.ktOf Z76.E Z76.con Tryz.f123 (V.fl0 x0)
noncomputable abbrev Z76.s (x0 : THead) : V.St := ⟨[(0, .v true (V.lsHead x0))], []⟩
theorem Z76.v0 (x0 : THead) : V.evBody Z76.E Z76.con Tryz.f123 (V.fl0 x0) = V.evC Z76.E Tryz.f123.ntmps (V.codeOf Tryz.f123) (Z76.kt x0) (Z76.s x0) := by kernel_rfl
theorem Z76.v (x0 : THead) : V.evC Z76.E Tryz.f123.ntmps (V.codeOf Tryz.f123) (Z76.kt x0) (Z76.s x0) = Z76 x0 := by kernel_rfl
theorem Z76.eq (x0 : THead) : V.evBody Z76.E Z76.con Tryz.f123 (V.fl0 x0) = Z76 x0 := (Z76.v0 x0).trans (Z76.v x0)
theorem Z76.ok : V.Valid Tryz.prog 123 Z76.con :=
 V.fo (V.tab_cons Z102.ok (V.tab_cons Z74.ok (V.tab_cons Z96.ok (V.tab_cons Z93.ok (V.tab_cons Z139.ok (V.tab_cons Z157.ok (V.tab_cons Z94.ok V.tab_nil))))))) Tryz.func123 (by kernel_rfl) (fun x y h => (show V.evBody Z76.E Z76.con Tryz.f123 x = _ from Z76.eq (V.p0_0 x)).trans (V.cfl (by kernel_rfl) h))
noncomputable abbrev Z97.con : V.Con := ⟨(.cons (.sl (V.ci .nil)) (V.ci .nil)), (.cons (.sl (V.ci .nil)) .nil), fun (x : List Int × Int) => Z97 x, [], [(true, 2)], [(false, 1)], [true], []⟩
noncomputable abbrev Z97.E : V.Env := V.mkE V.tys [] [] [] [] [] []
theorem Z97.eq (x0 : TKeys) : V.evBody Z97.E Z97.con Tryz.f109 ((x0.1, x0.2) : List Int × Int) = Z97 x0 := by kernel_rfl
theorem Z97.ok : V.Valid Tryz.prog 109 Z97.con :=
 V.fo V.tab_nil Tryz.func109 (by kernel_rfl) (fun x y h => (show V.evBody Z97.E Z97.con Tryz.f109 x = _ from Z97.eq x).trans (V.cfl (by kernel_rfl) h))
noncomputable abbrev Z123.con : V.Con := ⟨(V.ci (V.ci .nil)), (V.ci .nil), fun (x : Int × Int) => Z123 x.1 x.2, [], [(false, 1), (false, 1)], [(false, 1)], [false], []⟩
noncomputable abbrev Z123.E : V.Env := V.mkE V.tys [(49, Z74.con)] [] [] [] [] []
theorem Z123.eq (x0 : Int) (x1 : Int) : V.evBody Z123.E Z123.con Tryz.f108 ((x0, x1) : Int × Int) = Z123 x0 x1 := by kernel_rfl
theorem Z123.ok : V.Valid Tryz.prog 108 Z123.con :=
 V.fo (V.tab_cons Z74.ok V.tab_nil) Tryz.func108 (by kernel_rfl) (fun x y h => (show V.evBody Z123.E Z123.con Tryz.f108 x = _ from Z123.eq x.1 x.2).trans (V.cfl (by kernel_rfl) h))
noncomputable abbrev Z25.con : V.Con := ⟨(.cons (.sl (V.ci .nil)) .nil), (V.ci .nil), fun (x : List Int) => Z25 x, [], [(false, 1)], [(false, 1)], [false], []⟩
noncomputable abbrev Z25.E : V.Env := V.mkE V.tys [(108, Z123.con)] [(6, [3, 6, 7, 8], [])] [] [] [] []
noncomputable abbrev Z25.kt (x0 : List Int) : V.Kt Int := V.ktOf Z25.E Z25.con Tryz.f90 ((x0) : List Int)
noncomputable abbrev Z25.s6 (x0 : List Int) (v6_0 : Int) (v6_2 : Int) (v6_3 : Int) : V.St := ⟨[(3, .v false [.vi (v6_0)]), (6, .v false [.val (.sl (V.ci .nil) x0)]), (7, .v false [.vi (v6_2)]), (8, .v false [.vi (v6_3)])], []⟩
theorem Z25.r6 (x0 : List Int) (R : V.St → Option Int) (v6_0 : Int) (v6_2 : Int) (v6_3 : Int) : V.loopF Z25.E Tryz.f90.ntmps [1, 1, 0, 1, 0] [] (V.codeOf Tryz.f90) (Z25.kt x0) R (Z25.s6 x0 v6_0 v6_2 v6_3) = Z25.g6 x0 (fun v6_0 v6_2 v6_3 => R (Z25.s6 x0 v6_0 v6_2 v6_3)) v6_0 v6_2 v6_3 := by kernel_rfl
theorem Z25.e6 (x0 : List Int) : ∀ (n : Nat) (v6_0 : Int) (v6_2 : Int) (v6_3 : Int), V.loopN (V.loopF Z25.E Tryz.f90.ntmps [1, 1, 0, 1, 0] [] (V.codeOf Tryz.f90) (Z25.kt x0)) n (Z25.s6 x0 v6_0 v6_2 v6_3) = Z25.l6 x0 n v6_0 v6_2 v6_3 := by
 intro n
 induction n with
 | zero => intros; rw [V.loopN_z]; rfl
 | succ n ih =>
   intro v6_0 v6_2 v6_3
   rw [V.loopN_s, Z25.r6]
   simp only [ih]
   first | exact (Z25.u6 ..).symm | rfl
theorem Z25.v (x0 : List Int) : V.evBody Z25.E Z25.con Tryz.f90 ((x0) : List Int) = Z25.b x0 (fun v6_0 v6_2 v6_3 => V.loopN (V.loopF Z25.E Tryz.f90.ntmps [1, 1, 0, 1, 0] [] (V.codeOf Tryz.f90) (Z25.kt x0)) V.KK (Z25.s6 x0 v6_0 v6_2 v6_3)) := by kernel_rfl
theorem Z25.eq (x0 : List Int) : V.evBody Z25.E Z25.con Tryz.f90 ((x0) : List Int) = Z25 x0 := by
 rw [Z25.v]
 simp only [Z25.e6]
 rfl
theorem Z25.ok : V.Valid Tryz.prog 90 Z25.con :=
 V.fo (V.tab_cons Z123.ok V.tab_nil) Tryz.func90 (by kernel_rfl) (fun x y h => (show V.evBody Z25.E Z25.con Tryz.f90 x = _ from Z25.eq x).trans (V.cfl (by kernel_rfl) h))
noncomputable abbrev Z137.con : V.Con := ⟨(.cons (.sl (V.ci .nil)) (V.ci (V.ci .nil))), (V.ci .nil), fun (x : List Int × Int × Int) => Z137 (x.1, x.2.1) x.2.2, [], [(true, 2), (false, 1)], [(false, 1)], [false], []⟩
noncomputable abbrev Z137.E : V.Env := V.mkE V.tys [(90, Z25.con), (109, Z97.con)] [] [] [] [] []
theorem Z137.eq (x0 : TKeys) (x1 : Int) : V.evBody Z137.E Z137.con Tryz.f124 ((x0.1, x0.2, x1) : List Int × Int × Int) = Z137 x0 x1 := by kernel_rfl
theorem Z137.ok : V.Valid Tryz.prog 124 Z137.con :=
 V.fo (V.tab_cons Z25.ok (V.tab_cons Z97.ok V.tab_nil)) Tryz.func124 (by kernel_rfl) (fun x y h => (show V.evBody Z137.E Z137.con Tryz.f124 x = _ from Z137.eq (x.1, x.2.1) x.2.2).trans (V.cfl (by kernel_rfl) h))
noncomputable abbrev Z127.con : V.Con := ⟨(.cons .bool .nil), (V.ci .nil), fun (x : Bool) => Z127 x, [], [(false, 1)], [(false, 1)], [false], []⟩
noncomputable abbrev Z127.E : V.Env := V.mkE V.tys [] [] [] [] [] []
theorem Z127.eq (x0 : Bool) : V.evBody Z127.E Z127.con Tryz.f110 ((x0) : Bool) = Z127 x0 := by kernel_rfl
theorem Z127.ok : V.Valid Tryz.prog 110 Z127.con :=
 V.fo V.tab_nil Tryz.func110 (by kernel_rfl) (fun x y h => (show V.evBody Z127.E Z127.con Tryz.f110 x = _ from Z127.eq x).trans (V.cfl (by kernel_rfl) h))
noncomputable abbrev Z67.con : V.Con := ⟨(.cons (.sl (V.ci .nil)) (V.ci .nil)), (.cons (.sl (V.ci .nil)) .nil), fun (x : List Int × Int) => Z67 x.1 x.2, [], [(false, 1), (false, 1)], [(false, 1)], [true], [0]⟩
noncomputable abbrev Z67.E : V.Env := V.mkE V.tys [] [(7, [0, 1], [])] [] [] [] []
noncomputable abbrev Z67.kt (x0 : List Int) (x1 : Int) : V.Kt (List Int) := V.ktOf Z67.E Z67.con Tryz.f127 ((x0, x1) : List Int × Int)
noncomputable abbrev Z67.s7 (x1 : Int) : V.St := ⟨[(0, .v false [.nil0]), (1, .v false [.vi (x1)])], []⟩
theorem Z67.r7 (x0 : List Int) (x1 : Int) : V.joinF Z67.E Tryz.f127.ntmps [1] [] (V.codeOf Tryz.f127) (Z67.kt x0 x1) (Z67.s7 x1) = Z67.g7 x1 := by kernel_rfl
theorem Z67.e7 (x0 : List Int) (x1 : Int) : V.jn (V.joinF Z67.E Tryz.f127.ntmps [1] [] (V.codeOf Tryz.f127) (Z67.kt x0 x1)) (Z67.s7 x1) = Z67.l7 x1 := by
 rw [V.jn_eq, Z67.r7]
 rfl
theorem Z67.v (x0 : List Int) (x1 : Int) : V.evBody Z67.E Z67.con Tryz.f127 ((x0, x1) : List Int × Int) = Z67.b x0 x1 (V.jn (V.joinF Z67.E Tryz.f127.ntmps [1] [] (V.codeOf Tryz.f127) (Z67.kt x0 x1)) (Z67.s7 x1)) := by kernel_rfl
theorem Z67.eq (x0 : List Int) (x1 : Int) : V.evBody Z67.E Z67.con Tryz.f127 ((x0, x1) : List Int × Int) = Z67 x0 x1 := by
 rw [Z67.v]
 simp only [Z67.e7]
 rfl
theorem Z67.ok : V.Valid Tryz.prog 127 Z67.con :=
 V.fo V.tab_nil Tryz.func127 (by kernel_rfl) (fun x y h => (show V.evBody Z67.E Z67.con Tryz.f127 x = _ from Z67.eq x.1 x.2).trans (V.cfl (by kernel_rfl) h))
noncomputable abbrev Z11.con : V.Con := ⟨(.cons (.sl (.cons (.sl (V.ci .nil)) .nil)) .nil), (.cons (.sl (V.ci .nil)) .nil), fun (x : List (List Int)) => Z11 x, [], [(false, 1)], [(false, 1)], [true], []⟩
noncomputable abbrev Z11.E : V.Env := V.mkE V.tys [(127, Z67.con)] [(6, [0, 3, 9, 10, 11], []), (22, [6, 25, 26, 27], [])] [] [] [] []
noncomputable abbrev Z11.kt (x0 : List (List Int)) : V.Kt (List Int) := V.ktOf Z11.E Z11.con Tryz.f102 ((x0) : List (List Int))
noncomputable abbrev Z11.s22 (x0 : List (List Int)) (v22_1 : Int) (v22_2 : Int) (v22_3 : List Int) : V.St := ⟨[(6, .v false [.ref 64000140800384]), (25, .v false [.val (.sl (.cons (.sl (V.ci .nil)) .nil) x0)]), (26, .v false [.vi (v22_1)]), (27, .v false [.vi (v22_2)])], [(64000140800384, .row (V.ci .nil) true v22_3)]⟩
noncomputable abbrev Z11.s6 (x0 : List (List Int)) (v6_1 : Int) (v6_3 : Int) (v6_4 : Int) : V.St := ⟨[(0, .v false [.val (.sl (.cons (.sl (V.ci .nil)) .nil) x0)]), (3, .v false [.vi (v6_1)]), (9, .v false [.val (.sl (.cons (.sl (V.ci .nil)) .nil) x0)]), (10, .v false [.vi (v6_3)]), (11, .v false [.vi (v6_4)])], []⟩
theorem Z11.r22 (x0 : List (List Int)) (R : V.St → Option (List Int)) (v22_1 : Int) (v22_2 : Int) (v22_3 : List Int) : V.loopF Z11.E Tryz.f102.ntmps [1, 1, 1, 1, 0, 1, 0] [] (V.codeOf Tryz.f102) (Z11.kt x0) R (Z11.s22 x0 v22_1 v22_2 v22_3) = Z11.g22 x0 (fun v22_1 v22_2 v22_3 => R (Z11.s22 x0 v22_1 v22_2 v22_3)) v22_1 v22_2 v22_3 := by kernel_rfl
theorem Z11.e22 (x0 : List (List Int)) : ∀ (n : Nat) (v22_1 : Int) (v22_2 : Int) (v22_3 : List Int), V.loopN (V.loopF Z11.E Tryz.f102.ntmps [1, 1, 1, 1, 0, 1, 0] [] (V.codeOf Tryz.f102) (Z11.kt x0)) n (Z11.s22 x0 v22_1 v22_2 v22_3) = Z11.l22 x0 n v22_1 v22_2 v22_3 := by
 intro n
 induction n with
 | zero => intros; rw [V.loopN_z]; rfl
 | succ n ih =>
   intro v22_1 v22_2 v22_3
   rw [V.loopN_s, Z11.r22]
   simp only [ih]
   first | exact (Z11.u22 ..).symm | rfl
theorem Z11.r6 (x0 : List (List Int)) (R : V.St → Option (List Int)) (v6_1 : Int) (v6_3 : Int) (v6_4 : Int) : V.loopF Z11.E Tryz.f102.ntmps [1, 1, 0, 1, 0] [] (V.codeOf Tryz.f102) (Z11.kt x0) R (Z11.s6 x0 v6_1 v6_3 v6_4) = Z11.g6 x0 (fun v6_1 v6_3 v6_4 => R (Z11.s6 x0 v6_1 v6_3 v6_4)) (fun v22_1 v22_2 v22_3 => V.loopN (V.loopF Z11.E Tryz.f102.ntmps [1, 1, 1, 1, 0, 1, 0] [] (V.codeOf Tryz.f102) (Z11.kt x0)) V.KK (Z11.s22 x0 v22_1 v22_2 v22_3)) v6_1 v6_3 v6_4 := by kernel_rfl
theorem Z11.e6 (x0 : List (List Int)) : ∀ (n : Nat) (v6_1 : Int) (v6_3 : Int) (v6_4 : Int), V.loopN (V.loopF Z11.E Tryz.f102.ntmps [1, 1, 0, 1, 0] [] (V.codeOf Tryz.f102) (Z11.kt x0)) n (Z11.s6 x0 v6_1 v6_3 v6_4) = Z11.l6 x0 n v6_1 v6_3 v6_4 := by
 intro n
 induction n with
 | zero => intros; rw [V.loopN_z]; rfl
 | succ n ih =>
   intro v6_1 v6_3 v6_4
   rw [V.loopN_s, Z11.r6]
   simp only [Z11.e22, ih]
   first | exact (Z11.u6 ..).symm | rfl
theorem Z11.v (x0 : List (List Int)) : V.evBody Z11.E Z11.con Tryz.f102 ((x0) : List (List Int)) = Z11.b x0 (fun v6_1 v6_3 v6_4 => V.loopN (V.loopF Z11.E Tryz.f102.ntmps [1, 1, 0, 1, 0] [] (V.codeOf Tryz.f102) (Z11.kt x0)) V.KK (Z11.s6 x0 v6_1 v6_3 v6_4)) := by kernel_rfl
theorem Z11.eq (x0 : List (List Int)) : V.evBody Z11.E Z11.con Tryz.f102 ((x0) : List (List Int)) = Z11 x0 := by
 rw [Z11.v]
 simp only [Z11.e6]
 rfl
theorem Z11.ok : V.Valid Tryz.prog 102 Z11.con :=
 V.fo (V.tab_cons Z67.ok V.tab_nil) Tryz.func102 (by kernel_rfl) (fun x y h => (show V.evBody Z11.E Z11.con Tryz.f102 x = _ from Z11.eq x).trans (V.cfl (by kernel_rfl) h))
end Go.Proofs.YtkadeffepgcceabGreat
