/- That the functions compute it. -/
import Derived.Test.YtpiabcaiccnciaaGreatFnChainsPure0
import Derived.Test.YtpiabcaiccnciaaGreatProg
namespace Go.Proofs.YtpiabcaiccnciaaGreat
set_option linter.unusedVariables false
set_option maxRecDepth 100000
namespace V
abbrev eEntry : ETy := (.cons .str (.cons (.int .i64) (.cons (.int .i64) (.cons (.sl (.cons .str .nil)) .nil))))
abbrev eHead : ETy := (.cons (.int .i64) (.cons (.int .i64) (.cons (.int .i64) (.cons (.int .i64) (.cons (.int .i64) (.cons (.int .i64) (.cons (.int .i64) (.cons (.int .i64) (.cons (.sl (.cons (.int .i64) .nil)) (.cons (.int .i64) (.cons (.sl (.cons (.int .i64) .nil)) (.cons (.int .i64) (.cons (.int .i64) (.cons (.sl (.cons (.int .i64) .nil)) (.cons (.int .i64) (.cons .bool .nil))))))))))))))))
abbrev eRHeadBool : ETy := (.cons (.int .i64) (.cons (.int .i64) (.cons (.int .i64) (.cons (.int .i64) (.cons (.int .i64) (.cons (.int .i64) (.cons (.int .i64) (.cons (.int .i64) (.cons (.sl (.cons (.int .i64) .nil)) (.cons (.int .i64) (.cons (.sl (.cons (.int .i64) .nil)) (.cons (.int .i64) (.cons (.int .i64) (.cons (.sl (.cons (.int .i64) .nil)) (.cons (.int .i64) (.cons .bool (.cons .bool .nil)))))))))))))))))
abbrev eSigned : ETy := (.cons (.int .i64) (.cons (.int .i64) (.cons (.int .i64) (.cons (.int .i64) (.cons (.int .i64) (.cons (.int .i64) (.cons (.int .i64) (.cons (.int .i64) (.cons (.sl (.cons (.int .i64) .nil)) (.cons (.int .i64) (.cons (.sl (.cons (.int .i64) .nil)) (.cons (.int .i64) (.cons (.int .i64) (.cons (.sl (.cons (.int .i64) .nil)) (.cons (.int .i64) (.cons .bool (.cons (.sl (.cons (.int .i64) (.cons (.int .i64) .nil))) .nil)))))))))))))))))
abbrev eRListSigned : ETy := (.cons (.sl eSigned) (.cons (.int .i64) (.cons (.int .i64) (.cons (.int .i64) (.cons (.int .i64) (.cons (.int .i64) (.cons (.int .i64) (.cons (.int .i64) (.cons (.int .i64) (.cons (.sl (.cons (.int .i64) .nil)) (.cons (.int .i64) (.cons (.sl (.cons (.int .i64) .nil)) (.cons (.int .i64) (.cons (.int .i64) (.cons (.sl (.cons (.int .i64) .nil)) (.cons (.int .i64) (.cons .bool (.cons (.sl (.cons (.int .i64) (.cons (.int .i64) .nil))) .nil))))))))))))))))))
abbrev D0 : Type := Int × Int × Int × Int × Int × Int × Int × Int × List Int × Int × List Int × Int × Int × List Int × Int × Bool
abbrev A0 : ETy := eHead
abbrev fl0 (x0 : THead) : D0 := (x0.1, x0.2.1, x0.2.2.1, x0.2.2.2.1, x0.2.2.2.2.1, x0.2.2.2.2.2.1, x0.2.2.2.2.2.2.1, x0.2.2.2.2.2.2.2.1, x0.2.2.2.2.2.2.2.2.1, x0.2.2.2.2.2.2.2.2.2.1, x0.2.2.2.2.2.2.2.2.2.2.1, x0.2.2.2.2.2.2.2.2.2.2.2.1, x0.2.2.2.2.2.2.2.2.2.2.2.2.1, x0.2.2.2.2.2.2.2.2.2.2.2.2.2.1, x0.2.2.2.2.2.2.2.2.2.2.2.2.2.2.1, x0.2.2.2.2.2.2.2.2.2.2.2.2.2.2.2)
abbrev p0_0 (x : D0) : THead := x
abbrev D1 : Type := List Int × List Int × Int × Int × Int × Int × Int × Int × Int × Int × Int × List Int × Int × List Int × Int × Int × List Int × Int × Bool
abbrev A1 : ETy := (.cons (.sl (.cons (.int .i64) .nil)) (.cons (.sl (.cons (.int .i64) .nil)) (.cons (.int .i64) (.cons (.int .i64) (.cons (.int .i64) (.cons (.int .i64) (.cons (.int .i64) (.cons (.int .i64) (.cons (.int .i64) (.cons (.int .i64) (.cons (.int .i64) (.cons (.sl (.cons (.int .i64) .nil)) (.cons (.int .i64) (.cons (.sl (.cons (.int .i64) .nil)) (.cons (.int .i64) (.cons (.int .i64) (.cons (.sl (.cons (.int .i64) .nil)) (.cons (.int .i64) (.cons .bool .nil)))))))))))))))))))
abbrev fl1 (x0 : List Int) (x1 : TKeys) (x2 : THead) : D1 := (x0, x1.1, x1.2, x2.1, x2.2.1, x2.2.2.1, x2.2.2.2.1, x2.2.2.2.2.1, x2.2.2.2.2.2.1, x2.2.2.2.2.2.2.1, x2.2.2.2.2.2.2.2.1, x2.2.2.2.2.2.2.2.2.1, x2.2.2.2.2.2.2.2.2.2.1, x2.2.2.2.2.2.2.2.2.2.2.1, x2.2.2.2.2.2.2.2.2.2.2.2.1, x2.2.2.2.2.2.2.2.2.2.2.2.2.1, x2.2.2.2.2.2.2.2.2.2.2.2.2.2.1, x2.2.2.2.2.2.2.2.2.2.2.2.2.2.2.1, x2.2.2.2.2.2.2.2.2.2.2.2.2.2.2.2)
abbrev p1_0 (x : D1) : List Int := x.1
abbrev p1_1 (x : D1) : TKeys := (x.2.1, x.2.2.1)
abbrev p1_2 (x : D1) : THead := x.2.2.2
abbrev D2 : Type := (Tl1Cur) × Int × Int × Int × Int × Int × Int × Int × Int × List Int × Int × List Int × Int × Int × List Int × Int × Bool
abbrev A2 : ETy := (.cons (.ptr (.cons (.sl (.cons (.int .u8) .nil)) (.cons (.int .i64) (.cons (.int .i64) .nil)))) (.cons (.int .i64) (.cons (.int .i64) (.cons (.int .i64) (.cons (.int .i64) (.cons (.int .i64) (.cons (.int .i64) (.cons (.int .i64) (.cons (.int .i64) (.cons (.sl (.cons (.int .i64) .nil)) (.cons (.int .i64) (.cons (.sl (.cons (.int .i64) .nil)) (.cons (.int .i64) (.cons (.int .i64) (.cons (.sl (.cons (.int .i64) .nil)) (.cons (.int .i64) (.cons .bool .nil)))))))))))))))))
abbrev fl2 (x0 : (Tl1Cur)) (x1 : THead) : D2 := (x0, x1.1, x1.2.1, x1.2.2.1, x1.2.2.2.1, x1.2.2.2.2.1, x1.2.2.2.2.2.1, x1.2.2.2.2.2.2.1, x1.2.2.2.2.2.2.2.1, x1.2.2.2.2.2.2.2.2.1, x1.2.2.2.2.2.2.2.2.2.1, x1.2.2.2.2.2.2.2.2.2.2.1, x1.2.2.2.2.2.2.2.2.2.2.2.1, x1.2.2.2.2.2.2.2.2.2.2.2.2.1, x1.2.2.2.2.2.2.2.2.2.2.2.2.2.1, x1.2.2.2.2.2.2.2.2.2.2.2.2.2.2.1, x1.2.2.2.2.2.2.2.2.2.2.2.2.2.2.2)
abbrev p2_0 (x : D2) : (Tl1Cur) := x.1
abbrev p2_1 (x : D2) : THead := x.2
abbrev D3 : Type := Int × Int × Int × Int × Int × Int × Int × Int × List Int × Int × List Int × Int × Int × List Int × Int × Bool × List TSig
abbrev A3 : ETy := eSigned
abbrev fl3 (x0 : TSigned) : D3 := (x0.1, x0.2.1, x0.2.2.1, x0.2.2.2.1, x0.2.2.2.2.1, x0.2.2.2.2.2.1, x0.2.2.2.2.2.2.1, x0.2.2.2.2.2.2.2.1, x0.2.2.2.2.2.2.2.2.1, x0.2.2.2.2.2.2.2.2.2.1, x0.2.2.2.2.2.2.2.2.2.2.1, x0.2.2.2.2.2.2.2.2.2.2.2.1, x0.2.2.2.2.2.2.2.2.2.2.2.2.1, x0.2.2.2.2.2.2.2.2.2.2.2.2.2.1, x0.2.2.2.2.2.2.2.2.2.2.2.2.2.2.1, x0.2.2.2.2.2.2.2.2.2.2.2.2.2.2.2.1, x0.2.2.2.2.2.2.2.2.2.2.2.2.2.2.2.2)
abbrev p3_0 (x : D3) : TSigned := x
abbrev D4 : Type := Int × Int × Int × Int × Int × Int × Int × Int × List Int × Int × List Int × Int × Int × List Int × Int × Bool × Int × Int × Int × Int × Int × Int × Int × Int × List Int × Int × List Int × Int × Int × List Int × Int × Bool
abbrev A4 : ETy := (.cons (.int .i64) (.cons (.int .i64) (.cons (.int .i64) (.cons (.int .i64) (.cons (.int .i64) (.cons (.int .i64) (.cons (.int .i64) (.cons (.int .i64) (.cons (.sl (.cons (.int .i64) .nil)) (.cons (.int .i64) (.cons (.sl (.cons (.int .i64) .nil)) (.cons (.int .i64) (.cons (.int .i64) (.cons (.sl (.cons (.int .i64) .nil)) (.cons (.int .i64) (.cons .bool (.cons (.int .i64) (.cons (.int .i64) (.cons (.int .i64) (.cons (.int .i64) (.cons (.int .i64) (.cons (.int .i64) (.cons (.int .i64) (.cons (.int .i64) (.cons (.sl (.cons (.int .i64) .nil)) (.cons (.int .i64) (.cons (.sl (.cons (.int .i64) .nil)) (.cons (.int .i64) (.cons (.int .i64) (.cons (.sl (.cons (.int .i64) .nil)) (.cons (.int .i64) (.cons .bool .nil))))))))))))))))))))))))))))))))
abbrev fl4 (x0 : THead) (x1 : THead) : D4 := (x0.1, x0.2.1, x0.2.2.1, x0.2.2.2.1, x0.2.2.2.2.1, x0.2.2.2.2.2.1, x0.2.2.2.2.2.2.1, x0.2.2.2.2.2.2.2.1, x0.2.2.2.2.2.2.2.2.1, x0.2.2.2.2.2.2.2.2.2.1, x0.2.2.2.2.2.2.2.2.2.2.1, x0.2.2.2.2.2.2.2.2.2.2.2.1, x0.2.2.2.2.2.2.2.2.2.2.2.2.1, x0.2.2.2.2.2.2.2.2.2.2.2.2.2.1, x0.2.2.2.2.2.2.2.2.2.2.2.2.2.2.1, x0.2.2.2.2.2.2.2.2.2.2.2.2.2.2.2, x1.1, x1.2.1, x1.2.2.1, x1.2.2.2.1, x1.2.2.2.2.1, x1.2.2.2.2.2.1, x1.2.2.2.2.2.2.1, x1.2.2.2.2.2.2.2.1, x1.2.2.2.2.2.2.2.2.1, x1.2.2.2.2.2.2.2.2.2.1, x1.2.2.2.2.2.2.2.2.2.2.1, x1.2.2.2.2.2.2.2.2.2.2.2.1, x1.2.2.2.2.2.2.2.2.2.2.2.2.1, x1.2.2.2.2.2.2.2.2.2.2.2.2.2.1, x1.2.2.2.2.2.2.2.2.2.2.2.2.2.2.1, x1.2.2.2.2.2.2.2.2.2.2.2.2.2.2.2)
abbrev p4_0 (x : D4) : THead := (x.1, x.2.1, x.2.2.1, x.2.2.2.1, x.2.2.2.2.1, x.2.2.2.2.2.1, x.2.2.2.2.2.2.1, x.2.2.2.2.2.2.2.1, x.2.2.2.2.2.2.2.2.1, x.2.2.2.2.2.2.2.2.2.1, x.2.2.2.2.2.2.2.2.2.2.1, x.2.2.2.2.2.2.2.2.2.2.2.1, x.2.2.2.2.2.2.2.2.2.2.2.2.1, x.2.2.2.2.2.2.2.2.2.2.2.2.2.1, x.2.2.2.2.2.2.2.2.2.2.2.2.2.2.1, x.2.2.2.2.2.2.2.2.2.2.2.2.2.2.2.1)
abbrev p4_1 (x : D4) : THead := x.2.2.2.2.2.2.2.2.2.2.2.2.2.2.2.2
abbrev D5 : Type := Int × Int × Int × Int × Int × Int × Int × Int × List Int × Int × List Int × Int × Int × List Int × Int × Bool × Int × Int × Int × Int × Int × Int × Int × Int × List Int × Int × List Int × Int × Int × List Int × Int × Bool × List TSig
abbrev A5 : ETy := (.cons (.int .i64) (.cons (.int .i64) (.cons (.int .i64) (.cons (.int .i64) (.cons (.int .i64) (.cons (.int .i64) (.cons (.int .i64) (.cons (.int .i64) (.cons (.sl (.cons (.int .i64) .nil)) (.cons (.int .i64) (.cons (.sl (.cons (.int .i64) .nil)) (.cons (.int .i64) (.cons (.int .i64) (.cons (.sl (.cons (.int .i64) .nil)) (.cons (.int .i64) (.cons .bool (.cons (.int .i64) (.cons (.int .i64) (.cons (.int .i64) (.cons (.int .i64) (.cons (.int .i64) (.cons (.int .i64) (.cons (.int .i64) (.cons (.int .i64) (.cons (.sl (.cons (.int .i64) .nil)) (.cons (.int .i64) (.cons (.sl (.cons (.int .i64) .nil)) (.cons (.int .i64) (.cons (.int .i64) (.cons (.sl (.cons (.int .i64) .nil)) (.cons (.int .i64) (.cons .bool (.cons (.sl (.cons (.int .i64) (.cons (.int .i64) .nil))) .nil)))))))))))))))))))))))))))))))))
abbrev fl5 (x0 : THead) (x1 : TSigned) : D5 := (x0.1, x0.2.1, x0.2.2.1, x0.2.2.2.1, x0.2.2.2.2.1, x0.2.2.2.2.2.1, x0.2.2.2.2.2.2.1, x0.2.2.2.2.2.2.2.1, x0.2.2.2.2.2.2.2.2.1, x0.2.2.2.2.2.2.2.2.2.1, x0.2.2.2.2.2.2.2.2.2.2.1, x0.2.2.2.2.2.2.2.2.2.2.2.1, x0.2.2.2.2.2.2.2.2.2.2.2.2.1, x0.2.2.2.2.2.2.2.2.2.2.2.2.2.1, x0.2.2.2.2.2.2.2.2.2.2.2.2.2.2.1, x0.2.2.2.2.2.2.2.2.2.2.2.2.2.2.2, x1.1, x1.2.1, x1.2.2.1, x1.2.2.2.1, x1.2.2.2.2.1, x1.2.2.2.2.2.1, x1.2.2.2.2.2.2.1, x1.2.2.2.2.2.2.2.1, x1.2.2.2.2.2.2.2.2.1, x1.2.2.2.2.2.2.2.2.2.1, x1.2.2.2.2.2.2.2.2.2.2.1, x1.2.2.2.2.2.2.2.2.2.2.2.1, x1.2.2.2.2.2.2.2.2.2.2.2.2.1, x1.2.2.2.2.2.2.2.2.2.2.2.2.2.1, x1.2.2.2.2.2.2.2.2.2.2.2.2.2.2.1, x1.2.2.2.2.2.2.2.2.2.2.2.2.2.2.2.1, x1.2.2.2.2.2.2.2.2.2.2.2.2.2.2.2.2)
abbrev p5_0 (x : D5) : THead := (x.1, x.2.1, x.2.2.1, x.2.2.2.1, x.2.2.2.2.1, x.2.2.2.2.2.1, x.2.2.2.2.2.2.1, x.2.2.2.2.2.2.2.1, x.2.2.2.2.2.2.2.2.1, x.2.2.2.2.2.2.2.2.2.1, x.2.2.2.2.2.2.2.2.2.2.1, x.2.2.2.2.2.2.2.2.2.2.2.1, x.2.2.2.2.2.2.2.2.2.2.2.2.1, x.2.2.2.2.2.2.2.2.2.2.2.2.2.1, x.2.2.2.2.2.2.2.2.2.2.2.2.2.2.1, x.2.2.2.2.2.2.2.2.2.2.2.2.2.2.2.1)
abbrev p5_1 (x : D5) : TSigned := x.2.2.2.2.2.2.2.2.2.2.2.2.2.2.2.2
abbrev D6 : Type := List TSigned × Int × Int × Int × Int × Int × Int × Int × Int × List Int × Int × List Int × Int × Int × List Int × Int × Bool × List TSig
abbrev A6 : ETy := eRListSigned
abbrev fl6 (x0 : List TSigned) (x1 : TSigned) : D6 := (x0, x1.1, x1.2.1, x1.2.2.1, x1.2.2.2.1, x1.2.2.2.2.1, x1.2.2.2.2.2.1, x1.2.2.2.2.2.2.1, x1.2.2.2.2.2.2.2.1, x1.2.2.2.2.2.2.2.2.1, x1.2.2.2.2.2.2.2.2.2.1, x1.2.2.2.2.2.2.2.2.2.2.1, x1.2.2.2.2.2.2.2.2.2.2.2.1, x1.2.2.2.2.2.2.2.2.2.2.2.2.1, x1.2.2.2.2.2.2.2.2.2.2.2.2.2.1, x1.2.2.2.2.2.2.2.2.2.2.2.2.2.2.1, x1.2.2.2.2.2.2.2.2.2.2.2.2.2.2.2.1, x1.2.2.2.2.2.2.2.2.2.2.2.2.2.2.2.2)
abbrev p6_0 (x : D6) : List TSigned := x.1
abbrev p6_1 (x : D6) : TSigned := x.2
abbrev D7 : Type := Int × Int × Int × Int × Int × Int × Int × Int × List Int × Int × List Int × Int × Int × List Int × Int × Bool × List TSig × List Int × Int
abbrev A7 : ETy := (.cons (.int .i64) (.cons (.int .i64) (.cons (.int .i64) (.cons (.int .i64) (.cons (.int .i64) (.cons (.int .i64) (.cons (.int .i64) (.cons (.int .i64) (.cons (.sl (.cons (.int .i64) .nil)) (.cons (.int .i64) (.cons (.sl (.cons (.int .i64) .nil)) (.cons (.int .i64) (.cons (.int .i64) (.cons (.sl (.cons (.int .i64) .nil)) (.cons (.int .i64) (.cons .bool (.cons (.sl (.cons (.int .i64) (.cons (.int .i64) .nil))) (.cons (.sl (.cons (.int .i64) .nil)) (.cons (.int .i64) .nil)))))))))))))))))))
abbrev fl7 (x0 : TSigned) (x1 : TKeys) : D7 := (x0.1, x0.2.1, x0.2.2.1, x0.2.2.2.1, x0.2.2.2.2.1, x0.2.2.2.2.2.1, x0.2.2.2.2.2.2.1, x0.2.2.2.2.2.2.2.1, x0.2.2.2.2.2.2.2.2.1, x0.2.2.2.2.2.2.2.2.2.1, x0.2.2.2.2.2.2.2.2.2.2.1, x0.2.2.2.2.2.2.2.2.2.2.2.1, x0.2.2.2.2.2.2.2.2.2.2.2.2.1, x0.2.2.2.2.2.2.2.2.2.2.2.2.2.1, x0.2.2.2.2.2.2.2.2.2.2.2.2.2.2.1, x0.2.2.2.2.2.2.2.2.2.2.2.2.2.2.2.1, x0.2.2.2.2.2.2.2.2.2.2.2.2.2.2.2.2, x1.1, x1.2)
abbrev p7_0 (x : D7) : TSigned := (x.1, x.2.1, x.2.2.1, x.2.2.2.1, x.2.2.2.2.1, x.2.2.2.2.2.1, x.2.2.2.2.2.2.1, x.2.2.2.2.2.2.2.1, x.2.2.2.2.2.2.2.2.1, x.2.2.2.2.2.2.2.2.2.1, x.2.2.2.2.2.2.2.2.2.2.1, x.2.2.2.2.2.2.2.2.2.2.2.1, x.2.2.2.2.2.2.2.2.2.2.2.2.1, x.2.2.2.2.2.2.2.2.2.2.2.2.2.1, x.2.2.2.2.2.2.2.2.2.2.2.2.2.2.1, x.2.2.2.2.2.2.2.2.2.2.2.2.2.2.2.1, x.2.2.2.2.2.2.2.2.2.2.2.2.2.2.2.2.1)
abbrev p7_1 (x : D7) : TKeys := x.2.2.2.2.2.2.2.2.2.2.2.2.2.2.2.2.2
noncomputable abbrev lsHead (x : THead) : List Lf := [.val (.int .i64 x.1), .val (.int .i64 x.2.1), .val (.int .i64 x.2.2.1), .val (.int .i64 x.2.2.2.1), .val (.int .i64 x.2.2.2.2.1), .val (.int .i64 x.2.2.2.2.2.1), .val (.int .i64 x.2.2.2.2.2.2.1), .val (.int .i64 x.2.2.2.2.2.2.2.1), .val (.sl (.cons (.int .i64) .nil) x.2.2.2.2.2.2.2.2.1), .val (.int .i64 x.2.2.2.2.2.2.2.2.2.1), .val (.sl (.cons (.int .i64) .nil) x.2.2.2.2.2.2.2.2.2.2.1), .val (.int .i64 x.2.2.2.2.2.2.2.2.2.2.2.1), .val (.int .i64 x.2.2.2.2.2.2.2.2.2.2.2.2.1), .val (.sl (.cons (.int .i64) .nil) x.2.2.2.2.2.2.2.2.2.2.2.2.2.1), .val (.int .i64 x.2.2.2.2.2.2.2.2.2.2.2.2.2.2.1), .val (.bool x.2.2.2.2.2.2.2.2.2.2.2.2.2.2.2)]
noncomputable abbrev lsSigned (x : TSigned) : List Lf := [.val (.int .i64 x.1), .val (.int .i64 x.2.1), .val (.int .i64 x.2.2.1), .val (.int .i64 x.2.2.2.1), .val (.int .i64 x.2.2.2.2.1), .val (.int .i64 x.2.2.2.2.2.1), .val (.int .i64 x.2.2.2.2.2.2.1), .val (.int .i64 x.2.2.2.2.2.2.2.1), .val (.sl (.cons (.int .i64) .nil) x.2.2.2.2.2.2.2.2.1), .val (.int .i64 x.2.2.2.2.2.2.2.2.2.1), .val (.sl (.cons (.int .i64) .nil) x.2.2.2.2.2.2.2.2.2.2.1), .val (.int .i64 x.2.2.2.2.2.2.2.2.2.2.2.1), .val (.int .i64 x.2.2.2.2.2.2.2.2.2.2.2.2.1), .val (.sl (.cons (.int .i64) .nil) x.2.2.2.2.2.2.2.2.2.2.2.2.2.1), .val (.int .i64 x.2.2.2.2.2.2.2.2.2.2.2.2.2.2.1), .val (.bool x.2.2.2.2.2.2.2.2.2.2.2.2.2.2.2.1), .val (.sl (.cons (.int .i64) (.cons (.int .i64) .nil)) x.2.2.2.2.2.2.2.2.2.2.2.2.2.2.2.2)]
abbrev tys : List (Nat × TI) := [(3, ⟨.int .i64, false, [.val (.int .i64 (0 : Int))], 8, [], (.cons (.int .i64) .nil)⟩),
  (4, ⟨.bool, false, [.val (.bool false)], 1, [], (.cons .bool .nil)⟩),
  (5, ⟨.int .u8, false, [.val (.int .u8 (0 : Int))], 1, [], (.cons (.int .u8) .nil)⟩),
  (9, ⟨.str, false, [.val (.str (⟨#[]⟩ : ByteArray))], 16, [], (.cons .str .nil)⟩),
  (22, ⟨.sl 5, false, [.nil0], 24, [], (.cons (.sl (.cons (.int .u8) .nil)) .nil)⟩),
  (24, ⟨.sl 32, false, [.nil0], 24, [], (.cons (.sl V.eSigned) .nil)⟩),
  (25, ⟨.sl 3, false, [.nil0], 24, [], (.cons (.sl (.cons (.int .i64) .nil)) .nil)⟩),
  (27, ⟨.st, false, [.nil0, .val (.int .i64 (0 : Int))], 32, [(0, 1, false), (1, 1, false)], (.cons (.sl (.cons (.int .i64) .nil)) (.cons (.int .i64) .nil))⟩),
  (29, ⟨.st, false, [.val (.int .i64 (0 : Int)), .val (.int .i64 (0 : Int)), .val (.int .i64 (0 : Int)), .val (.int .i64 (0 : Int)), .val (.int .i64 (0 : Int)), .val (.int .i64 (0 : Int)), .val (.int .i64 (0 : Int)), .val (.int .i64 (0 : Int)), .nil0, .val (.int .i64 (0 : Int)), .nil0, .val (.int .i64 (0 : Int)), .val (.int .i64 (0 : Int)), .nil0, .val (.int .i64 (0 : Int)), .val (.bool false)], 176, [(0, 1, false), (1, 1, false), (2, 1, false), (3, 1, false), (4, 1, false), (5, 1, false), (6, 1, false), (7, 1, false), (8, 2, true), (10, 2, true), (12, 1, false), (13, 2, true), (15, 1, false)], V.eHead⟩),
  (30, ⟨.sl 79, false, [.nil0], 24, [], (.cons (.sl (.cons (.int .i64) (.cons (.int .i64) .nil))) .nil)⟩),
  (32, ⟨.st, false, [.val (.int .i64 (0 : Int)), .val (.int .i64 (0 : Int)), .val (.int .i64 (0 : Int)), .val (.int .i64 (0 : Int)), .val (.int .i64 (0 : Int)), .val (.int .i64 (0 : Int)), .val (.int .i64 (0 : Int)), .val (.int .i64 (0 : Int)), .nil0, .val (.int .i64 (0 : Int)), .nil0, .val (.int .i64 (0 : Int)), .val (.int .i64 (0 : Int)), .nil0, .val (.int .i64 (0 : Int)), .val (.bool false), .nil0], 200, [(0, 16, true), (16, 1, false)], V.eSigned⟩),
  (67, ⟨.st, false, [.nil0, .val (.int .i64 (0 : Int)), .val (.int .i64 (0 : Int))], 40, [(0, 1, false), (1, 1, false), (2, 1, false)], (.cons (.sl (.cons (.int .u8) .nil)) (.cons (.int .i64) (.cons (.int .i64) .nil)))⟩),
  (73, ⟨.sl 98, false, [.nil0], 24, [], (.cons (.sl V.eEntry) .nil)⟩),
  (79, ⟨.st, true, [.val (.int .i64 (0 : Int)), .val (.int .i64 (0 : Int))], 16, [(0, 1, false), (1, 1, false)], (.cons (.int .i64) (.cons (.int .i64) .nil))⟩),
  (96, ⟨.sl 9, false, [.nil0], 24, [], (.cons (.sl (.cons .str .nil)) .nil)⟩),
  (98, ⟨.st, false, [.val (.str (⟨#[]⟩ : ByteArray)), .val (.int .i64 (0 : Int)), .val (.int .i64 (0 : Int)), .nil0], 56, [(0, 1, false), (1, 1, false), (2, 1, false), (3, 1, false)], V.eEntry⟩),
  (106, ⟨.sl 25, false, [.nil0], 24, [], (.cons (.sl (.cons (.sl (.cons (.int .i64) .nil)) .nil)) .nil)⟩)]
theorem tysOk : tyAll Tryz.prog tys = true := by kernel_rfl
theorem mixed : Tryz.prog.follows .mixedOrders = true := by kernel_rfl
theorem cfl {α : Type} {a b c : α} (e : a = b) (h : a = c) : b = c := e.symm.trans h
theorem fo {g : Nat} {fn : Func} {con : Con} {tab : List (Nat × Con)} {heads : List (Nat × List Nat × Cv)} {pre : List (Nat × Nat)} {shallow : List Nat} {movs flts : List (Nat × List Nat)} (h : TabOk Tryz.prog tab) (hf : Tryz.prog.funcs[g]? = some fn) (hq : (!(fn.name == "runtime.NumGoroutine") && (!fn.body.isNone && conOk con fn.ntmps)) = true) (hev : ∀ x y, con.f x = some y → evBody (mkE tys tab heads pre shallow movs flts) con fn x = some y) : Valid Tryz.prog g con := by
  simp only [Bool.and_eq_true, Bool.not_eq_true'] at hq
  exact body_ok (env_ok mixed tysOk h) hf hq.1 hq.2.1 hq.2.2 hev
theorem fo2 {g : Nat} {fn : Func} {con : Con} {tab tab2 : List (Nat × Con)} {sites : List Nat} {heads : List (Nat × List Nat × Cv)} {pre : List (Nat × Nat)} {shallow : List Nat} {movs flts : List (Nat × List Nat)} (h : TabOk Tryz.prog tab) (h2 : TabOk Tryz.prog tab2) (hf : Tryz.prog.funcs[g]? = some fn) (hq : (!(fn.name == "runtime.NumGoroutine") && (!fn.body.isNone && conOk con fn.ntmps)) = true) (hev : ∀ x y, con.f x = some y → evBody (mkE2 tys tab sites tab2 heads pre shallow movs flts) con fn x = some y) : Valid Tryz.prog g con := by
  simp only [Bool.and_eq_true, Bool.not_eq_true'] at hq
  exact body_ok (env_ok2 mixed tysOk h h2) hf hq.1 hq.2.1 hq.2.2 hev
end V
noncomputable abbrev laws_big.con : V.Con := ⟨(.cons (.sl (.cons (.int .u8) .nil)) .nil), (.cons .bool .nil), fun (x : List Int) => laws_big x, [], [(false, 1)], [(false, 1)], [false], []⟩
noncomputable abbrev laws_big.E : V.Env := V.mkE V.tys [] [] [] [] [] []
theorem laws_big.eq (x0 : List Int) : V.evBody laws_big.E laws_big.con Tryz.f4 ((x0) : List Int) = laws_big x0 := by kernel_rfl
theorem laws_big.ok : V.Valid Tryz.prog 4 laws_big.con :=
  V.fo V.tab_nil Tryz.func4 (by kernel_rfl) (fun x y h => (show V.evBody laws_big.E laws_big.con Tryz.f4 x = _ from laws_big.eq x).trans (V.cfl (by kernel_rfl) h))
noncomputable abbrev spec_l1New.con : V.Con := ⟨(.cons (.sl (.cons (.int .u8) .nil)) .nil), (.cons (.ptr (.cons (.sl (.cons (.int .u8) .nil)) (.cons (.int .i64) (.cons (.int .i64) .nil)))) .nil), fun (x : List Int) => spec_l1New x, [], [(false, 1)], [(false, 1)], [true], []⟩
noncomputable abbrev spec_l1New.E : V.Env := V.mkE V.tys [] [(6, [0, 3, 4], []), (11, [0, 3, 4], [])] [] [] [] []
noncomputable abbrev spec_l1New.kt (x0 : List Int) : V.Kt ((Tl1Cur)) := V.ktOf spec_l1New.E spec_l1New.con Tryz.f20 ((x0) : List Int)
noncomputable abbrev spec_l1New.s11 (x0 : List Int) (v6_1 : Int) (v6_2 : Int) : V.St := ⟨[(0, .v false [.val (.sl (.cons (.int .u8) .nil) x0)]), (3, .v false [.val (.int .i64 v6_1)]), (4, .v false [.val (.int .i64 v6_2)])], []⟩
noncomputable abbrev spec_l1New.s6 (x0 : List Int) (v6_1 : Int) (v6_2 : Int) : V.St := ⟨[(0, .v false [.val (.sl (.cons (.int .u8) .nil) x0)]), (3, .v false [.val (.int .i64 v6_1)]), (4, .v false [.val (.int .i64 v6_2)])], []⟩
theorem spec_l1New.r11 (x0 : List Int) (v6_1 : Int) (v6_2 : Int) (R6 : V.St → Option ((Tl1Cur))) : V.joinF spec_l1New.E Tryz.f20.ntmps [1, 1, 0, 1, 0, 0] [R6] (V.codeOf Tryz.f20) (spec_l1New.kt x0) (spec_l1New.s11 x0 v6_1 v6_2) = spec_l1New.g11 x0 v6_1 v6_2 (fun v6_1 v6_2 => R6 (spec_l1New.s6 x0 v6_1 v6_2)) := by kernel_rfl
theorem spec_l1New.e11 (x0 : List Int) (v6_1 : Int) (v6_2 : Int) (R6 : V.St → Option ((Tl1Cur))) : V.jn (V.joinF spec_l1New.E Tryz.f20.ntmps [1, 1, 0, 1, 0, 0] [R6] (V.codeOf Tryz.f20) (spec_l1New.kt x0)) (spec_l1New.s11 x0 v6_1 v6_2) = spec_l1New.l11 x0 v6_1 v6_2 (fun v6_1 v6_2 => R6 (spec_l1New.s6 x0 v6_1 v6_2)) := by
  rw [V.jn_eq, spec_l1New.r11]
  rfl
theorem spec_l1New.r6 (x0 : List Int) (R : V.St → Option ((Tl1Cur))) (v6_1 : Int) (v6_2 : Int) : V.loopF spec_l1New.E Tryz.f20.ntmps [1, 1, 0, 1, 0] [] (V.codeOf Tryz.f20) (spec_l1New.kt x0) R (spec_l1New.s6 x0 v6_1 v6_2) = spec_l1New.g6 x0 (fun v6_1 v6_2 => R (spec_l1New.s6 x0 v6_1 v6_2)) (V.jn (V.joinF spec_l1New.E Tryz.f20.ntmps [1, 1, 0, 1, 0, 0] [R] (V.codeOf Tryz.f20) (spec_l1New.kt x0)) (spec_l1New.s11 x0 v6_1 v6_2)) v6_1 v6_2 := by kernel_rfl
theorem spec_l1New.e6 (x0 : List Int) : ∀ (n : Nat) (v6_1 : Int) (v6_2 : Int), V.loopN (V.loopF spec_l1New.E Tryz.f20.ntmps [1, 1, 0, 1, 0] [] (V.codeOf Tryz.f20) (spec_l1New.kt x0)) n (spec_l1New.s6 x0 v6_1 v6_2) = spec_l1New.l6 x0 n v6_1 v6_2 := by
  intro n
  induction n with
  | zero => intros; rw [V.loopN_z]; rfl
  | succ n ih =>
    intro v6_1 v6_2
    rw [V.loopN_s, spec_l1New.r6]
    simp only [spec_l1New.e11, ih]
    first | exact (spec_l1New.u6 ..).symm | rfl
theorem spec_l1New.v (x0 : List Int) : V.evBody spec_l1New.E spec_l1New.con Tryz.f20 ((x0) : List Int) = spec_l1New.b x0 (fun v6_1 v6_2 => V.loopN (V.loopF spec_l1New.E Tryz.f20.ntmps [1, 1, 0, 1, 0] [] (V.codeOf Tryz.f20) (spec_l1New.kt x0)) V.KK (spec_l1New.s6 x0 v6_1 v6_2)) := by kernel_rfl
theorem spec_l1New.eq (x0 : List Int) : V.evBody spec_l1New.E spec_l1New.con Tryz.f20 ((x0) : List Int) = spec_l1New x0 := by
  rw [spec_l1New.v]
  simp only [spec_l1New.e6]
  rfl
theorem spec_l1New.ok : V.Valid Tryz.prog 20 spec_l1New.con :=
  V.fo V.tab_nil Tryz.func20 (by kernel_rfl) (fun x y h => (show V.evBody spec_l1New.E spec_l1New.con Tryz.f20 x = _ from spec_l1New.eq x).trans (V.cfl (by kernel_rfl) h))
noncomputable abbrev spec_l1Byte.con : V.Con := ⟨(.cons (.ptr (.cons (.sl (.cons (.int .u8) .nil)) (.cons (.int .i64) (.cons (.int .i64) .nil)))) .nil), (.cons (.ptr (.cons (.sl (.cons (.int .u8) .nil)) (.cons (.int .i64) (.cons (.int .i64) .nil)))) (.cons (.int .i64) .nil)), fun (x : (Tl1Cur)) => spec_l1Byte x, [(0, false)], [(false, 1)], [(false, 1)], [false], []⟩
noncomputable abbrev spec_l1Byte.E : V.Env := V.mkE V.tys [] [] [(2, 10), (3, 9), (4, 12)] [] [] []
theorem spec_l1Byte.eq (x0 : (Tl1Cur)) : V.evBody spec_l1Byte.E spec_l1Byte.con Tryz.f71 ((x0) : (Tl1Cur)) = spec_l1Byte x0 := by kernel_rfl
theorem spec_l1Byte.ok : V.Valid Tryz.prog 71 spec_l1Byte.con :=
  V.fo V.tab_nil Tryz.func71 (by kernel_rfl) (fun x y h => (show V.evBody spec_l1Byte.E spec_l1Byte.con Tryz.f71 x = _ from spec_l1Byte.eq x).trans (V.cfl (by kernel_rfl) h))
noncomputable abbrev spec_l1Below.con : V.Con := ⟨(.cons (.ptr (.cons (.sl (.cons (.int .u8) .nil)) (.cons (.int .i64) (.cons (.int .i64) .nil)))) (.cons (.int .i64) .nil)), (.cons (.ptr (.cons (.sl (.cons (.int .u8) .nil)) (.cons (.int .i64) (.cons (.int .i64) .nil)))) (.cons (.int .i64) .nil)), fun (x : (Tl1Cur) × Int) => spec_l1Below x.1 x.2, [(0, false)], [(false, 1), (false, 1)], [(false, 1)], [false], []⟩
noncomputable abbrev spec_l1Below.E : V.Env := V.mkE V.tys [(71, spec_l1Byte.con)] [] [] [] [] []
theorem spec_l1Below.eq (x0 : (Tl1Cur)) (x1 : Int) : V.evBody spec_l1Below.E spec_l1Below.con Tryz.f41 ((x0, x1) : (Tl1Cur) × Int) = spec_l1Below x0 x1 := by kernel_rfl
theorem spec_l1Below.ok : V.Valid Tryz.prog 41 spec_l1Below.con :=
  V.fo (V.tab_cons spec_l1Byte.ok V.tab_nil) Tryz.func41 (by kernel_rfl) (fun x y h => (show V.evBody spec_l1Below.E spec_l1Below.con Tryz.f41 x = _ from spec_l1Below.eq x.1 x.2).trans (V.cfl (by kernel_rfl) h))
noncomputable abbrev spec_l6Keys.con : V.Con := ⟨(.cons (.ptr (.cons (.sl (.cons (.int .u8) .nil)) (.cons (.int .i64) (.cons (.int .i64) .nil)))) .nil), (.cons (.ptr (.cons (.sl (.cons (.int .u8) .nil)) (.cons (.int .i64) (.cons (.int .i64) .nil)))) (.cons (.sl (.cons (.int .i64) .nil)) (.cons (.int .i64) .nil))), fun (x : (Tl1Cur)) => spec_l6Keys x, [(0, false)], [(false, 1)], [(true, 2)], [true, false], []⟩
noncomputable abbrev spec_l6Keys.E : V.Env := V.mkE V.tys [(41, spec_l1Below.con)] [(10, [0, 2, 3, 4, 5, 6], [(64000000000012292096, (.cons (.int .i64) .nil), true)])] [] [] [] []
noncomputable abbrev spec_l6Keys.kt (x0 : (Tl1Cur)) : V.Kt ((Tl1Cur) × List Int × Int) := V.ktOf spec_l6Keys.E spec_l6Keys.con Tryz.f53 ((x0) : (Tl1Cur))
noncomputable abbrev spec_l6Keys.s10 (x0 : (Tl1Cur)) (v10_0 : Int) (v10_1 : Int) (v10_2 : Int) (v10_4 : Int) (v10_5 : Int) (v10_8 : List Int) : V.St := ⟨[(0, .v false [.ptr 0 0]), (2, .v false [.ptr 64000 0]), (3, .v false [.val (.int .i64 v10_0)]), (4, .v false [.ptr 192064 0]), (5, .v false [.val (.int .i64 v10_1)]), (6, .v false [.val (.int .i64 v10_2)])], [(0, .box [.val (.sl (.cons (.int .u8) .nil) x0.1), .val (.int .i64 v10_4), .val (.int .i64 v10_5)]), (64000, .box [.nil0, .val (.int .i64 (0 : Int))]), (192064, .box [.ref 64000000000012292096, .val (.int .i64 (0 : Int))]), (64000000000012292096, .row (.cons (.int .i64) .nil) true v10_8)]⟩
theorem spec_l6Keys.r10 (x0 : (Tl1Cur)) (R : V.St → Option ((Tl1Cur) × List Int × Int)) (v10_0 : Int) (v10_1 : Int) (v10_2 : Int) (v10_4 : Int) (v10_5 : Int) (v10_8 : List Int) : V.loopF spec_l6Keys.E Tryz.f53.ntmps [1, 1, 1, 1, 0, 1, 0] [] (V.codeOf Tryz.f53) (spec_l6Keys.kt x0) R (spec_l6Keys.s10 x0 v10_0 v10_1 v10_2 v10_4 v10_5 v10_8) = spec_l6Keys.g10 x0 (fun v10_0 v10_1 v10_2 v10_4 v10_5 v10_8 => R (spec_l6Keys.s10 x0 v10_0 v10_1 v10_2 v10_4 v10_5 v10_8)) v10_0 v10_1 v10_2 v10_4 v10_5 v10_8 := by kernel_rfl
theorem spec_l6Keys.e10 (x0 : (Tl1Cur)) : ∀ (n : Nat) (v10_0 : Int) (v10_1 : Int) (v10_2 : Int) (v10_4 : Int) (v10_5 : Int) (v10_8 : List Int), V.loopN (V.loopF spec_l6Keys.E Tryz.f53.ntmps [1, 1, 1, 1, 0, 1, 0] [] (V.codeOf Tryz.f53) (spec_l6Keys.kt x0)) n (spec_l6Keys.s10 x0 v10_0 v10_1 v10_2 v10_4 v10_5 v10_8) = spec_l6Keys.l10 x0 n v10_0 v10_1 v10_2 v10_4 v10_5 v10_8 := by
  intro n
  induction n with
  | zero => intros; rw [V.loopN_z]; rfl
  | succ n ih =>
    intro v10_0 v10_1 v10_2 v10_4 v10_5 v10_8
    rw [V.loopN_s, spec_l6Keys.r10]
    simp only [ih]
    first | exact (spec_l6Keys.u10 ..).symm | rfl
theorem spec_l6Keys.v (x0 : (Tl1Cur)) : V.evBody spec_l6Keys.E spec_l6Keys.con Tryz.f53 ((x0) : (Tl1Cur)) = spec_l6Keys.b x0 (fun v10_0 v10_1 v10_2 v10_4 v10_5 v10_8 => V.loopN (V.loopF spec_l6Keys.E Tryz.f53.ntmps [1, 1, 1, 1, 0, 1, 0] [] (V.codeOf Tryz.f53) (spec_l6Keys.kt x0)) V.KK (spec_l6Keys.s10 x0 v10_0 v10_1 v10_2 v10_4 v10_5 v10_8)) := by kernel_rfl
theorem spec_l6Keys.eq (x0 : (Tl1Cur)) : V.evBody spec_l6Keys.E spec_l6Keys.con Tryz.f53 ((x0) : (Tl1Cur)) = spec_l6Keys x0 := by
  rw [spec_l6Keys.v]
  simp only [spec_l6Keys.e10]
  rfl
theorem spec_l6Keys.ok : V.Valid Tryz.prog 53 spec_l6Keys.con :=
  V.fo (V.tab_cons spec_l1Below.ok V.tab_nil) Tryz.func53 (by kernel_rfl) (fun x y h => (show V.evBody spec_l6Keys.E spec_l6Keys.con Tryz.f53 x = _ from spec_l6Keys.eq x).trans (V.cfl (by kernel_rfl) h))
noncomputable abbrev spec_l1Str.con : V.Con := ⟨(.cons (.ptr (.cons (.sl (.cons (.int .u8) .nil)) (.cons (.int .i64) (.cons (.int .i64) .nil)))) (.cons (.sl (.cons .str .nil)) .nil)), (.cons (.ptr (.cons (.sl (.cons (.int .u8) .nil)) (.cons (.int .i64) (.cons (.int .i64) .nil)))) (.cons .str .nil)), fun (x : (Tl1Cur) × List ByteArray) => spec_l1Str x.1 x.2, [(0, false)], [(false, 1), (false, 1)], [(false, 1)], [false], []⟩
noncomputable abbrev spec_l1Str.E : V.Env := V.mkE V.tys [(41, spec_l1Below.con)] [] [] [] [] []
theorem spec_l1Str.eq (x0 : (Tl1Cur)) (x1 : List ByteArray) : V.evBody spec_l1Str.E spec_l1Str.con Tryz.f127 ((x0, x1) : (Tl1Cur) × List ByteArray) = spec_l1Str x0 x1 := by kernel_rfl
theorem spec_l1Str.ok : V.Valid Tryz.prog 127 spec_l1Str.con :=
  V.fo (V.tab_cons spec_l1Below.ok V.tab_nil) Tryz.func127 (by kernel_rfl) (fun x y h => (show V.evBody spec_l1Str.E spec_l1Str.con Tryz.f127 x = _ from spec_l1Str.eq x.1 x.2).trans (V.cfl (by kernel_rfl) h))
noncomputable abbrev spec_l4Label.con : V.Con := ⟨(.cons (.ptr (.cons (.sl (.cons (.int .u8) .nil)) (.cons (.int .i64) (.cons (.int .i64) .nil)))) .nil), (.cons (.ptr (.cons (.sl (.cons (.int .u8) .nil)) (.cons (.int .i64) (.cons (.int .i64) .nil)))) (.cons .str .nil)), fun (x : (Tl1Cur)) => spec_l4Label x, [(0, false)], [(false, 1)], [(false, 1)], [false], []⟩
noncomputable abbrev spec_l4Label.E : V.Env := V.mkE V.tys [(127, spec_l1Str.con)] [] [] [] [] []
theorem spec_l4Label.eq (x0 : (Tl1Cur)) : V.evBody spec_l4Label.E spec_l4Label.con Tryz.f111 ((x0) : (Tl1Cur)) = spec_l4Label x0 := by kernel_rfl
theorem spec_l4Label.ok : V.Valid Tryz.prog 111 spec_l4Label.con :=
  V.fo (V.tab_cons spec_l1Str.ok V.tab_nil) Tryz.func111 (by kernel_rfl) (fun x y h => (show V.evBody spec_l4Label.E spec_l4Label.con Tryz.f111 x = _ from spec_l4Label.eq x).trans (V.cfl (by kernel_rfl) h))
noncomputable abbrev spec_ZoneEntry.con : V.Con := ⟨(.cons .str (.cons (.int .i64) .nil)), V.eEntry, fun (x : ByteArray × Int) => spec_ZoneEntry x.1 x.2, [], [(false, 1), (false, 1)], [(true, 4)], [false, false, false, true], []⟩
noncomputable abbrev spec_ZoneEntry.E : V.Env := V.mkE V.tys [] [] [] [] [] []
theorem spec_ZoneEntry.eq (x0 : ByteArray) (x1 : Int) : V.evBody spec_ZoneEntry.E spec_ZoneEntry.con Tryz.f112 ((x0, x1) : ByteArray × Int) = spec_ZoneEntry x0 x1 := by kernel_rfl
theorem spec_ZoneEntry.ok : V.Valid Tryz.prog 112 spec_ZoneEntry.con :=
  V.fo V.tab_nil Tryz.func112 (by kernel_rfl) (fun x y h => (show V.evBody spec_ZoneEntry.E spec_ZoneEntry.con Tryz.f112 x = _ from spec_ZoneEntry.eq x.1 x.2).trans (V.cfl (by kernel_rfl) h))
noncomputable abbrev spec_l5Path.con : V.Con := ⟨(.cons (.ptr (.cons (.sl (.cons (.int .u8) .nil)) (.cons (.int .i64) (.cons (.int .i64) .nil)))) .nil), (.cons (.ptr (.cons (.sl (.cons (.int .u8) .nil)) (.cons (.int .i64) (.cons (.int .i64) .nil)))) (.cons (.sl (.cons .str .nil)) .nil)), fun (x : (Tl1Cur)) => spec_l5Path x, [(0, false)], [(false, 1)], [(false, 1)], [true], []⟩
noncomputable abbrev spec_l5Path.E : V.Env := V.mkE V.tys [(41, spec_l1Below.con), (111, spec_l4Label.con)] [(6, [0, 3, 4], [(64000038400192, (.cons .str .nil), true)])] [] [] [] []
noncomputable abbrev spec_l5Path.kt (x0 : (Tl1Cur)) : V.Kt ((Tl1Cur) × List ByteArray) := V.ktOf spec_l5Path.E spec_l5Path.con Tryz.f114 ((x0) : (Tl1Cur))
noncomputable abbrev spec_l5Path.s6 (x0 : (Tl1Cur)) (v6_0 : Int) (v6_2 : Int) (v6_3 : Int) (v6_4 : List ByteArray) : V.St := ⟨[(0, .v false [.ptr 0 0]), (3, .v false [.ref 64000038400192]), (4, .v false [.val (.int .i64 v6_0)])], [(0, .box [.val (.sl (.cons (.int .u8) .nil) x0.1), .val (.int .i64 v6_2), .val (.int .i64 v6_3)]), (64000038400192, .row (.cons .str .nil) true v6_4)]⟩
theorem spec_l5Path.r6 (x0 : (Tl1Cur)) (R : V.St → Option ((Tl1Cur) × List ByteArray)) (v6_0 : Int) (v6_2 : Int) (v6_3 : Int) (v6_4 : List ByteArray) : V.loopF spec_l5Path.E Tryz.f114.ntmps [1, 1, 0, 1, 0] [] (V.codeOf Tryz.f114) (spec_l5Path.kt x0) R (spec_l5Path.s6 x0 v6_0 v6_2 v6_3 v6_4) = spec_l5Path.g6 x0 (fun v6_0 v6_2 v6_3 v6_4 => R (spec_l5Path.s6 x0 v6_0 v6_2 v6_3 v6_4)) v6_0 v6_2 v6_3 v6_4 := by kernel_rfl
theorem spec_l5Path.e6 (x0 : (Tl1Cur)) : ∀ (n : Nat) (v6_0 : Int) (v6_2 : Int) (v6_3 : Int) (v6_4 : List ByteArray), V.loopN (V.loopF spec_l5Path.E Tryz.f114.ntmps [1, 1, 0, 1, 0] [] (V.codeOf Tryz.f114) (spec_l5Path.kt x0)) n (spec_l5Path.s6 x0 v6_0 v6_2 v6_3 v6_4) = spec_l5Path.l6 x0 n v6_0 v6_2 v6_3 v6_4 := by
  intro n
  induction n with
  | zero => intros; rw [V.loopN_z]; rfl
  | succ n ih =>
    intro v6_0 v6_2 v6_3 v6_4
    rw [V.loopN_s, spec_l5Path.r6]
    simp only [ih]
    first | exact (spec_l5Path.u6 ..).symm | rfl
theorem spec_l5Path.v (x0 : (Tl1Cur)) : V.evBody spec_l5Path.E spec_l5Path.con Tryz.f114 ((x0) : (Tl1Cur)) = spec_l5Path.b x0 (fun v6_0 v6_2 v6_3 v6_4 => V.loopN (V.loopF spec_l5Path.E Tryz.f114.ntmps [1, 1, 0, 1, 0] [] (V.codeOf Tryz.f114) (spec_l5Path.kt x0)) V.KK (spec_l5Path.s6 x0 v6_0 v6_2 v6_3 v6_4)) := by kernel_rfl
theorem spec_l5Path.eq (x0 : (Tl1Cur)) : V.evBody spec_l5Path.E spec_l5Path.con Tryz.f114 ((x0) : (Tl1Cur)) = spec_l5Path x0 := by
  rw [spec_l5Path.v]
  simp only [spec_l5Path.e6]
  rfl
theorem spec_l5Path.ok : V.Valid Tryz.prog 114 spec_l5Path.con :=
  V.fo (V.tab_cons spec_l1Below.ok (V.tab_cons spec_l4Label.ok V.tab_nil)) Tryz.func114 (by kernel_rfl) (fun x y h => (show V.evBody spec_l5Path.E spec_l5Path.con Tryz.f114 x = _ from spec_l5Path.eq x).trans (V.cfl (by kernel_rfl) h))
noncomputable abbrev spec_l5Copy.con : V.Con := ⟨(.cons (.sl (.cons .str .nil)) .nil), (.cons (.sl (.cons .str .nil)) .nil), fun (x : List ByteArray) => spec_l5Copy x, [], [(false, 1)], [(false, 1)], [true], []⟩
noncomputable abbrev spec_l5Copy.E : V.Env := V.mkE V.tys [] [] [] [] [] []
theorem spec_l5Copy.eq (x0 : List ByteArray) : V.evBody spec_l5Copy.E spec_l5Copy.con Tryz.f126 ((x0) : List ByteArray) = spec_l5Copy x0 := by kernel_rfl
theorem spec_l5Copy.ok : V.Valid Tryz.prog 126 spec_l5Copy.con :=
  V.fo V.tab_nil Tryz.func126 (by kernel_rfl) (fun x y h => (show V.evBody spec_l5Copy.E spec_l5Copy.con Tryz.f126 x = _ from spec_l5Copy.eq x).trans (V.cfl (by kernel_rfl) h))
noncomputable abbrev spec_MovedEntry.con : V.Con := ⟨(.cons .str (.cons (.int .i64) (.cons (.sl (.cons .str .nil)) .nil))), V.eEntry, fun (x : ByteArray × Int × List ByteArray) => spec_MovedEntry x.1 x.2.1 x.2.2, [], [(false, 1), (false, 1), (false, 1)], [(true, 4)], [false, false, false, true], []⟩
noncomputable abbrev spec_MovedEntry.E : V.Env := V.mkE V.tys [(126, spec_l5Copy.con)] [] [] [] [] []
theorem spec_MovedEntry.eq (x0 : ByteArray) (x1 : Int) (x2 : List ByteArray) : V.evBody spec_MovedEntry.E spec_MovedEntry.con Tryz.f113 ((x0, x1, x2) : ByteArray × Int × List ByteArray) = spec_MovedEntry x0 x1 x2 := by kernel_rfl
theorem spec_MovedEntry.ok : V.Valid Tryz.prog 113 spec_MovedEntry.con :=
  V.fo (V.tab_cons spec_l5Copy.ok V.tab_nil) Tryz.func113 (by kernel_rfl) (fun x y h => (show V.evBody spec_MovedEntry.E spec_MovedEntry.con Tryz.f113 x = _ from spec_MovedEntry.eq x.1 x.2.1 x.2.2).trans (V.cfl (by kernel_rfl) h))
noncomputable abbrev spec_ValueEntry.con : V.Con := ⟨(.cons .str (.cons (.int .i64) .nil)), V.eEntry, fun (x : ByteArray × Int) => spec_ValueEntry x.1 x.2, [], [(false, 1), (false, 1)], [(true, 4)], [false, false, false, true], []⟩
noncomputable abbrev spec_ValueEntry.E : V.Env := V.mkE V.tys [] [] [] [] [] []
theorem spec_ValueEntry.eq (x0 : ByteArray) (x1 : Int) : V.evBody spec_ValueEntry.E spec_ValueEntry.con Tryz.f115 ((x0, x1) : ByteArray × Int) = spec_ValueEntry x0 x1 := by kernel_rfl
theorem spec_ValueEntry.ok : V.Valid Tryz.prog 115 spec_ValueEntry.con :=
  V.fo V.tab_nil Tryz.func115 (by kernel_rfl) (fun x y h => (show V.evBody spec_ValueEntry.E spec_ValueEntry.con Tryz.f115 x = _ from spec_ValueEntry.eq x.1 x.2).trans (V.cfl (by kernel_rfl) h))
noncomputable abbrev spec_l8Entry.con : V.Con := ⟨(.cons (.ptr (.cons (.sl (.cons (.int .u8) .nil)) (.cons (.int .i64) (.cons (.int .i64) .nil)))) .nil), (.cons (.ptr (.cons (.sl (.cons (.int .u8) .nil)) (.cons (.int .i64) (.cons (.int .i64) .nil)))) (.cons .str (.cons (.int .i64) (.cons (.int .i64) (.cons (.sl (.cons .str .nil)) .nil))))), fun (x : (Tl1Cur)) => spec_l8Entry x, [(0, false)], [(false, 1)], [(true, 4)], [false, false, false, true], []⟩
noncomputable abbrev spec_l8Entry.E : V.Env := V.mkE V.tys [(41, spec_l1Below.con), (111, spec_l4Label.con), (112, spec_ZoneEntry.con), (113, spec_MovedEntry.con), (114, spec_l5Path.con), (115, spec_ValueEntry.con)] [] [] [] [] []
theorem spec_l8Entry.eq (x0 : (Tl1Cur)) : V.evBody spec_l8Entry.E spec_l8Entry.con Tryz.f84 ((x0) : (Tl1Cur)) = spec_l8Entry x0 := by kernel_rfl
theorem spec_l8Entry.ok : V.Valid Tryz.prog 84 spec_l8Entry.con :=
  V.fo (V.tab_cons spec_l1Below.ok (V.tab_cons spec_l4Label.ok (V.tab_cons spec_ZoneEntry.ok (V.tab_cons spec_MovedEntry.ok (V.tab_cons spec_l5Path.ok (V.tab_cons spec_ValueEntry.ok V.tab_nil)))))) Tryz.func84 (by kernel_rfl) (fun x y h => (show V.evBody spec_l8Entry.E spec_l8Entry.con Tryz.f84 x = _ from spec_l8Entry.eq x).trans (V.cfl (by kernel_rfl) h))
noncomputable abbrev spec_CompareLabels.con : V.Con := ⟨(.cons .str (.cons .str .nil)), (.cons (.int .i64) .nil), fun (x : ByteArray × ByteArray) => spec_CompareLabels x.1 x.2, [], [(false, 1), (false, 1)], [(false, 1)], [false], []⟩
noncomputable abbrev spec_CompareLabels.E : V.Env := V.mkE V.tys [] [] [] [] [] []
theorem spec_CompareLabels.eq (x0 : ByteArray) (x1 : ByteArray) : V.evBody spec_CompareLabels.E spec_CompareLabels.con Tryz.f108 ((x0, x1) : ByteArray × ByteArray) = spec_CompareLabels x0 x1 := by kernel_rfl
theorem spec_CompareLabels.ok : V.Valid Tryz.prog 108 spec_CompareLabels.con :=
  V.fo V.tab_nil Tryz.func108 (by kernel_rfl) (fun x y h => (show V.evBody spec_CompareLabels.E spec_CompareLabels.con Tryz.f108 x = _ from spec_CompareLabels.eq x.1 x.2).trans (V.cfl (by kernel_rfl) h))
noncomputable abbrev spec_l8Copy.con : V.Con := ⟨V.eEntry, V.eEntry, fun (x : ByteArray × Int × Int × List ByteArray) => spec_l8Copy x, [], [(true, 4)], [(true, 4)], [false, false, false, true], []⟩
noncomputable abbrev spec_l8Copy.E : V.Env := V.mkE V.tys [(126, spec_l5Copy.con)] [] [(1, 9)] [] [] []
theorem spec_l8Copy.eq (x0 : TEntry) : V.evBody spec_l8Copy.E spec_l8Copy.con Tryz.f109 ((x0.1, x0.2.1, x0.2.2.1, x0.2.2.2) : ByteArray × Int × Int × List ByteArray) = spec_l8Copy x0 := by kernel_rfl
theorem spec_l8Copy.ok : V.Valid Tryz.prog 109 spec_l8Copy.con :=
  V.fo (V.tab_cons spec_l5Copy.ok V.tab_nil) Tryz.func109 (by kernel_rfl) (fun x y h => (show V.evBody spec_l8Copy.E spec_l8Copy.con Tryz.f109 x = _ from spec_l8Copy.eq x).trans (V.cfl (by kernel_rfl) h))
noncomputable abbrev spec_l1In.con : V.Con := ⟨(.cons (.int .i64) (.cons (.int .i64) (.cons (.int .i64) .nil))), (.cons .bool .nil), fun (x : Int × Int × Int) => spec_l1In x.1 x.2.1 x.2.2, [], [(false, 1), (false, 1), (false, 1)], [(false, 1)], [false], []⟩
noncomputable abbrev spec_l1In.E : V.Env := V.mkE V.tys [] [] [] [] [] []
theorem spec_l1In.eq (x0 : Int) (x1 : Int) (x2 : Int) : V.evBody spec_l1In.E spec_l1In.con Tryz.f34 ((x0, x1, x2) : Int × Int × Int) = spec_l1In x0 x1 x2 := by kernel_rfl
theorem spec_l1In.ok : V.Valid Tryz.prog 34 spec_l1In.con :=
  V.fo V.tab_nil Tryz.func34 (by kernel_rfl) (fun x y h => (show V.evBody spec_l1In.E spec_l1In.con Tryz.f34 x = _ from spec_l1In.eq x.1 x.2.1 x.2.2).trans (V.cfl (by kernel_rfl) h))
noncomputable abbrev spec_IsLabel.con : V.Con := ⟨(.cons .str .nil), (.cons .bool .nil), fun (x : ByteArray) => spec_IsLabel x, [], [(false, 1)], [(false, 1)], [false], []⟩
noncomputable abbrev spec_IsLabel.E : V.Env := V.mkE V.tys [(34, spec_l1In.con)] [(7, [0], []), (8, [0, 3], [])] [] [] [] []
noncomputable abbrev spec_IsLabel.kt (x0 : ByteArray) : V.Kt Bool := V.ktOf spec_IsLabel.E spec_IsLabel.con Tryz.f133 ((x0) : ByteArray)
noncomputable abbrev spec_IsLabel.s8 (x0 : ByteArray) (v8_1 : Int) : V.St := ⟨[(0, .v false [.val (.str x0)]), (3, .v false [.val (.int .i64 v8_1)])], []⟩
noncomputable abbrev spec_IsLabel.s7 (x0 : ByteArray) : V.St := ⟨[(0, .v false [.val (.str x0)])], []⟩
theorem spec_IsLabel.r8 (x0 : ByteArray) (R : V.St → Option Bool) (v8_1 : Int) : V.loopF spec_IsLabel.E Tryz.f133.ntmps [1, 1, 0, 1, 0] [] (V.codeOf Tryz.f133) (spec_IsLabel.kt x0) R (spec_IsLabel.s8 x0 v8_1) = spec_IsLabel.g8 x0 (fun v8_1 => R (spec_IsLabel.s8 x0 v8_1)) v8_1 := by kernel_rfl
theorem spec_IsLabel.e8 (x0 : ByteArray) : ∀ (n : Nat) (v8_1 : Int), V.loopN (V.loopF spec_IsLabel.E Tryz.f133.ntmps [1, 1, 0, 1, 0] [] (V.codeOf Tryz.f133) (spec_IsLabel.kt x0)) n (spec_IsLabel.s8 x0 v8_1) = spec_IsLabel.l8 x0 n v8_1 := by
  intro n
  induction n with
  | zero => intros; rw [V.loopN_z]; rfl
  | succ n ih =>
    intro v8_1
    rw [V.loopN_s, spec_IsLabel.r8]
    simp only [ih]
    first | exact (spec_IsLabel.u8 ..).symm | rfl
theorem spec_IsLabel.r7 (x0 : ByteArray) : V.joinF spec_IsLabel.E Tryz.f133.ntmps [1] [] (V.codeOf Tryz.f133) (spec_IsLabel.kt x0) (spec_IsLabel.s7 x0) = spec_IsLabel.g7 x0 (fun v8_1 => V.loopN (V.loopF spec_IsLabel.E Tryz.f133.ntmps [1, 1, 0, 1, 0] [] (V.codeOf Tryz.f133) (spec_IsLabel.kt x0)) V.KK (spec_IsLabel.s8 x0 v8_1)) := by kernel_rfl
theorem spec_IsLabel.e7 (x0 : ByteArray) : V.jn (V.joinF spec_IsLabel.E Tryz.f133.ntmps [1] [] (V.codeOf Tryz.f133) (spec_IsLabel.kt x0)) (spec_IsLabel.s7 x0) = spec_IsLabel.l7 x0 := by
  rw [V.jn_eq, spec_IsLabel.r7]
  simp only [spec_IsLabel.e8]
  rfl
theorem spec_IsLabel.v (x0 : ByteArray) : V.evBody spec_IsLabel.E spec_IsLabel.con Tryz.f133 ((x0) : ByteArray) = spec_IsLabel.b x0 (V.jn (V.joinF spec_IsLabel.E Tryz.f133.ntmps [1] [] (V.codeOf Tryz.f133) (spec_IsLabel.kt x0)) (spec_IsLabel.s7 x0)) := by kernel_rfl
theorem spec_IsLabel.eq (x0 : ByteArray) : V.evBody spec_IsLabel.E spec_IsLabel.con Tryz.f133 ((x0) : ByteArray) = spec_IsLabel x0 := by
  rw [spec_IsLabel.v]
  simp only [spec_IsLabel.e7]
  rfl
theorem spec_IsLabel.ok : V.Valid Tryz.prog 133 spec_IsLabel.con :=
  V.fo (V.tab_cons spec_l1In.ok V.tab_nil) Tryz.func133 (by kernel_rfl) (fun x y h => (show V.evBody spec_IsLabel.E spec_IsLabel.con Tryz.f133 x = _ from spec_IsLabel.eq x).trans (V.cfl (by kernel_rfl) h))
noncomputable abbrev spec_IsPath.con : V.Con := ⟨(.cons (.sl (.cons .str .nil)) .nil), (.cons .bool .nil), fun (x : List ByteArray) => spec_IsPath x, [], [(false, 1)], [(false, 1)], [false], []⟩
noncomputable abbrev spec_IsPath.E : V.Env := V.mkE V.tys [(34, spec_l1In.con), (133, spec_IsLabel.con)] [(4, [0, 3], [])] [] [] [] []
noncomputable abbrev spec_IsPath.kt (x0 : List ByteArray) : V.Kt Bool := V.ktOf spec_IsPath.E spec_IsPath.con Tryz.f134 ((x0) : List ByteArray)
noncomputable abbrev spec_IsPath.s4 (x0 : List ByteArray) (v4_1 : Int) : V.St := ⟨[(0, .v false [.val (.sl (.cons .str .nil) x0)]), (3, .v false [.val (.int .i64 v4_1)])], []⟩
theorem spec_IsPath.r4 (x0 : List ByteArray) (R : V.St → Option Bool) (v4_1 : Int) : V.loopF spec_IsPath.E Tryz.f134.ntmps [1, 0, 1, 0] [] (V.codeOf Tryz.f134) (spec_IsPath.kt x0) R (spec_IsPath.s4 x0 v4_1) = spec_IsPath.g4 x0 (fun v4_1 => R (spec_IsPath.s4 x0 v4_1)) v4_1 := by kernel_rfl
theorem spec_IsPath.e4 (x0 : List ByteArray) : ∀ (n : Nat) (v4_1 : Int), V.loopN (V.loopF spec_IsPath.E Tryz.f134.ntmps [1, 0, 1, 0] [] (V.codeOf Tryz.f134) (spec_IsPath.kt x0)) n (spec_IsPath.s4 x0 v4_1) = spec_IsPath.l4 x0 n v4_1 := by
  intro n
  induction n with
  | zero => intros; rw [V.loopN_z]; rfl
  | succ n ih =>
    intro v4_1
    rw [V.loopN_s, spec_IsPath.r4]
    simp only [ih]
    first | exact (spec_IsPath.u4 ..).symm | rfl
theorem spec_IsPath.v (x0 : List ByteArray) : V.evBody spec_IsPath.E spec_IsPath.con Tryz.f134 ((x0) : List ByteArray) = spec_IsPath.b x0 (fun v4_1 => V.loopN (V.loopF spec_IsPath.E Tryz.f134.ntmps [1, 0, 1, 0] [] (V.codeOf Tryz.f134) (spec_IsPath.kt x0)) V.KK (spec_IsPath.s4 x0 v4_1)) := by kernel_rfl
theorem spec_IsPath.eq (x0 : List ByteArray) : V.evBody spec_IsPath.E spec_IsPath.con Tryz.f134 ((x0) : List ByteArray) = spec_IsPath x0 := by
  rw [spec_IsPath.v]
  simp only [spec_IsPath.e4]
  rfl
theorem spec_IsPath.ok : V.Valid Tryz.prog 134 spec_IsPath.con :=
  V.fo (V.tab_cons spec_l1In.ok (V.tab_cons spec_IsLabel.ok V.tab_nil)) Tryz.func134 (by kernel_rfl) (fun x y h => (show V.evBody spec_IsPath.E spec_IsPath.con Tryz.f134 x = _ from spec_IsPath.eq x).trans (V.cfl (by kernel_rfl) h))
noncomputable abbrev spec_IsEntry.con : V.Con := ⟨V.eEntry, (.cons .bool .nil), fun (x : ByteArray × Int × Int × List ByteArray) => spec_IsEntry x, [], [(true, 4)], [(false, 1)], [false], []⟩
noncomputable abbrev spec_IsEntry.E : V.Env := V.mkE V.tys [(34, spec_l1In.con), (133, spec_IsLabel.con), (134, spec_IsPath.con)] [] [] [] [] []
theorem spec_IsEntry.eq (x0 : TEntry) : V.evBody spec_IsEntry.E spec_IsEntry.con Tryz.f124 ((x0.1, x0.2.1, x0.2.2.1, x0.2.2.2) : ByteArray × Int × Int × List ByteArray) = spec_IsEntry x0 := by kernel_rfl
theorem spec_IsEntry.ok : V.Valid Tryz.prog 124 spec_IsEntry.con :=
  V.fo (V.tab_cons spec_l1In.ok (V.tab_cons spec_IsLabel.ok (V.tab_cons spec_IsPath.ok V.tab_nil))) Tryz.func124 (by kernel_rfl) (fun x y h => (show V.evBody spec_IsEntry.E spec_IsEntry.con Tryz.f124 x = _ from spec_IsEntry.eq x).trans (V.cfl (by kernel_rfl) h))
noncomputable abbrev spec_AreEntries.con : V.Con := ⟨(.cons (.sl V.eEntry) .nil), (.cons .bool .nil), fun (x : List TEntry) => spec_AreEntries x, [], [(false, 1)], [(false, 1)], [false], []⟩
noncomputable abbrev spec_AreEntries.E : V.Env := V.mkE V.tys [(108, spec_CompareLabels.con), (124, spec_IsEntry.con)] [(4, [0, 3], [])] [(4, 21)] [] [] []
noncomputable abbrev spec_AreEntries.kt (x0 : List TEntry) : V.Kt Bool := V.ktOf spec_AreEntries.E spec_AreEntries.con Tryz.f104 ((x0) : List TEntry)
noncomputable abbrev spec_AreEntries.s4 (x0 : List TEntry) (v4_1 : Int) : V.St := ⟨[(0, .v false [.val (.sl V.eEntry x0)]), (3, .v false [.val (.int .i64 v4_1)])], []⟩
theorem spec_AreEntries.r4 (x0 : List TEntry) (R : V.St → Option Bool) (v4_1 : Int) : V.loopF spec_AreEntries.E Tryz.f104.ntmps [1, 0, 1, 0] [] (V.codeOf Tryz.f104) (spec_AreEntries.kt x0) R (spec_AreEntries.s4 x0 v4_1) = spec_AreEntries.g4 x0 (fun v4_1 => R (spec_AreEntries.s4 x0 v4_1)) v4_1 := by kernel_rfl
theorem spec_AreEntries.e4 (x0 : List TEntry) : ∀ (n : Nat) (v4_1 : Int), V.loopN (V.loopF spec_AreEntries.E Tryz.f104.ntmps [1, 0, 1, 0] [] (V.codeOf Tryz.f104) (spec_AreEntries.kt x0)) n (spec_AreEntries.s4 x0 v4_1) = spec_AreEntries.l4 x0 n v4_1 := by
  intro n
  induction n with
  | zero => intros; rw [V.loopN_z]; rfl
  | succ n ih =>
    intro v4_1
    rw [V.loopN_s, spec_AreEntries.r4]
    simp only [ih]
    first | exact (spec_AreEntries.u4 ..).symm | rfl
theorem spec_AreEntries.v (x0 : List TEntry) : V.evBody spec_AreEntries.E spec_AreEntries.con Tryz.f104 ((x0) : List TEntry) = spec_AreEntries.b x0 (fun v4_1 => V.loopN (V.loopF spec_AreEntries.E Tryz.f104.ntmps [1, 0, 1, 0] [] (V.codeOf Tryz.f104) (spec_AreEntries.kt x0)) V.KK (spec_AreEntries.s4 x0 v4_1)) := by kernel_rfl
theorem spec_AreEntries.eq (x0 : List TEntry) : V.evBody spec_AreEntries.E spec_AreEntries.con Tryz.f104 ((x0) : List TEntry) = spec_AreEntries x0 := by
  rw [spec_AreEntries.v]
  simp only [spec_AreEntries.e4]
  rfl
theorem spec_AreEntries.ok : V.Valid Tryz.prog 104 spec_AreEntries.con :=
  V.fo (V.tab_cons spec_CompareLabels.ok (V.tab_cons spec_IsEntry.ok V.tab_nil)) Tryz.func104 (by kernel_rfl) (fun x y h => (show V.evBody spec_AreEntries.E spec_AreEntries.con Tryz.f104 x = _ from spec_AreEntries.eq x).trans (V.cfl (by kernel_rfl) h))
noncomputable abbrev spec_l9Copy.con : V.Con := ⟨(.cons (.sl V.eEntry) .nil), (.cons (.sl V.eEntry) .nil), fun (x : List TEntry) => spec_l9Copy x, [], [(false, 1)], [(false, 1)], [true], []⟩
noncomputable abbrev spec_l9Copy.E : V.Env := V.mkE V.tys [(109, spec_l8Copy.con)] [(6, [0, 3, 4], [(64000038400192, V.eEntry, true)])] [] [] [] []
noncomputable abbrev spec_l9Copy.kt (x0 : List TEntry) : V.Kt (List TEntry) := V.ktOf spec_l9Copy.E spec_l9Copy.con Tryz.f110 ((x0) : List TEntry)
noncomputable abbrev spec_l9Copy.s6 (x0 : List TEntry) (v6_1 : Int) (v6_2 : List TEntry) : V.St := ⟨[(0, .v false [.val (.sl V.eEntry x0)]), (3, .v false [.ref 64000038400192]), (4, .v false [.val (.int .i64 v6_1)])], [(64000038400192, .row V.eEntry true v6_2)]⟩
theorem spec_l9Copy.r6 (x0 : List TEntry) (R : V.St → Option (List TEntry)) (v6_1 : Int) (v6_2 : List TEntry) : V.loopF spec_l9Copy.E Tryz.f110.ntmps [1, 1, 0, 1, 0] [] (V.codeOf Tryz.f110) (spec_l9Copy.kt x0) R (spec_l9Copy.s6 x0 v6_1 v6_2) = spec_l9Copy.g6 x0 (fun v6_1 v6_2 => R (spec_l9Copy.s6 x0 v6_1 v6_2)) v6_1 v6_2 := by kernel_rfl
theorem spec_l9Copy.e6 (x0 : List TEntry) : ∀ (n : Nat) (v6_1 : Int) (v6_2 : List TEntry), V.loopN (V.loopF spec_l9Copy.E Tryz.f110.ntmps [1, 1, 0, 1, 0] [] (V.codeOf Tryz.f110) (spec_l9Copy.kt x0)) n (spec_l9Copy.s6 x0 v6_1 v6_2) = spec_l9Copy.l6 x0 n v6_1 v6_2 := by
  intro n
  induction n with
  | zero => intros; rw [V.loopN_z]; rfl
  | succ n ih =>
    intro v6_1 v6_2
    rw [V.loopN_s, spec_l9Copy.r6]
    simp only [ih]
    first | exact (spec_l9Copy.u6 ..).symm | rfl
theorem spec_l9Copy.v (x0 : List TEntry) : V.evBody spec_l9Copy.E spec_l9Copy.con Tryz.f110 ((x0) : List TEntry) = spec_l9Copy.b x0 (fun v6_1 v6_2 => V.loopN (V.loopF spec_l9Copy.E Tryz.f110.ntmps [1, 1, 0, 1, 0] [] (V.codeOf Tryz.f110) (spec_l9Copy.kt x0)) V.KK (spec_l9Copy.s6 x0 v6_1 v6_2)) := by kernel_rfl
theorem spec_l9Copy.eq (x0 : List TEntry) : V.evBody spec_l9Copy.E spec_l9Copy.con Tryz.f110 ((x0) : List TEntry) = spec_l9Copy x0 := by
  rw [spec_l9Copy.v]
  simp only [spec_l9Copy.e6]
  rfl
theorem spec_l9Copy.ok : V.Valid Tryz.prog 110 spec_l9Copy.con :=
  V.fo (V.tab_cons spec_l8Copy.ok V.tab_nil) Tryz.func110 (by kernel_rfl) (fun x y h => (show V.evBody spec_l9Copy.E spec_l9Copy.con Tryz.f110 x = _ from spec_l9Copy.eq x).trans (V.cfl (by kernel_rfl) h))
noncomputable abbrev spec_PutEntry.con : V.Con := ⟨(.cons (.sl V.eEntry) (.cons .str (.cons (.int .i64) (.cons (.int .i64) (.cons (.sl (.cons .str .nil)) .nil))))), (.cons (.sl V.eEntry) (.cons .bool .nil)), fun (x : List TEntry × ByteArray × Int × Int × List ByteArray) => spec_PutEntry x.1 x.2, [], [(false, 1), (true, 4)], [(false, 1), (false, 1)], [true, false], []⟩
noncomputable abbrev spec_PutEntry.E : V.Env := V.mkE V.tys [(104, spec_AreEntries.con), (108, spec_CompareLabels.con), (109, spec_l8Copy.con), (110, spec_l9Copy.con)] [(8, [0, 3, 6, 7, 8], [(64000051200384, V.eEntry, true)]), (17, [0, 3, 6, 7, 8, 9, 30], []), (21, [0, 3, 6, 7, 8, 9], []), (29, [0, 6], []), (31, [0, 6, 60], [])] [(6, 7)] [] [] []
noncomputable abbrev spec_PutEntry.kt (x0 : List TEntry) (x1 : TEntry) : V.Kt (List TEntry × Bool) := V.ktOf spec_PutEntry.E spec_PutEntry.con Tryz.f83 ((x0, x1.1, x1.2.1, x1.2.2.1, x1.2.2.2) : List TEntry × ByteArray × Int × Int × List ByteArray)
noncomputable abbrev spec_PutEntry.s21 (x0 : List TEntry) (x1 : TEntry) (v8_2 : Int) (y1 : Int) (v21_1 : Bool) (v21_8 : List TEntry) : V.St := ⟨[(0, .v false [.val (.sl V.eEntry x0)]), (3, .v false [.ptr 64000 0]), (6, .v false [.ref 64000134400384]), (7, .v false [.val (.bool v21_1)]), (8, .v false [.val (.int .i64 v8_2)]), (9, .v false [.val (.int .i64 y1)])], [(64000, .box [.val (.str x1.1), .val (.int .i64 x1.2.1), .val (.int .i64 x1.2.2.1), .val (.sl (.cons .str .nil) x1.2.2.2)]), (64000134400384, .row V.eEntry true v21_8)]⟩
noncomputable abbrev spec_PutEntry.s17 (x0 : List TEntry) (x1 : TEntry) (v8_1 : Bool) (v8_2 : Int) (v8_7 : List TEntry) (y1 : Int) (v17_4 : Bool) : V.St := ⟨[(0, .v false [.val (.sl V.eEntry x0)]), (3, .v false [.ptr 64000 0]), (6, .v false [.ref 64000108800384]), (7, .v false [.val (.bool v8_1)]), (8, .v false [.val (.int .i64 v8_2)]), (9, .v false [.val (.int .i64 y1)]), (30, .v false [.val (.bool v17_4)])], [(64000, .box [.val (.str x1.1), .val (.int .i64 x1.2.1), .val (.int .i64 x1.2.2.1), .val (.sl (.cons .str .nil) x1.2.2.2)]), (64000108800384, .row V.eEntry true v8_7)]⟩
noncomputable abbrev spec_PutEntry.s31 (x0 : List TEntry) (v29_1 : List TEntry) (v31_1 : Bool) : V.St := ⟨[(0, .v false [.val (.sl V.eEntry x0)]), (6, .v false [.ref 64000198400384]), (60, .v false [.val (.bool v31_1)])], [(64000198400384, .row V.eEntry true v29_1)]⟩
noncomputable abbrev spec_PutEntry.s29 (x0 : List TEntry) (v29_1 : List TEntry) : V.St := ⟨[(0, .v false [.val (.sl V.eEntry x0)]), (6, .v false [.ref 64000185600384])], [(64000185600384, .row V.eEntry true v29_1)]⟩
noncomputable abbrev spec_PutEntry.s8 (x0 : List TEntry) (x1 : TEntry) (v8_1 : Bool) (v8_2 : Int) (v8_7 : List TEntry) : V.St := ⟨[(0, .v false [.val (.sl V.eEntry x0)]), (3, .v false [.ptr 64000 0]), (6, .v false [.ref 64000051200384]), (7, .v false [.val (.bool v8_1)]), (8, .v false [.val (.int .i64 v8_2)])], [(64000, .box [.val (.str x1.1), .val (.int .i64 x1.2.1), .val (.int .i64 x1.2.2.1), .val (.sl (.cons .str .nil) x1.2.2.2)]), (64000051200384, .row V.eEntry true v8_7)]⟩
theorem spec_PutEntry.r21 (x0 : List TEntry) (x1 : TEntry) (v8_2 : Int) (y1 : Int) (R8 : V.St → Option (List TEntry × Bool)) (v21_1 : Bool) (v21_8 : List TEntry) : V.joinF spec_PutEntry.E Tryz.f83.ntmps [1, 1, 1, 0, 1, 0, 0, 1, 0, 0, 1] [R8] (V.codeOf Tryz.f83) (spec_PutEntry.kt x0 x1) (spec_PutEntry.s21 x0 x1 v8_2 y1 v21_1 v21_8) = spec_PutEntry.g21 x0 x1 v8_2 y1 (fun v8_1 v8_2 v8_7 => R8 (spec_PutEntry.s8 x0 x1 v8_1 v8_2 v8_7)) v21_1 v21_8 := by kernel_rfl
theorem spec_PutEntry.e21 (x0 : List TEntry) (x1 : TEntry) (v8_2 : Int) (y1 : Int) (R8 : V.St → Option (List TEntry × Bool)) (v21_1 : Bool) (v21_8 : List TEntry) : V.jn (V.joinF spec_PutEntry.E Tryz.f83.ntmps [1, 1, 1, 0, 1, 0, 0, 1, 0, 0, 1] [R8] (V.codeOf Tryz.f83) (spec_PutEntry.kt x0 x1)) (spec_PutEntry.s21 x0 x1 v8_2 y1 v21_1 v21_8) = spec_PutEntry.l21 x0 x1 v8_2 y1 (fun v8_1 v8_2 v8_7 => R8 (spec_PutEntry.s8 x0 x1 v8_1 v8_2 v8_7)) v21_1 v21_8 := by
  rw [V.jn_eq, spec_PutEntry.r21]
  rfl
theorem spec_PutEntry.r17 (x0 : List TEntry) (x1 : TEntry) (v8_1 : Bool) (v8_2 : Int) (v8_7 : List TEntry) (y1 : Int) (R8 : V.St → Option (List TEntry × Bool)) (v17_4 : Bool) : V.joinF spec_PutEntry.E Tryz.f83.ntmps [1, 1, 1, 0, 1, 0, 0, 1, 0, 0, 1, 0] [R8] (V.codeOf Tryz.f83) (spec_PutEntry.kt x0 x1) (spec_PutEntry.s17 x0 x1 v8_1 v8_2 v8_7 y1 v17_4) = spec_PutEntry.g17 x0 x1 v8_1 v8_2 v8_7 y1 (fun v8_1 v8_2 v8_7 => R8 (spec_PutEntry.s8 x0 x1 v8_1 v8_2 v8_7)) (fun y1 v21_1 v21_8 => V.jn (V.joinF spec_PutEntry.E Tryz.f83.ntmps [1, 1, 1, 0, 1, 0, 0, 1, 0, 0, 1] [R8] (V.codeOf Tryz.f83) (spec_PutEntry.kt x0 x1)) (spec_PutEntry.s21 x0 x1 v8_2 y1 v21_1 v21_8)) v17_4 := by kernel_rfl
theorem spec_PutEntry.e17 (x0 : List TEntry) (x1 : TEntry) (v8_1 : Bool) (v8_2 : Int) (v8_7 : List TEntry) (y1 : Int) (R8 : V.St → Option (List TEntry × Bool)) (v17_4 : Bool) : V.jn (V.joinF spec_PutEntry.E Tryz.f83.ntmps [1, 1, 1, 0, 1, 0, 0, 1, 0, 0, 1, 0] [R8] (V.codeOf Tryz.f83) (spec_PutEntry.kt x0 x1)) (spec_PutEntry.s17 x0 x1 v8_1 v8_2 v8_7 y1 v17_4) = spec_PutEntry.l17 x0 x1 v8_1 v8_2 v8_7 y1 (fun v8_1 v8_2 v8_7 => R8 (spec_PutEntry.s8 x0 x1 v8_1 v8_2 v8_7)) v17_4 := by
  rw [V.jn_eq, spec_PutEntry.r17]
  simp only [spec_PutEntry.e21]
  rfl
theorem spec_PutEntry.r31 (x0 : List TEntry) (x1 : TEntry) (v29_1 : List TEntry) (v31_1 : Bool) : V.joinF spec_PutEntry.E Tryz.f83.ntmps [1, 1, 1, 1, 1, 0] [] (V.codeOf Tryz.f83) (spec_PutEntry.kt x0 x1) (spec_PutEntry.s31 x0 v29_1 v31_1) = spec_PutEntry.g31 x0 v29_1 v31_1 := by kernel_rfl
theorem spec_PutEntry.e31 (x0 : List TEntry) (x1 : TEntry) (v29_1 : List TEntry) (v31_1 : Bool) : V.jn (V.joinF spec_PutEntry.E Tryz.f83.ntmps [1, 1, 1, 1, 1, 0] [] (V.codeOf Tryz.f83) (spec_PutEntry.kt x0 x1)) (spec_PutEntry.s31 x0 v29_1 v31_1) = spec_PutEntry.l31 x0 v29_1 v31_1 := by
  rw [V.jn_eq, spec_PutEntry.r31]
  rfl
theorem spec_PutEntry.r29 (x0 : List TEntry) (x1 : TEntry) (v29_1 : List TEntry) : V.joinF spec_PutEntry.E Tryz.f83.ntmps [1, 1, 1, 1] [] (V.codeOf Tryz.f83) (spec_PutEntry.kt x0 x1) (spec_PutEntry.s29 x0 v29_1) = spec_PutEntry.g29 x0 (fun v31_1 => V.jn (V.joinF spec_PutEntry.E Tryz.f83.ntmps [1, 1, 1, 1, 1, 0] [] (V.codeOf Tryz.f83) (spec_PutEntry.kt x0 x1)) (spec_PutEntry.s31 x0 v29_1 v31_1)) v29_1 := by kernel_rfl
theorem spec_PutEntry.e29 (x0 : List TEntry) (x1 : TEntry) (v29_1 : List TEntry) : V.jn (V.joinF spec_PutEntry.E Tryz.f83.ntmps [1, 1, 1, 1] [] (V.codeOf Tryz.f83) (spec_PutEntry.kt x0 x1)) (spec_PutEntry.s29 x0 v29_1) = spec_PutEntry.l29 x0 v29_1 := by
  rw [V.jn_eq, spec_PutEntry.r29]
  simp only [spec_PutEntry.e31]
  rfl
theorem spec_PutEntry.r8 (x0 : List TEntry) (x1 : TEntry) (R : V.St → Option (List TEntry × Bool)) (v8_1 : Bool) (v8_2 : Int) (v8_7 : List TEntry) : V.loopF spec_PutEntry.E Tryz.f83.ntmps [1, 1, 1, 0, 1, 0] [] (V.codeOf Tryz.f83) (spec_PutEntry.kt x0 x1) R (spec_PutEntry.s8 x0 x1 v8_1 v8_2 v8_7) = spec_PutEntry.g8 x0 x1 (fun v8_1 v8_2 v8_7 => R (spec_PutEntry.s8 x0 x1 v8_1 v8_2 v8_7)) (fun y1 v17_4 => V.jn (V.joinF spec_PutEntry.E Tryz.f83.ntmps [1, 1, 1, 0, 1, 0, 0, 1, 0, 0, 1, 0] [R] (V.codeOf Tryz.f83) (spec_PutEntry.kt x0 x1)) (spec_PutEntry.s17 x0 x1 v8_1 v8_2 v8_7 y1 v17_4)) (fun v29_1 => V.jn (V.joinF spec_PutEntry.E Tryz.f83.ntmps [1, 1, 1, 1] [] (V.codeOf Tryz.f83) (spec_PutEntry.kt x0 x1)) (spec_PutEntry.s29 x0 v29_1)) v8_1 v8_2 v8_7 := by kernel_rfl
theorem spec_PutEntry.e8 (x0 : List TEntry) (x1 : TEntry) : ∀ (n : Nat) (v8_1 : Bool) (v8_2 : Int) (v8_7 : List TEntry), V.loopN (V.loopF spec_PutEntry.E Tryz.f83.ntmps [1, 1, 1, 0, 1, 0] [] (V.codeOf Tryz.f83) (spec_PutEntry.kt x0 x1)) n (spec_PutEntry.s8 x0 x1 v8_1 v8_2 v8_7) = spec_PutEntry.l8 x0 x1 n v8_1 v8_2 v8_7 := by
  intro n
  induction n with
  | zero => intros; rw [V.loopN_z]; rfl
  | succ n ih =>
    intro v8_1 v8_2 v8_7
    rw [V.loopN_s, spec_PutEntry.r8]
    simp only [spec_PutEntry.e17, spec_PutEntry.e29, ih]
    first | exact (spec_PutEntry.u8 ..).symm | rfl
theorem spec_PutEntry.v (x0 : List TEntry) (x1 : TEntry) : V.evBody spec_PutEntry.E spec_PutEntry.con Tryz.f83 ((x0, x1.1, x1.2.1, x1.2.2.1, x1.2.2.2) : List TEntry × ByteArray × Int × Int × List ByteArray) = spec_PutEntry.b x0 x1 (fun v8_1 v8_2 v8_7 => V.loopN (V.loopF spec_PutEntry.E Tryz.f83.ntmps [1, 1, 1, 0, 1, 0] [] (V.codeOf Tryz.f83) (spec_PutEntry.kt x0 x1)) V.KK (spec_PutEntry.s8 x0 x1 v8_1 v8_2 v8_7)) := by kernel_rfl
theorem spec_PutEntry.eq (x0 : List TEntry) (x1 : TEntry) : V.evBody spec_PutEntry.E spec_PutEntry.con Tryz.f83 ((x0, x1.1, x1.2.1, x1.2.2.1, x1.2.2.2) : List TEntry × ByteArray × Int × Int × List ByteArray) = spec_PutEntry x0 x1 := by
  rw [spec_PutEntry.v]
  simp only [spec_PutEntry.e8]
  rfl
theorem spec_PutEntry.ok : V.Valid Tryz.prog 83 spec_PutEntry.con :=
  V.fo (V.tab_cons spec_AreEntries.ok (V.tab_cons spec_CompareLabels.ok (V.tab_cons spec_l8Copy.ok (V.tab_cons spec_l9Copy.ok V.tab_nil)))) Tryz.func83 (by kernel_rfl) (fun x y h => (show V.evBody spec_PutEntry.E spec_PutEntry.con Tryz.f83 x = _ from spec_PutEntry.eq x.1 x.2).trans (V.cfl (by kernel_rfl) h))
noncomputable abbrev spec_l9List.con : V.Con := ⟨(.cons (.ptr (.cons (.sl (.cons (.int .u8) .nil)) (.cons (.int .i64) (.cons (.int .i64) .nil)))) .nil), (.cons (.ptr (.cons (.sl (.cons (.int .u8) .nil)) (.cons (.int .i64) (.cons (.int .i64) .nil)))) (.cons (.sl V.eEntry) .nil)), fun (x : (Tl1Cur)) => spec_l9List x, [(0, false)], [(false, 1)], [(false, 1)], [true], []⟩
noncomputable abbrev spec_l9List.E : V.Env := V.mkE V.tys [(41, spec_l1Below.con), (83, spec_PutEntry.con), (84, spec_l8Entry.con)] [(6, [0, 3, 4], [(64000038400192, V.eEntry, true)])] [] [] [] []
noncomputable abbrev spec_l9List.kt (x0 : (Tl1Cur)) : V.Kt ((Tl1Cur) × List TEntry) := V.ktOf spec_l9List.E spec_l9List.con Tryz.f54 ((x0) : (Tl1Cur))
noncomputable abbrev spec_l9List.s6 (x0 : (Tl1Cur)) (v6_0 : Int) (v6_2 : Int) (v6_3 : Int) (v6_4 : List TEntry) : V.St := ⟨[(0, .v false [.ptr 0 0]), (3, .v false [.ref 64000038400192]), (4, .v false [.val (.int .i64 v6_0)])], [(0, .box [.val (.sl (.cons (.int .u8) .nil) x0.1), .val (.int .i64 v6_2), .val (.int .i64 v6_3)]), (64000038400192, .row V.eEntry true v6_4)]⟩
theorem spec_l9List.r6 (x0 : (Tl1Cur)) (R : V.St → Option ((Tl1Cur) × List TEntry)) (v6_0 : Int) (v6_2 : Int) (v6_3 : Int) (v6_4 : List TEntry) : V.loopF spec_l9List.E Tryz.f54.ntmps [1, 1, 0, 1, 0] [] (V.codeOf Tryz.f54) (spec_l9List.kt x0) R (spec_l9List.s6 x0 v6_0 v6_2 v6_3 v6_4) = spec_l9List.g6 x0 (fun v6_0 v6_2 v6_3 v6_4 => R (spec_l9List.s6 x0 v6_0 v6_2 v6_3 v6_4)) v6_0 v6_2 v6_3 v6_4 := by kernel_rfl
theorem spec_l9List.e6 (x0 : (Tl1Cur)) : ∀ (n : Nat) (v6_0 : Int) (v6_2 : Int) (v6_3 : Int) (v6_4 : List TEntry), V.loopN (V.loopF spec_l9List.E Tryz.f54.ntmps [1, 1, 0, 1, 0] [] (V.codeOf Tryz.f54) (spec_l9List.kt x0)) n (spec_l9List.s6 x0 v6_0 v6_2 v6_3 v6_4) = spec_l9List.l6 x0 n v6_0 v6_2 v6_3 v6_4 := by
  intro n
  induction n with
  | zero => intros; rw [V.loopN_z]; rfl
  | succ n ih =>
    intro v6_0 v6_2 v6_3 v6_4
    rw [V.loopN_s, spec_l9List.r6]
    simp only [ih]
    first | exact (spec_l9List.u6 ..).symm | rfl
theorem spec_l9List.v (x0 : (Tl1Cur)) : V.evBody spec_l9List.E spec_l9List.con Tryz.f54 ((x0) : (Tl1Cur)) = spec_l9List.b x0 (fun v6_0 v6_2 v6_3 v6_4 => V.loopN (V.loopF spec_l9List.E Tryz.f54.ntmps [1, 1, 0, 1, 0] [] (V.codeOf Tryz.f54) (spec_l9List.kt x0)) V.KK (spec_l9List.s6 x0 v6_0 v6_2 v6_3 v6_4)) := by kernel_rfl
theorem spec_l9List.eq (x0 : (Tl1Cur)) : V.evBody spec_l9List.E spec_l9List.con Tryz.f54 ((x0) : (Tl1Cur)) = spec_l9List x0 := by
  rw [spec_l9List.v]
  simp only [spec_l9List.e6]
  rfl
theorem spec_l9List.ok : V.Valid Tryz.prog 54 spec_l9List.con :=
  V.fo (V.tab_cons spec_l1Below.ok (V.tab_cons spec_PutEntry.ok (V.tab_cons spec_l8Entry.ok V.tab_nil))) Tryz.func54 (by kernel_rfl) (fun x y h => (show V.evBody spec_l9List.E spec_l9List.con Tryz.f54 x = _ from spec_l9List.eq x).trans (V.cfl (by kernel_rfl) h))
noncomputable abbrev spec_KeysInts.con : V.Con := ⟨(.cons (.sl (.cons (.int .i64) .nil)) (.cons (.int .i64) .nil)), (.cons (.sl (.cons (.int .i64) .nil)) .nil), fun (x : List Int × Int) => spec_KeysInts x, [], [(true, 2)], [(false, 1)], [true], []⟩
noncomputable abbrev spec_KeysInts.E : V.Env := V.mkE V.tys [] [] [] [] [] []
theorem spec_KeysInts.eq (x0 : TKeys) : V.evBody spec_KeysInts.E spec_KeysInts.con Tryz.f81 ((x0.1, x0.2) : List Int × Int) = spec_KeysInts x0 := by kernel_rfl
theorem spec_KeysInts.ok : V.Valid Tryz.prog 81 spec_KeysInts.con :=
  V.fo V.tab_nil Tryz.func81 (by kernel_rfl) (fun x y h => (show V.evBody spec_KeysInts.E spec_KeysInts.con Tryz.f81 x = _ from spec_KeysInts.eq x).trans (V.cfl (by kernel_rfl) h))
noncomputable abbrev spec_Mod.con : V.Con := ⟨(.cons (.int .i64) (.cons (.int .i64) .nil)), (.cons (.int .i64) .nil), fun (x : Int × Int) => spec_Mod x.1 x.2, [], [(false, 1), (false, 1)], [(false, 1)], [false], []⟩
noncomputable abbrev spec_Mod.E : V.Env := V.mkE V.tys [(34, spec_l1In.con)] [] [] [] [] []
theorem spec_Mod.eq (x0 : Int) (x1 : Int) : V.evBody spec_Mod.E spec_Mod.con Tryz.f107 ((x0, x1) : Int × Int) = spec_Mod x0 x1 := by kernel_rfl
theorem spec_Mod.ok : V.Valid Tryz.prog 107 spec_Mod.con :=
  V.fo (V.tab_cons spec_l1In.ok V.tab_nil) Tryz.func107 (by kernel_rfl) (fun x y h => (show V.evBody spec_Mod.E spec_Mod.con Tryz.f107 x = _ from spec_Mod.eq x.1 x.2).trans (V.cfl (by kernel_rfl) h))
noncomputable abbrev spec_Hash.con : V.Con := ⟨(.cons (.sl (.cons (.int .i64) .nil)) .nil), (.cons (.int .i64) .nil), fun (x : List Int) => spec_Hash x, [], [(false, 1)], [(false, 1)], [false], []⟩
noncomputable abbrev spec_Hash.E : V.Env := V.mkE V.tys [(107, spec_Mod.con)] [(6, [0, 3, 4], [])] [] [] [] []
noncomputable abbrev spec_Hash.kt (x0 : List Int) : V.Kt Int := V.ktOf spec_Hash.E spec_Hash.con Tryz.f82 ((x0) : List Int)
noncomputable abbrev spec_Hash.s6 (x0 : List Int) (v6_1 : Int) (v6_2 : Int) : V.St := ⟨[(0, .v false [.val (.sl (.cons (.int .i64) .nil) x0)]), (3, .v false [.val (.int .i64 v6_1)]), (4, .v false [.val (.int .i64 v6_2)])], []⟩
theorem spec_Hash.r6 (x0 : List Int) (R : V.St → Option Int) (v6_1 : Int) (v6_2 : Int) : V.loopF spec_Hash.E Tryz.f82.ntmps [1, 1, 0, 1, 0] [] (V.codeOf Tryz.f82) (spec_Hash.kt x0) R (spec_Hash.s6 x0 v6_1 v6_2) = spec_Hash.g6 x0 (fun v6_1 v6_2 => R (spec_Hash.s6 x0 v6_1 v6_2)) v6_1 v6_2 := by kernel_rfl
theorem spec_Hash.e6 (x0 : List Int) : ∀ (n : Nat) (v6_1 : Int) (v6_2 : Int), V.loopN (V.loopF spec_Hash.E Tryz.f82.ntmps [1, 1, 0, 1, 0] [] (V.codeOf Tryz.f82) (spec_Hash.kt x0)) n (spec_Hash.s6 x0 v6_1 v6_2) = spec_Hash.l6 x0 n v6_1 v6_2 := by
  intro n
  induction n with
  | zero => intros; rw [V.loopN_z]; rfl
  | succ n ih =>
    intro v6_1 v6_2
    rw [V.loopN_s, spec_Hash.r6]
    simp only [ih]
    first | exact (spec_Hash.u6 ..).symm | rfl
theorem spec_Hash.v (x0 : List Int) : V.evBody spec_Hash.E spec_Hash.con Tryz.f82 ((x0) : List Int) = spec_Hash.b x0 (fun v6_1 v6_2 => V.loopN (V.loopF spec_Hash.E Tryz.f82.ntmps [1, 1, 0, 1, 0] [] (V.codeOf Tryz.f82) (spec_Hash.kt x0)) V.KK (spec_Hash.s6 x0 v6_1 v6_2)) := by kernel_rfl
theorem spec_Hash.eq (x0 : List Int) : V.evBody spec_Hash.E spec_Hash.con Tryz.f82 ((x0) : List Int) = spec_Hash x0 := by
  rw [spec_Hash.v]
  simp only [spec_Hash.e6]
  rfl
theorem spec_Hash.ok : V.Valid Tryz.prog 82 spec_Hash.con :=
  V.fo (V.tab_cons spec_Mod.ok V.tab_nil) Tryz.func82 (by kernel_rfl) (fun x y h => (show V.evBody spec_Hash.E spec_Hash.con Tryz.f82 x = _ from spec_Hash.eq x).trans (V.cfl (by kernel_rfl) h))
noncomputable abbrev spec_ZoneOf.con : V.Con := ⟨(.cons (.sl (.cons (.int .i64) .nil)) (.cons (.int .i64) (.cons (.int .i64) .nil))), (.cons (.int .i64) .nil), fun (x : List Int × Int × Int) => spec_ZoneOf (x.1, x.2.1) x.2.2, [], [(true, 2), (false, 1)], [(false, 1)], [false], []⟩
noncomputable abbrev spec_ZoneOf.E : V.Env := V.mkE V.tys [(81, spec_KeysInts.con), (82, spec_Hash.con)] [] [] [] [] []
theorem spec_ZoneOf.eq (x0 : TKeys) (x1 : Int) : V.evBody spec_ZoneOf.E spec_ZoneOf.con Tryz.f69 ((x0.1, x0.2, x1) : List Int × Int × Int) = spec_ZoneOf x0 x1 := by kernel_rfl
theorem spec_ZoneOf.ok : V.Valid Tryz.prog 69 spec_ZoneOf.con :=
  V.fo (V.tab_cons spec_KeysInts.ok (V.tab_cons spec_Hash.ok V.tab_nil)) Tryz.func69 (by kernel_rfl) (fun x y h => (show V.evBody spec_ZoneOf.E spec_ZoneOf.con Tryz.f69 x = _ from spec_ZoneOf.eq (x.1, x.2.1) x.2.2).trans (V.cfl (by kernel_rfl) h))
noncomputable abbrev spec_BytesToInts.con : V.Con := ⟨(.cons (.sl (.cons (.int .u8) .nil)) .nil), (.cons (.sl (.cons (.int .i64) .nil)) .nil), fun (x : List Int) => spec_BytesToInts x, [], [(false, 1)], [(false, 1)], [true], []⟩
noncomputable abbrev spec_BytesToInts.E : V.Env := V.mkE V.tys [] [(6, [0, 3, 4], [])] [] [] [] []
noncomputable abbrev spec_BytesToInts.kt (x0 : List Int) : V.Kt (List Int) := V.ktOf spec_BytesToInts.E spec_BytesToInts.con Tryz.f138 ((x0) : List Int)
noncomputable abbrev spec_BytesToInts.s6 (x0 : List Int) (v6_1 : Int) (v6_2 : List Int) : V.St := ⟨[(0, .v false [.val (.sl (.cons (.int .u8) .nil) x0)]), (3, .v false [.ref 64000038400192]), (4, .v false [.val (.int .i64 v6_1)])], [(64000038400192, .row (.cons (.int .i64) .nil) true v6_2)]⟩
theorem spec_BytesToInts.r6 (x0 : List Int) (R : V.St → Option (List Int)) (v6_1 : Int) (v6_2 : List Int) : V.loopF spec_BytesToInts.E Tryz.f138.ntmps [1, 1, 0, 1, 0] [] (V.codeOf Tryz.f138) (spec_BytesToInts.kt x0) R (spec_BytesToInts.s6 x0 v6_1 v6_2) = spec_BytesToInts.g6 x0 (fun v6_1 v6_2 => R (spec_BytesToInts.s6 x0 v6_1 v6_2)) v6_1 v6_2 := by kernel_rfl
theorem spec_BytesToInts.e6 (x0 : List Int) : ∀ (n : Nat) (v6_1 : Int) (v6_2 : List Int), V.loopN (V.loopF spec_BytesToInts.E Tryz.f138.ntmps [1, 1, 0, 1, 0] [] (V.codeOf Tryz.f138) (spec_BytesToInts.kt x0)) n (spec_BytesToInts.s6 x0 v6_1 v6_2) = spec_BytesToInts.l6 x0 n v6_1 v6_2 := by
  intro n
  induction n with
  | zero => intros; rw [V.loopN_z]; rfl
  | succ n ih =>
    intro v6_1 v6_2
    rw [V.loopN_s, spec_BytesToInts.r6]
    simp only [ih]
    first | exact (spec_BytesToInts.u6 ..).symm | rfl
theorem spec_BytesToInts.v (x0 : List Int) : V.evBody spec_BytesToInts.E spec_BytesToInts.con Tryz.f138 ((x0) : List Int) = spec_BytesToInts.b x0 (fun v6_1 v6_2 => V.loopN (V.loopF spec_BytesToInts.E Tryz.f138.ntmps [1, 1, 0, 1, 0] [] (V.codeOf Tryz.f138) (spec_BytesToInts.kt x0)) V.KK (spec_BytesToInts.s6 x0 v6_1 v6_2)) := by kernel_rfl
theorem spec_BytesToInts.eq (x0 : List Int) : V.evBody spec_BytesToInts.E spec_BytesToInts.con Tryz.f138 ((x0) : List Int) = spec_BytesToInts x0 := by
  rw [spec_BytesToInts.v]
  simp only [spec_BytesToInts.e6]
  rfl
theorem spec_BytesToInts.ok : V.Valid Tryz.prog 138 spec_BytesToInts.con :=
  V.fo V.tab_nil Tryz.func138 (by kernel_rfl) (fun x y h => (show V.evBody spec_BytesToInts.E spec_BytesToInts.con Tryz.f138 x = _ from spec_BytesToInts.eq x).trans (V.cfl (by kernel_rfl) h))
noncomputable abbrev spec_LabelInts.con : V.Con := ⟨(.cons .str .nil), (.cons (.sl (.cons (.int .i64) .nil)) .nil), fun (x : ByteArray) => spec_LabelInts x, [], [(false, 1)], [(false, 1)], [true], []⟩
noncomputable abbrev spec_LabelInts.E : V.Env := V.mkE V.tys [(138, spec_BytesToInts.con)] [] [] [] [] []
theorem spec_LabelInts.eq (x0 : ByteArray) : V.evBody spec_LabelInts.E spec_LabelInts.con Tryz.f135 ((x0) : ByteArray) = spec_LabelInts x0 := by kernel_rfl
theorem spec_LabelInts.ok : V.Valid Tryz.prog 135 spec_LabelInts.con :=
  V.fo (V.tab_cons spec_BytesToInts.ok V.tab_nil) Tryz.func135 (by kernel_rfl) (fun x y h => (show V.evBody spec_LabelInts.E spec_LabelInts.con Tryz.f135 x = _ from spec_LabelInts.eq x).trans (V.cfl (by kernel_rfl) h))
noncomputable abbrev spec_EntryInts.con : V.Con := ⟨V.eEntry, (.cons (.sl (.cons (.int .i64) .nil)) .nil), fun (x : ByteArray × Int × Int × List ByteArray) => spec_EntryInts x, [], [(true, 4)], [(false, 1)], [true], []⟩
noncomputable abbrev spec_EntryInts.E : V.Env := V.mkE V.tys [(135, spec_LabelInts.con)] [(6, [1, 3, 4], [])] [(1, 11)] [] [] []
noncomputable abbrev spec_EntryInts.kt (x0 : TEntry) : V.Kt (List Int) := V.ktOf spec_EntryInts.E spec_EntryInts.con Tryz.f129 ((x0.1, x0.2.1, x0.2.2.1, x0.2.2.2) : ByteArray × Int × Int × List ByteArray)
noncomputable abbrev spec_EntryInts.s6 (x0 : TEntry) (v6_0 : Int) (v6_5 : List Int) : V.St := ⟨[(1, .v false [.ptr 64000 0]), (3, .v false [.ref 64000038400192]), (4, .v false [.val (.int .i64 v6_0)])], [(64000, .box [.val (.str x0.1), .val (.int .i64 x0.2.1), .val (.int .i64 x0.2.2.1), .val (.sl (.cons .str .nil) x0.2.2.2)]), (64000038400192, .row (.cons (.int .i64) .nil) true v6_5)]⟩
theorem spec_EntryInts.r6 (x0 : TEntry) (R : V.St → Option (List Int)) (v6_0 : Int) (v6_5 : List Int) : V.loopF spec_EntryInts.E Tryz.f129.ntmps [1, 1, 0, 1, 0] [] (V.codeOf Tryz.f129) (spec_EntryInts.kt x0) R (spec_EntryInts.s6 x0 v6_0 v6_5) = spec_EntryInts.g6 x0 (fun v6_0 v6_5 => R (spec_EntryInts.s6 x0 v6_0 v6_5)) v6_0 v6_5 := by kernel_rfl
theorem spec_EntryInts.e6 (x0 : TEntry) : ∀ (n : Nat) (v6_0 : Int) (v6_5 : List Int), V.loopN (V.loopF spec_EntryInts.E Tryz.f129.ntmps [1, 1, 0, 1, 0] [] (V.codeOf Tryz.f129) (spec_EntryInts.kt x0)) n (spec_EntryInts.s6 x0 v6_0 v6_5) = spec_EntryInts.l6 x0 n v6_0 v6_5 := by
  intro n
  induction n with
  | zero => intros; rw [V.loopN_z]; rfl
  | succ n ih =>
    intro v6_0 v6_5
    rw [V.loopN_s, spec_EntryInts.r6]
    simp only [ih]
    first | exact (spec_EntryInts.u6 ..).symm | rfl
theorem spec_EntryInts.v (x0 : TEntry) : V.evBody spec_EntryInts.E spec_EntryInts.con Tryz.f129 ((x0.1, x0.2.1, x0.2.2.1, x0.2.2.2) : ByteArray × Int × Int × List ByteArray) = spec_EntryInts.b x0 (fun v6_0 v6_5 => V.loopN (V.loopF spec_EntryInts.E Tryz.f129.ntmps [1, 1, 0, 1, 0] [] (V.codeOf Tryz.f129) (spec_EntryInts.kt x0)) V.KK (spec_EntryInts.s6 x0 v6_0 v6_5)) := by kernel_rfl
theorem spec_EntryInts.eq (x0 : TEntry) : V.evBody spec_EntryInts.E spec_EntryInts.con Tryz.f129 ((x0.1, x0.2.1, x0.2.2.1, x0.2.2.2) : ByteArray × Int × Int × List ByteArray) = spec_EntryInts x0 := by
  rw [spec_EntryInts.v]
  simp only [spec_EntryInts.e6]
  rfl
theorem spec_EntryInts.ok : V.Valid Tryz.prog 129 spec_EntryInts.con :=
  V.fo (V.tab_cons spec_LabelInts.ok V.tab_nil) Tryz.func129 (by kernel_rfl) (fun x y h => (show V.evBody spec_EntryInts.E spec_EntryInts.con Tryz.f129 x = _ from spec_EntryInts.eq x).trans (V.cfl (by kernel_rfl) h))
noncomputable abbrev spec_LeafOf.con : V.Con := ⟨V.eEntry, (.cons (.int .i64) .nil), fun (x : ByteArray × Int × Int × List ByteArray) => spec_LeafOf x, [], [(true, 4)], [(false, 1)], [false], []⟩
noncomputable abbrev spec_LeafOf.E : V.Env := V.mkE V.tys [(82, spec_Hash.con), (129, spec_EntryInts.con)] [] [] [] [] []
theorem spec_LeafOf.eq (x0 : TEntry) : V.evBody spec_LeafOf.E spec_LeafOf.con Tryz.f117 ((x0.1, x0.2.1, x0.2.2.1, x0.2.2.2) : ByteArray × Int × Int × List ByteArray) = spec_LeafOf x0 := by kernel_rfl
theorem spec_LeafOf.ok : V.Valid Tryz.prog 117 spec_LeafOf.con :=
  V.fo (V.tab_cons spec_Hash.ok (V.tab_cons spec_EntryInts.ok V.tab_nil)) Tryz.func117 (by kernel_rfl) (fun x y h => (show V.evBody spec_LeafOf.E spec_LeafOf.con Tryz.f117 x = _ from spec_LeafOf.eq x).trans (V.cfl (by kernel_rfl) h))
noncomputable abbrev spec_LeavesOf.con : V.Con := ⟨(.cons (.sl V.eEntry) .nil), (.cons (.sl (.cons (.int .i64) .nil)) .nil), fun (x : List TEntry) => spec_LeavesOf x, [], [(false, 1)], [(false, 1)], [true], []⟩
noncomputable abbrev spec_LeavesOf.E : V.Env := V.mkE V.tys [(117, spec_LeafOf.con)] [(6, [0, 3, 4], [(64000038400192, (.cons (.int .i64) .nil), true)])] [] [] [] []
noncomputable abbrev spec_LeavesOf.kt (x0 : List TEntry) : V.Kt (List Int) := V.ktOf spec_LeavesOf.E spec_LeavesOf.con Tryz.f87 ((x0) : List TEntry)
noncomputable abbrev spec_LeavesOf.s6 (x0 : List TEntry) (v6_1 : Int) (v6_2 : List Int) : V.St := ⟨[(0, .v false [.val (.sl V.eEntry x0)]), (3, .v false [.ref 64000038400192]), (4, .v false [.val (.int .i64 v6_1)])], [(64000038400192, .row (.cons (.int .i64) .nil) true v6_2)]⟩
theorem spec_LeavesOf.r6 (x0 : List TEntry) (R : V.St → Option (List Int)) (v6_1 : Int) (v6_2 : List Int) : V.loopF spec_LeavesOf.E Tryz.f87.ntmps [1, 1, 0, 1, 0] [] (V.codeOf Tryz.f87) (spec_LeavesOf.kt x0) R (spec_LeavesOf.s6 x0 v6_1 v6_2) = spec_LeavesOf.g6 x0 (fun v6_1 v6_2 => R (spec_LeavesOf.s6 x0 v6_1 v6_2)) v6_1 v6_2 := by kernel_rfl
theorem spec_LeavesOf.e6 (x0 : List TEntry) : ∀ (n : Nat) (v6_1 : Int) (v6_2 : List Int), V.loopN (V.loopF spec_LeavesOf.E Tryz.f87.ntmps [1, 1, 0, 1, 0] [] (V.codeOf Tryz.f87) (spec_LeavesOf.kt x0)) n (spec_LeavesOf.s6 x0 v6_1 v6_2) = spec_LeavesOf.l6 x0 n v6_1 v6_2 := by
  intro n
  induction n with
  | zero => intros; rw [V.loopN_z]; rfl
  | succ n ih =>
    intro v6_1 v6_2
    rw [V.loopN_s, spec_LeavesOf.r6]
    simp only [ih]
    first | exact (spec_LeavesOf.u6 ..).symm | rfl
theorem spec_LeavesOf.v (x0 : List TEntry) : V.evBody spec_LeavesOf.E spec_LeavesOf.con Tryz.f87 ((x0) : List TEntry) = spec_LeavesOf.b x0 (fun v6_1 v6_2 => V.loopN (V.loopF spec_LeavesOf.E Tryz.f87.ntmps [1, 1, 0, 1, 0] [] (V.codeOf Tryz.f87) (spec_LeavesOf.kt x0)) V.KK (spec_LeavesOf.s6 x0 v6_1 v6_2)) := by kernel_rfl
theorem spec_LeavesOf.eq (x0 : List TEntry) : V.evBody spec_LeavesOf.E spec_LeavesOf.con Tryz.f87 ((x0) : List TEntry) = spec_LeavesOf x0 := by
  rw [spec_LeavesOf.v]
  simp only [spec_LeavesOf.e6]
  rfl
theorem spec_LeavesOf.ok : V.Valid Tryz.prog 87 spec_LeavesOf.con :=
  V.fo (V.tab_cons spec_LeafOf.ok V.tab_nil) Tryz.func87 (by kernel_rfl) (fun x y h => (show V.evBody spec_LeavesOf.E spec_LeavesOf.con Tryz.f87 x = _ from spec_LeavesOf.eq x).trans (V.cfl (by kernel_rfl) h))
noncomputable abbrev spec_NodeOf.con : V.Con := ⟨(.cons (.int .i64) (.cons (.int .i64) .nil)), (.cons (.int .i64) .nil), fun (x : Int × Int) => spec_NodeOf x.1 x.2, [], [(false, 1), (false, 1)], [(false, 1)], [false], []⟩
noncomputable abbrev spec_NodeOf.E : V.Env := V.mkE V.tys [(82, spec_Hash.con)] [] [] [] [] []
theorem spec_NodeOf.eq (x0 : Int) (x1 : Int) : V.evBody spec_NodeOf.E spec_NodeOf.con Tryz.f128 ((x0, x1) : Int × Int) = spec_NodeOf x0 x1 := by kernel_rfl
theorem spec_NodeOf.ok : V.Valid Tryz.prog 128 spec_NodeOf.con :=
  V.fo (V.tab_cons spec_Hash.ok V.tab_nil) Tryz.func128 (by kernel_rfl) (fun x y h => (show V.evBody spec_NodeOf.E spec_NodeOf.con Tryz.f128 x = _ from spec_NodeOf.eq x.1 x.2).trans (V.cfl (by kernel_rfl) h))
noncomputable abbrev spec_l10Up.con : V.Con := ⟨(.cons (.sl (.cons (.int .i64) .nil)) .nil), (.cons (.sl (.cons (.int .i64) .nil)) .nil), fun (x : List Int) => spec_l10Up x, [], [(false, 1)], [(false, 1)], [true], []⟩
noncomputable abbrev spec_l10Up.E : V.Env := V.mkE V.tys [(128, spec_NodeOf.con)] [(6, [0, 3, 4], [(64000038400192, (.cons (.int .i64) .nil), true)])] [(6, 12)] [] [] []
noncomputable abbrev spec_l10Up.kt (x0 : List Int) : V.Kt (List Int) := V.ktOf spec_l10Up.E spec_l10Up.con Tryz.f116 ((x0) : List Int)
noncomputable abbrev spec_l10Up.s6 (x0 : List Int) (v6_1 : Int) (v6_2 : List Int) : V.St := ⟨[(0, .v false [.val (.sl (.cons (.int .i64) .nil) x0)]), (3, .v false [.ref 64000038400192]), (4, .v false [.val (.int .i64 v6_1)])], [(64000038400192, .row (.cons (.int .i64) .nil) true v6_2)]⟩
theorem spec_l10Up.r6 (x0 : List Int) (R : V.St → Option (List Int)) (v6_1 : Int) (v6_2 : List Int) : V.loopF spec_l10Up.E Tryz.f116.ntmps [1, 1, 0, 1, 0] [] (V.codeOf Tryz.f116) (spec_l10Up.kt x0) R (spec_l10Up.s6 x0 v6_1 v6_2) = spec_l10Up.g6 x0 (fun v6_1 v6_2 => R (spec_l10Up.s6 x0 v6_1 v6_2)) v6_1 v6_2 := by kernel_rfl
theorem spec_l10Up.e6 (x0 : List Int) : ∀ (n : Nat) (v6_1 : Int) (v6_2 : List Int), V.loopN (V.loopF spec_l10Up.E Tryz.f116.ntmps [1, 1, 0, 1, 0] [] (V.codeOf Tryz.f116) (spec_l10Up.kt x0)) n (spec_l10Up.s6 x0 v6_1 v6_2) = spec_l10Up.l6 x0 n v6_1 v6_2 := by
  intro n
  induction n with
  | zero => intros; rw [V.loopN_z]; rfl
  | succ n ih =>
    intro v6_1 v6_2
    rw [V.loopN_s, spec_l10Up.r6]
    simp only [ih]
    first | exact (spec_l10Up.u6 ..).symm | rfl
theorem spec_l10Up.v (x0 : List Int) : V.evBody spec_l10Up.E spec_l10Up.con Tryz.f116 ((x0) : List Int) = spec_l10Up.b x0 (fun v6_1 v6_2 => V.loopN (V.loopF spec_l10Up.E Tryz.f116.ntmps [1, 1, 0, 1, 0] [] (V.codeOf Tryz.f116) (spec_l10Up.kt x0)) V.KK (spec_l10Up.s6 x0 v6_1 v6_2)) := by kernel_rfl
theorem spec_l10Up.eq (x0 : List Int) : V.evBody spec_l10Up.E spec_l10Up.con Tryz.f116 ((x0) : List Int) = spec_l10Up x0 := by
  rw [spec_l10Up.v]
  simp only [spec_l10Up.e6]
  rfl
theorem spec_l10Up.ok : V.Valid Tryz.prog 116 spec_l10Up.con :=
  V.fo (V.tab_cons spec_NodeOf.ok V.tab_nil) Tryz.func116 (by kernel_rfl) (fun x y h => (show V.evBody spec_l10Up.E spec_l10Up.con Tryz.f116 x = _ from spec_l10Up.eq x).trans (V.cfl (by kernel_rfl) h))
noncomputable abbrev spec_TopOf.con : V.Con := ⟨(.cons (.sl (.cons (.int .i64) .nil)) .nil), (.cons (.int .i64) .nil), fun (x : List Int) => spec_TopOf x, [], [(false, 1)], [(false, 1)], [false], []⟩
noncomputable abbrev spec_TopOf.E : V.Env := V.mkE V.tys [(82, spec_Hash.con), (116, spec_l10Up.con)] [(8, [3], [(3, (.cons (.int .i64) .nil), false)])] [] [] [] []
noncomputable abbrev spec_TopOf.kt (x0 : List Int) : V.Kt Int := V.ktOf spec_TopOf.E spec_TopOf.con Tryz.f86 ((x0) : List Int)
noncomputable abbrev spec_TopOf.s8 (v8_0 : List Int) : V.St := ⟨[(3, .v false [.val (.sl (.cons (.int .i64) .nil) v8_0)])], []⟩
theorem spec_TopOf.r8 (x0 : List Int) (R : V.St → Option Int) (v8_0 : List Int) : V.loopF spec_TopOf.E Tryz.f86.ntmps [1, 1, 1, 0, 0] [] (V.codeOf Tryz.f86) (spec_TopOf.kt x0) R (spec_TopOf.s8 v8_0) = spec_TopOf.g8 (fun v8_0 => R (spec_TopOf.s8 v8_0)) v8_0 := by kernel_rfl
theorem spec_TopOf.e8 (x0 : List Int) : ∀ (n : Nat) (v8_0 : List Int), V.loopN (V.loopF spec_TopOf.E Tryz.f86.ntmps [1, 1, 1, 0, 0] [] (V.codeOf Tryz.f86) (spec_TopOf.kt x0)) n (spec_TopOf.s8 v8_0) = spec_TopOf.l8 n v8_0 := by
  intro n
  induction n with
  | zero => intros; rw [V.loopN_z]; rfl
  | succ n ih =>
    intro v8_0
    rw [V.loopN_s, spec_TopOf.r8]
    simp only [ih]
    first | exact (spec_TopOf.u8 ..).symm | rfl
theorem spec_TopOf.v (x0 : List Int) : V.evBody spec_TopOf.E spec_TopOf.con Tryz.f86 ((x0) : List Int) = spec_TopOf.b x0 (fun v8_0 => V.loopN (V.loopF spec_TopOf.E Tryz.f86.ntmps [1, 1, 1, 0, 0] [] (V.codeOf Tryz.f86) (spec_TopOf.kt x0)) V.KK (spec_TopOf.s8 v8_0)) := by kernel_rfl
theorem spec_TopOf.eq (x0 : List Int) : V.evBody spec_TopOf.E spec_TopOf.con Tryz.f86 ((x0) : List Int) = spec_TopOf x0 := by
  rw [spec_TopOf.v]
  simp only [spec_TopOf.e8]
  rfl
theorem spec_TopOf.ok : V.Valid Tryz.prog 86 spec_TopOf.con :=
  V.fo (V.tab_cons spec_Hash.ok (V.tab_cons spec_l10Up.ok V.tab_nil)) Tryz.func86 (by kernel_rfl) (fun x y h => (show V.evBody spec_TopOf.E spec_TopOf.con Tryz.f86 x = _ from spec_TopOf.eq x).trans (V.cfl (by kernel_rfl) h))
noncomputable abbrev spec_l10Root.con : V.Con := ⟨(.cons (.int .i64) (.cons (.int .i64) .nil)), (.cons (.int .i64) .nil), fun (x : Int × Int) => spec_l10Root x.1 x.2, [], [(false, 1), (false, 1)], [(false, 1)], [false], []⟩
noncomputable abbrev spec_l10Root.E : V.Env := V.mkE V.tys [(82, spec_Hash.con)] [] [] [] [] []
theorem spec_l10Root.eq (x0 : Int) (x1 : Int) : V.evBody spec_l10Root.E spec_l10Root.con Tryz.f85 ((x0, x1) : Int × Int) = spec_l10Root x0 x1 := by kernel_rfl
theorem spec_l10Root.ok : V.Valid Tryz.prog 85 spec_l10Root.con :=
  V.fo (V.tab_cons spec_Hash.ok V.tab_nil) Tryz.func85 (by kernel_rfl) (fun x y h => (show V.evBody spec_l10Root.E spec_l10Root.con Tryz.f85 x = _ from spec_l10Root.eq x.1 x.2).trans (V.cfl (by kernel_rfl) h))
noncomputable abbrev spec_RootOf.con : V.Con := ⟨(.cons (.sl V.eEntry) .nil), (.cons (.int .i64) .nil), fun (x : List TEntry) => spec_RootOf x, [], [(false, 1)], [(false, 1)], [false], []⟩
noncomputable abbrev spec_RootOf.E : V.Env := V.mkE V.tys [(85, spec_l10Root.con), (86, spec_TopOf.con), (87, spec_LeavesOf.con)] [] [] [] [] []
theorem spec_RootOf.eq (x0 : List TEntry) : V.evBody spec_RootOf.E spec_RootOf.con Tryz.f55 ((x0) : List TEntry) = spec_RootOf x0 := by kernel_rfl
theorem spec_RootOf.ok : V.Valid Tryz.prog 55 spec_RootOf.con :=
  V.fo (V.tab_cons spec_l10Root.ok (V.tab_cons spec_TopOf.ok (V.tab_cons spec_LeavesOf.ok V.tab_nil))) Tryz.func55 (by kernel_rfl) (fun x y h => (show V.evBody spec_RootOf.E spec_RootOf.con Tryz.f55 x = _ from spec_RootOf.eq x).trans (V.cfl (by kernel_rfl) h))
noncomputable abbrev spec_l6Copy.con : V.Con := ⟨(.cons (.sl (.cons (.int .i64) .nil)) (.cons (.int .i64) .nil)), (.cons (.sl (.cons (.int .i64) .nil)) (.cons (.int .i64) .nil)), fun (x : List Int × Int) => spec_l6Copy x, [], [(true, 2)], [(true, 2)], [true, false], []⟩
noncomputable abbrev spec_l6Copy.E : V.Env := V.mkE V.tys [] [] [(1, 6)] [] [] []
theorem spec_l6Copy.eq (x0 : TKeys) : V.evBody spec_l6Copy.E spec_l6Copy.con Tryz.f52 ((x0.1, x0.2) : List Int × Int) = spec_l6Copy x0 := by kernel_rfl
theorem spec_l6Copy.ok : V.Valid Tryz.prog 52 spec_l6Copy.con :=
  V.fo V.tab_nil Tryz.func52 (by kernel_rfl) (fun x y h => (show V.evBody spec_l6Copy.E spec_l6Copy.con Tryz.f52 x = _ from spec_l6Copy.eq x).trans (V.cfl (by kernel_rfl) h))
noncomputable abbrev spec_IsKeys.con : V.Con := ⟨(.cons (.sl (.cons (.int .i64) .nil)) (.cons (.int .i64) .nil)), (.cons .bool .nil), fun (x : List Int × Int) => spec_IsKeys x, [], [(true, 2)], [(false, 1)], [false], []⟩
noncomputable abbrev spec_IsKeys.E : V.Env := V.mkE V.tys [(34, spec_l1In.con)] [(4, [1, 3], [])] [(4, 22)] [] [] []
noncomputable abbrev spec_IsKeys.kt (x0 : TKeys) : V.Kt Bool := V.ktOf spec_IsKeys.E spec_IsKeys.con Tryz.f96 ((x0.1, x0.2) : List Int × Int)
noncomputable abbrev spec_IsKeys.s4 (x0 : TKeys) (v4_0 : Int) : V.St := ⟨[(1, .v false [.ptr 64000 0]), (3, .v false [.val (.int .i64 v4_0)])], [(64000, .box [.val (.sl (.cons (.int .i64) .nil) x0.1), .val (.int .i64 x0.2)])]⟩
theorem spec_IsKeys.r4 (x0 : TKeys) (R : V.St → Option Bool) (v4_0 : Int) : V.loopF spec_IsKeys.E Tryz.f96.ntmps [1, 0, 1, 0] [] (V.codeOf Tryz.f96) (spec_IsKeys.kt x0) R (spec_IsKeys.s4 x0 v4_0) = spec_IsKeys.g4 x0 (fun v4_0 => R (spec_IsKeys.s4 x0 v4_0)) v4_0 := by kernel_rfl
theorem spec_IsKeys.e4 (x0 : TKeys) : ∀ (n : Nat) (v4_0 : Int), V.loopN (V.loopF spec_IsKeys.E Tryz.f96.ntmps [1, 0, 1, 0] [] (V.codeOf Tryz.f96) (spec_IsKeys.kt x0)) n (spec_IsKeys.s4 x0 v4_0) = spec_IsKeys.l4 x0 n v4_0 := by
  intro n
  induction n with
  | zero => intros; rw [V.loopN_z]; rfl
  | succ n ih =>
    intro v4_0
    rw [V.loopN_s, spec_IsKeys.r4]
    simp only [ih]
    first | exact (spec_IsKeys.u4 ..).symm | rfl
theorem spec_IsKeys.v (x0 : TKeys) : V.evBody spec_IsKeys.E spec_IsKeys.con Tryz.f96 ((x0.1, x0.2) : List Int × Int) = spec_IsKeys.b x0 (fun v4_0 => V.loopN (V.loopF spec_IsKeys.E Tryz.f96.ntmps [1, 0, 1, 0] [] (V.codeOf Tryz.f96) (spec_IsKeys.kt x0)) V.KK (spec_IsKeys.s4 x0 v4_0)) := by kernel_rfl
theorem spec_IsKeys.eq (x0 : TKeys) : V.evBody spec_IsKeys.E spec_IsKeys.con Tryz.f96 ((x0.1, x0.2) : List Int × Int) = spec_IsKeys x0 := by
  rw [spec_IsKeys.v]
  simp only [spec_IsKeys.e4]
  rfl
theorem spec_IsKeys.ok : V.Valid Tryz.prog 96 spec_IsKeys.con :=
  V.fo (V.tab_cons spec_l1In.ok V.tab_nil) Tryz.func96 (by kernel_rfl) (fun x y h => (show V.evBody spec_IsKeys.E spec_IsKeys.con Tryz.f96 x = _ from spec_IsKeys.eq x).trans (V.cfl (by kernel_rfl) h))
noncomputable abbrev spec_NoKeys.con : V.Con := ⟨(.cons (.sl (.cons (.int .i64) .nil)) (.cons (.int .i64) .nil)), (.cons .bool .nil), fun (x : List Int × Int) => spec_NoKeys x, [], [(true, 2)], [(false, 1)], [false], []⟩
noncomputable abbrev spec_NoKeys.E : V.Env := V.mkE V.tys [] [] [] [] [] []
theorem spec_NoKeys.eq (x0 : TKeys) : V.evBody spec_NoKeys.E spec_NoKeys.con Tryz.f97 ((x0.1, x0.2) : List Int × Int) = spec_NoKeys x0 := by kernel_rfl
theorem spec_NoKeys.ok : V.Valid Tryz.prog 97 spec_NoKeys.con :=
  V.fo V.tab_nil Tryz.func97 (by kernel_rfl) (fun x y h => (show V.evBody spec_NoKeys.E spec_NoKeys.con Tryz.f97 x = _ from spec_NoKeys.eq x).trans (V.cfl (by kernel_rfl) h))
noncomputable abbrev spec_IsHead.con : V.Con := ⟨V.A0, (.cons .bool .nil), fun (x : V.D0) => spec_IsHead (V.p0_0 x), [], [(true, 16)], [(false, 1)], [false], []⟩
noncomputable abbrev spec_IsHead.E : V.Env := V.mkE V.tys [(34, spec_l1In.con), (96, spec_IsKeys.con), (97, spec_NoKeys.con)] [(7, [1], []), (11, [1], []), (21, [1], [])] [] [] [] []
noncomputable abbrev spec_IsHead.kt (x0 : THead) : V.Kt Bool := V.ktOf spec_IsHead.E spec_IsHead.con Tryz.f62 (V.fl0 x0)
noncomputable abbrev spec_IsHead.s21 (x0 : THead) : V.St := ⟨[(1, .v false [.ptr 64000 0])], [(64000, .box (V.lsHead x0))]⟩
noncomputable abbrev spec_IsHead.s11 (x0 : THead) : V.St := ⟨[(1, .v false [.ptr 64000 0])], [(64000, .box (V.lsHead x0))]⟩
noncomputable abbrev spec_IsHead.s7 (x0 : THead) : V.St := ⟨[(1, .v false [.ptr 64000 0])], [(64000, .box (V.lsHead x0))]⟩
theorem spec_IsHead.r21 (x0 : THead) : V.joinF spec_IsHead.E Tryz.f62.ntmps [1, 1, 1] [] (V.codeOf Tryz.f62) (spec_IsHead.kt x0) (spec_IsHead.s21 x0) = spec_IsHead.g21 x0 := by kernel_rfl
theorem spec_IsHead.e21 (x0 : THead) : V.jn (V.joinF spec_IsHead.E Tryz.f62.ntmps [1, 1, 1] [] (V.codeOf Tryz.f62) (spec_IsHead.kt x0)) (spec_IsHead.s21 x0) = spec_IsHead.l21 x0 := by
  rw [V.jn_eq, spec_IsHead.r21]
  rfl
theorem spec_IsHead.r11 (x0 : THead) : V.joinF spec_IsHead.E Tryz.f62.ntmps [1, 1] [] (V.codeOf Tryz.f62) (spec_IsHead.kt x0) (spec_IsHead.s11 x0) = spec_IsHead.g11 x0 (V.jn (V.joinF spec_IsHead.E Tryz.f62.ntmps [1, 1, 1] [] (V.codeOf Tryz.f62) (spec_IsHead.kt x0)) (spec_IsHead.s21 x0)) := by kernel_rfl
theorem spec_IsHead.e11 (x0 : THead) : V.jn (V.joinF spec_IsHead.E Tryz.f62.ntmps [1, 1] [] (V.codeOf Tryz.f62) (spec_IsHead.kt x0)) (spec_IsHead.s11 x0) = spec_IsHead.l11 x0 := by
  rw [V.jn_eq, spec_IsHead.r11]
  simp only [spec_IsHead.e21]
  rfl
theorem spec_IsHead.r7 (x0 : THead) : V.joinF spec_IsHead.E Tryz.f62.ntmps [1] [] (V.codeOf Tryz.f62) (spec_IsHead.kt x0) (spec_IsHead.s7 x0) = spec_IsHead.g7 x0 (V.jn (V.joinF spec_IsHead.E Tryz.f62.ntmps [1, 1] [] (V.codeOf Tryz.f62) (spec_IsHead.kt x0)) (spec_IsHead.s11 x0)) := by kernel_rfl
theorem spec_IsHead.e7 (x0 : THead) : V.jn (V.joinF spec_IsHead.E Tryz.f62.ntmps [1] [] (V.codeOf Tryz.f62) (spec_IsHead.kt x0)) (spec_IsHead.s7 x0) = spec_IsHead.l7 x0 := by
  rw [V.jn_eq, spec_IsHead.r7]
  simp only [spec_IsHead.e11]
  rfl
noncomputable abbrev spec_IsHead.s (x0 : THead) : V.St := ⟨[(0, .v true (V.lsHead x0))], []⟩
theorem spec_IsHead.v0 (x0 : THead) : V.evBody spec_IsHead.E spec_IsHead.con Tryz.f62 (V.fl0 x0) = V.evC spec_IsHead.E Tryz.f62.ntmps (V.codeOf Tryz.f62) (spec_IsHead.kt x0) (spec_IsHead.s x0) := by kernel_rfl
theorem spec_IsHead.v (x0 : THead) : V.evC spec_IsHead.E Tryz.f62.ntmps (V.codeOf Tryz.f62) (spec_IsHead.kt x0) (spec_IsHead.s x0) = spec_IsHead.b x0 (V.jn (V.joinF spec_IsHead.E Tryz.f62.ntmps [1] [] (V.codeOf Tryz.f62) (spec_IsHead.kt x0)) (spec_IsHead.s7 x0)) := by kernel_rfl
theorem spec_IsHead.eq (x0 : THead) : V.evBody spec_IsHead.E spec_IsHead.con Tryz.f62 (V.fl0 x0) = spec_IsHead x0 := by
  rw [spec_IsHead.v0, spec_IsHead.v]
  simp only [spec_IsHead.e7]
  rfl
theorem spec_IsHead.ok : V.Valid Tryz.prog 62 spec_IsHead.con :=
  V.fo (V.tab_cons spec_l1In.ok (V.tab_cons spec_IsKeys.ok (V.tab_cons spec_NoKeys.ok V.tab_nil))) Tryz.func62 (by kernel_rfl) (fun x y h => (show V.evBody spec_IsHead.E spec_IsHead.con Tryz.f62 x = _ from spec_IsHead.eq (V.p0_0 x)).trans (V.cfl (by kernel_rfl) h))
noncomputable abbrev spec_FirstHead.con : V.Con := ⟨(.cons (.sl (.cons (.int .i64) .nil)) (.cons (.int .i64) (.cons (.int .i64) (.cons (.sl V.eEntry) (.cons (.int .i64) (.cons (.int .i64) .nil)))))), V.eRHeadBool, fun (x : List Int × Int × Int × List TEntry × Int × Int) => spec_FirstHead (x.1, x.2.1) x.2.2.1 x.2.2.2.1 x.2.2.2.2.1 x.2.2.2.2.2, [], [(true, 2), (false, 1), (false, 1), (false, 1), (false, 1)], [(true, 16), (false, 1)], [false, false, false, false, false, false, false, false, true, false, true, false, false, true, false, false, false], []⟩
noncomputable abbrev spec_FirstHead.E : V.Env := V.mkE V.tys [(34, spec_l1In.con), (52, spec_l6Copy.con), (55, spec_RootOf.con), (62, spec_IsHead.con), (69, spec_ZoneOf.con), (104, spec_AreEntries.con)] [(5, [1, 2, 3, 4, 5, 10, 25], [])] [(3, 16)] [] [] []
noncomputable abbrev spec_FirstHead.kt (x0 : TKeys) (x1 : Int) (x2 : List TEntry) (x3 : Int) (x4 : Int) : V.Kt TRHeadBool := V.ktOf spec_FirstHead.E spec_FirstHead.con Tryz.f75 ((x0.1, x0.2, x1, x2, x3, x4) : List Int × Int × Int × List TEntry × Int × Int)
noncomputable abbrev spec_FirstHead.s5 (x0 : TKeys) (x1 : Int) (x2 : List TEntry) (x3 : Int) (x4 : Int) (v5_4 : Bool) : V.St := ⟨[(1, .v false [.val (.int .i64 x1)]), (2, .v false [.val (.sl V.eEntry x2)]), (3, .v false [.val (.int .i64 x3)]), (4, .v false [.val (.int .i64 x4)]), (5, .v false [.ptr 64000 0]), (10, .v false [.ptr 64064 0]), (25, .v false [.val (.bool v5_4)])], [(64000, .box [.val (.sl (.cons (.int .i64) .nil) x0.1), .val (.int .i64 x0.2)]), (64064, .box [.val (.int .i64 (0 : Int)), .val (.int .i64 (0 : Int)), .val (.int .i64 (0 : Int)), .val (.int .i64 (0 : Int)), .val (.int .i64 (0 : Int)), .val (.int .i64 (0 : Int)), .val (.int .i64 (0 : Int)), .val (.int .i64 (0 : Int)), .nil0, .val (.int .i64 (0 : Int)), .nil0, .val (.int .i64 (0 : Int)), .val (.int .i64 (0 : Int)), .nil0, .val (.int .i64 (0 : Int)), .val (.bool false)])]⟩
theorem spec_FirstHead.r5 (x0 : TKeys) (x1 : Int) (x2 : List TEntry) (x3 : Int) (x4 : Int) (v5_4 : Bool) : V.joinF spec_FirstHead.E Tryz.f75.ntmps [1, 0] [] (V.codeOf Tryz.f75) (spec_FirstHead.kt x0 x1 x2 x3 x4) (spec_FirstHead.s5 x0 x1 x2 x3 x4 v5_4) = spec_FirstHead.g5 x0 x1 x2 x3 x4 v5_4 := by kernel_rfl
theorem spec_FirstHead.e5 (x0 : TKeys) (x1 : Int) (x2 : List TEntry) (x3 : Int) (x4 : Int) (v5_4 : Bool) : V.jn (V.joinF spec_FirstHead.E Tryz.f75.ntmps [1, 0] [] (V.codeOf Tryz.f75) (spec_FirstHead.kt x0 x1 x2 x3 x4)) (spec_FirstHead.s5 x0 x1 x2 x3 x4 v5_4) = spec_FirstHead.l5 x0 x1 x2 x3 x4 v5_4 := by
  rw [V.jn_eq, spec_FirstHead.r5]
  rfl
theorem spec_FirstHead.v (x0 : TKeys) (x1 : Int) (x2 : List TEntry) (x3 : Int) (x4 : Int) : V.evBody spec_FirstHead.E spec_FirstHead.con Tryz.f75 ((x0.1, x0.2, x1, x2, x3, x4) : List Int × Int × Int × List TEntry × Int × Int) = spec_FirstHead.b x0 x1 x2 x3 x4 (fun v5_4 => V.jn (V.joinF spec_FirstHead.E Tryz.f75.ntmps [1, 0] [] (V.codeOf Tryz.f75) (spec_FirstHead.kt x0 x1 x2 x3 x4)) (spec_FirstHead.s5 x0 x1 x2 x3 x4 v5_4)) := by kernel_rfl
theorem spec_FirstHead.eq (x0 : TKeys) (x1 : Int) (x2 : List TEntry) (x3 : Int) (x4 : Int) : V.evBody spec_FirstHead.E spec_FirstHead.con Tryz.f75 ((x0.1, x0.2, x1, x2, x3, x4) : List Int × Int × Int × List TEntry × Int × Int) = spec_FirstHead x0 x1 x2 x3 x4 := by
  rw [spec_FirstHead.v]
  simp only [spec_FirstHead.e5]
  rfl
theorem spec_FirstHead.ok : V.Valid Tryz.prog 75 spec_FirstHead.con :=
  V.fo (V.tab_cons spec_l1In.ok (V.tab_cons spec_l6Copy.ok (V.tab_cons spec_RootOf.ok (V.tab_cons spec_IsHead.ok (V.tab_cons spec_ZoneOf.ok (V.tab_cons spec_AreEntries.ok V.tab_nil)))))) Tryz.func75 (by kernel_rfl) (fun x y h => (show V.evBody spec_FirstHead.E spec_FirstHead.con Tryz.f75 x = _ from spec_FirstHead.eq (x.1, x.2.1) x.2.2.1 x.2.2.2.1 x.2.2.2.2.1 x.2.2.2.2.2).trans (V.cfl (by kernel_rfl) h))
noncomputable abbrev spec_l13Copy.con : V.Con := ⟨V.A0, V.eHead, fun (x : V.D0) => spec_l13Copy (V.p0_0 x), [], [(true, 16)], [(true, 16)], [false, false, false, false, false, false, false, false, true, false, true, false, false, true, false, false], []⟩
noncomputable abbrev spec_l13Copy.E : V.Env := V.mkE V.tys [(52, spec_l6Copy.con)] [] [] [] [] []
noncomputable abbrev spec_l13Copy.kt (x0 : THead) : V.Kt THead := V.ktOf spec_l13Copy.E spec_l13Copy.con Tryz.f42 (V.fl0 x0)
noncomputable abbrev spec_l13Copy.s (x0 : THead) : V.St := ⟨[(0, .v true (V.lsHead x0))], []⟩
theorem spec_l13Copy.v0 (x0 : THead) : V.evBody spec_l13Copy.E spec_l13Copy.con Tryz.f42 (V.fl0 x0) = V.evC spec_l13Copy.E Tryz.f42.ntmps (V.codeOf Tryz.f42) (spec_l13Copy.kt x0) (spec_l13Copy.s x0) := by kernel_rfl
theorem spec_l13Copy.v (x0 : THead) : V.evC spec_l13Copy.E Tryz.f42.ntmps (V.codeOf Tryz.f42) (spec_l13Copy.kt x0) (spec_l13Copy.s x0) = spec_l13Copy x0 := by kernel_rfl
theorem spec_l13Copy.eq (x0 : THead) : V.evBody spec_l13Copy.E spec_l13Copy.con Tryz.f42 (V.fl0 x0) = spec_l13Copy x0 := (spec_l13Copy.v0 x0).trans (spec_l13Copy.v x0)
theorem spec_l13Copy.ok : V.Valid Tryz.prog 42 spec_l13Copy.con :=
  V.fo (V.tab_cons spec_l6Copy.ok V.tab_nil) Tryz.func42 (by kernel_rfl) (fun x y h => (show V.evBody spec_l13Copy.E spec_l13Copy.con Tryz.f42 x = _ from spec_l13Copy.eq (V.p0_0 x)).trans (V.cfl (by kernel_rfl) h))
noncomputable abbrev spec_HeadInts.con : V.Con := ⟨V.A0, (.cons (.sl (.cons (.int .i64) .nil)) .nil), fun (x : V.D0) => spec_HeadInts (V.p0_0 x), [], [(true, 16)], [(false, 1)], [true], []⟩
noncomputable abbrev spec_HeadInts.E : V.Env := V.mkE V.tys [(81, spec_KeysInts.con)] [] [] [] [] []
noncomputable abbrev spec_HeadInts.kt (x0 : THead) : V.Kt (List Int) := V.ktOf spec_HeadInts.E spec_HeadInts.con Tryz.f49 (V.fl0 x0)
noncomputable abbrev spec_HeadInts.s (x0 : THead) : V.St := ⟨[(0, .v true (V.lsHead x0))], []⟩
theorem spec_HeadInts.v0 (x0 : THead) : V.evBody spec_HeadInts.E spec_HeadInts.con Tryz.f49 (V.fl0 x0) = V.evC spec_HeadInts.E Tryz.f49.ntmps (V.codeOf Tryz.f49) (spec_HeadInts.kt x0) (spec_HeadInts.s x0) := by kernel_rfl
theorem spec_HeadInts.v (x0 : THead) : V.evC spec_HeadInts.E Tryz.f49.ntmps (V.codeOf Tryz.f49) (spec_HeadInts.kt x0) (spec_HeadInts.s x0) = spec_HeadInts x0 := by kernel_rfl
theorem spec_HeadInts.eq (x0 : THead) : V.evBody spec_HeadInts.E spec_HeadInts.con Tryz.f49 (V.fl0 x0) = spec_HeadInts x0 := (spec_HeadInts.v0 x0).trans (spec_HeadInts.v x0)
theorem spec_HeadInts.ok : V.Valid Tryz.prog 49 spec_HeadInts.con :=
  V.fo (V.tab_cons spec_KeysInts.ok V.tab_nil) Tryz.func49 (by kernel_rfl) (fun x y h => (show V.evBody spec_HeadInts.E spec_HeadInts.con Tryz.f49 x = _ from spec_HeadInts.eq (V.p0_0 x)).trans (V.cfl (by kernel_rfl) h))
noncomputable abbrev spec_l6Has.con : V.Con := ⟨(.cons (.sl (.cons (.int .i64) .nil)) (.cons (.int .i64) .nil)), (.cons .bool .nil), fun (x : List Int × Int) => spec_l6Has x.1 x.2, [], [(false, 1), (false, 1)], [(false, 1)], [false], []⟩
noncomputable abbrev spec_l6Has.E : V.Env := V.mkE V.tys [] [(4, [0, 1, 5], [])] [] [] [] []
noncomputable abbrev spec_l6Has.kt (x0 : List Int) (x1 : Int) : V.Kt Bool := V.ktOf spec_l6Has.E spec_l6Has.con Tryz.f105 ((x0, x1) : List Int × Int)
noncomputable abbrev spec_l6Has.s4 (x0 : List Int) (x1 : Int) (v4_2 : Int) : V.St := ⟨[(0, .v false [.val (.sl (.cons (.int .i64) .nil) x0)]), (1, .v false [.val (.int .i64 x1)]), (5, .v false [.val (.int .i64 v4_2)])], []⟩
theorem spec_l6Has.r4 (x0 : List Int) (x1 : Int) (R : V.St → Option Bool) (v4_2 : Int) : V.loopF spec_l6Has.E Tryz.f105.ntmps [1, 0, 1, 0] [] (V.codeOf Tryz.f105) (spec_l6Has.kt x0 x1) R (spec_l6Has.s4 x0 x1 v4_2) = spec_l6Has.g4 x0 x1 (fun v4_2 => R (spec_l6Has.s4 x0 x1 v4_2)) v4_2 := by kernel_rfl
theorem spec_l6Has.e4 (x0 : List Int) (x1 : Int) : ∀ (n : Nat) (v4_2 : Int), V.loopN (V.loopF spec_l6Has.E Tryz.f105.ntmps [1, 0, 1, 0] [] (V.codeOf Tryz.f105) (spec_l6Has.kt x0 x1)) n (spec_l6Has.s4 x0 x1 v4_2) = spec_l6Has.l4 x0 x1 n v4_2 := by
  intro n
  induction n with
  | zero => intros; rw [V.loopN_z]; rfl
  | succ n ih =>
    intro v4_2
    rw [V.loopN_s, spec_l6Has.r4]
    simp only [ih]
    first | exact (spec_l6Has.u4 ..).symm | rfl
theorem spec_l6Has.v (x0 : List Int) (x1 : Int) : V.evBody spec_l6Has.E spec_l6Has.con Tryz.f105 ((x0, x1) : List Int × Int) = spec_l6Has.b x0 x1 (fun v4_2 => V.loopN (V.loopF spec_l6Has.E Tryz.f105.ntmps [1, 0, 1, 0] [] (V.codeOf Tryz.f105) (spec_l6Has.kt x0 x1)) V.KK (spec_l6Has.s4 x0 x1 v4_2)) := by kernel_rfl
theorem spec_l6Has.eq (x0 : List Int) (x1 : Int) : V.evBody spec_l6Has.E spec_l6Has.con Tryz.f105 ((x0, x1) : List Int × Int) = spec_l6Has x0 x1 := by
  rw [spec_l6Has.v]
  simp only [spec_l6Has.e4]
  rfl
theorem spec_l6Has.ok : V.Valid Tryz.prog 105 spec_l6Has.con :=
  V.fo V.tab_nil Tryz.func105 (by kernel_rfl) (fun x y h => (show V.evBody spec_l6Has.E spec_l6Has.con Tryz.f105 x = _ from spec_l6Has.eq x.1 x.2).trans (V.cfl (by kernel_rfl) h))
noncomputable abbrev spec_KeyedHash.con : V.Con := ⟨(.cons (.int .i64) (.cons (.sl (.cons (.int .i64) .nil)) .nil)), (.cons (.int .i64) .nil), fun (x : Int × List Int) => spec_KeyedHash x.1 x.2, [], [(false, 1), (false, 1)], [(false, 1)], [false], []⟩
noncomputable abbrev spec_KeyedHash.E : V.Env := V.mkE V.tys [(82, spec_Hash.con)] [] [] [] [] []
theorem spec_KeyedHash.eq (x0 : Int) (x1 : List Int) : V.evBody spec_KeyedHash.E spec_KeyedHash.con Tryz.f125 ((x0, x1) : Int × List Int) = spec_KeyedHash x0 x1 := by kernel_rfl
theorem spec_KeyedHash.ok : V.Valid Tryz.prog 125 spec_KeyedHash.con :=
  V.fo (V.tab_cons spec_Hash.ok V.tab_nil) Tryz.func125 (by kernel_rfl) (fun x y h => (show V.evBody spec_KeyedHash.E spec_KeyedHash.con Tryz.f125 x = _ from spec_KeyedHash.eq x.1 x.2).trans (V.cfl (by kernel_rfl) h))
noncomputable abbrev spec_TagOf.con : V.Con := ⟨(.cons (.int .i64) (.cons (.sl (.cons (.int .i64) .nil)) .nil)), (.cons (.int .i64) .nil), fun (x : Int × List Int) => spec_TagOf x.1 x.2, [], [(false, 1), (false, 1)], [(false, 1)], [false], []⟩
noncomputable abbrev spec_TagOf.E : V.Env := V.mkE V.tys [(125, spec_KeyedHash.con)] [] [] [] [] []
theorem spec_TagOf.eq (x0 : Int) (x1 : List Int) : V.evBody spec_TagOf.E spec_TagOf.con Tryz.f106 ((x0, x1) : Int × List Int) = spec_TagOf x0 x1 := by kernel_rfl
theorem spec_TagOf.ok : V.Valid Tryz.prog 106 spec_TagOf.con :=
  V.fo (V.tab_cons spec_KeyedHash.ok V.tab_nil) Tryz.func106 (by kernel_rfl) (fun x y h => (show V.evBody spec_TagOf.E spec_TagOf.con Tryz.f106 x = _ from spec_TagOf.eq x.1 x.2).trans (V.cfl (by kernel_rfl) h))
noncomputable abbrev spec_SignBy.con : V.Con := ⟨(.cons (.sl (.cons (.int .i64) .nil)) (.cons (.sl (.cons (.int .i64) .nil)) (.cons (.int .i64) (.cons (.sl (.cons (.int .i64) .nil)) .nil)))), (.cons (.sl (.cons (.int .i64) (.cons (.int .i64) .nil))) .nil), fun (x : List Int × List Int × Int × List Int) => spec_SignBy x.1 (x.2.1, x.2.2.1) x.2.2.2, [], [(false, 1), (true, 2), (false, 1)], [(false, 1)], [true], []⟩
noncomputable abbrev spec_SignBy.E : V.Env := V.mkE V.tys [(105, spec_l6Has.con), (106, spec_TagOf.con)] [(6, [0, 2, 4, 7, 8], [(64000038400448, (.cons (.int .i64) (.cons (.int .i64) .nil)), true)])] [(6, 15)] [] [] []
noncomputable abbrev spec_SignBy.kt (x0 : List Int) (x1 : TKeys) (x2 : List Int) : V.Kt (List TSig) := V.ktOf spec_SignBy.E spec_SignBy.con Tryz.f79 ((x0, x1.1, x1.2, x2) : List Int × List Int × Int × List Int)
noncomputable abbrev spec_SignBy.s6 (x0 : List Int) (x1 : TKeys) (x2 : List Int) (v6_2 : Int) (v6_5 : List TSig) : V.St := ⟨[(0, .v false [.val (.sl (.cons (.int .i64) .nil) x0)]), (2, .v false [.val (.sl (.cons (.int .i64) .nil) x2)]), (4, .v false [.ptr 64000 0]), (7, .v false [.ref 64000038400448]), (8, .v false [.val (.int .i64 v6_2)])], [(64000, .box [.val (.sl (.cons (.int .i64) .nil) x1.1), .val (.int .i64 x1.2)]), (64000038400448, .row (.cons (.int .i64) (.cons (.int .i64) .nil)) true v6_5)]⟩
theorem spec_SignBy.r6 (x0 : List Int) (x1 : TKeys) (x2 : List Int) (R : V.St → Option (List TSig)) (v6_2 : Int) (v6_5 : List TSig) : V.loopF spec_SignBy.E Tryz.f79.ntmps [1, 1, 0, 1, 0] [] (V.codeOf Tryz.f79) (spec_SignBy.kt x0 x1 x2) R (spec_SignBy.s6 x0 x1 x2 v6_2 v6_5) = spec_SignBy.g6 x0 x1 x2 (fun v6_2 v6_5 => R (spec_SignBy.s6 x0 x1 x2 v6_2 v6_5)) v6_2 v6_5 := by kernel_rfl
theorem spec_SignBy.e6 (x0 : List Int) (x1 : TKeys) (x2 : List Int) : ∀ (n : Nat) (v6_2 : Int) (v6_5 : List TSig), V.loopN (V.loopF spec_SignBy.E Tryz.f79.ntmps [1, 1, 0, 1, 0] [] (V.codeOf Tryz.f79) (spec_SignBy.kt x0 x1 x2)) n (spec_SignBy.s6 x0 x1 x2 v6_2 v6_5) = spec_SignBy.l6 x0 x1 x2 n v6_2 v6_5 := by
  intro n
  induction n with
  | zero => intros; rw [V.loopN_z]; rfl
  | succ n ih =>
    intro v6_2 v6_5
    rw [V.loopN_s, spec_SignBy.r6]
    simp only [ih]
    first | exact (spec_SignBy.u6 ..).symm | rfl
theorem spec_SignBy.v (x0 : List Int) (x1 : TKeys) (x2 : List Int) : V.evBody spec_SignBy.E spec_SignBy.con Tryz.f79 ((x0, x1.1, x1.2, x2) : List Int × List Int × Int × List Int) = spec_SignBy.b x0 x1 x2 (fun v6_2 v6_5 => V.loopN (V.loopF spec_SignBy.E Tryz.f79.ntmps [1, 1, 0, 1, 0] [] (V.codeOf Tryz.f79) (spec_SignBy.kt x0 x1 x2)) V.KK (spec_SignBy.s6 x0 x1 x2 v6_2 v6_5)) := by kernel_rfl
theorem spec_SignBy.eq (x0 : List Int) (x1 : TKeys) (x2 : List Int) : V.evBody spec_SignBy.E spec_SignBy.con Tryz.f79 ((x0, x1.1, x1.2, x2) : List Int × List Int × Int × List Int) = spec_SignBy x0 x1 x2 := by
  rw [spec_SignBy.v]
  simp only [spec_SignBy.e6]
  rfl
theorem spec_SignBy.ok : V.Valid Tryz.prog 79 spec_SignBy.con :=
  V.fo (V.tab_cons spec_l6Has.ok (V.tab_cons spec_TagOf.ok V.tab_nil)) Tryz.func79 (by kernel_rfl) (fun x y h => (show V.evBody spec_SignBy.E spec_SignBy.con Tryz.f79 x = _ from spec_SignBy.eq x.1 (x.2.1, x.2.2.1) x.2.2.2).trans (V.cfl (by kernel_rfl) h))
noncomputable abbrev spec_SignHead.con : V.Con := ⟨V.A1, V.eSigned, fun (x : V.D1) => spec_SignHead (V.p1_0 x) (V.p1_1 x) (V.p1_2 x), [], [(false, 1), (true, 2), (true, 16)], [(true, 17)], [false, false, false, false, false, false, false, false, true, false, true, false, false, true, false, false, true], []⟩
noncomputable abbrev spec_SignHead.E : V.Env := V.mkE V.tys [(42, spec_l13Copy.con), (49, spec_HeadInts.con), (79, spec_SignBy.con)] [] [(1, 6)] [] [] []
noncomputable abbrev spec_SignHead.kt (x0 : List Int) (x1 : TKeys) (x2 : THead) : V.Kt TSigned := V.ktOf spec_SignHead.E spec_SignHead.con Tryz.f50 (V.fl1 x0 x1 x2)
noncomputable abbrev spec_SignHead.s (x0 : List Int) (x1 : TKeys) (x2 : THead) : V.St := ⟨[(0, .v false [.val (.sl (.cons (.int .i64) .nil) x0)]), (1, .v true [.val (.sl (.cons (.int .i64) .nil) x1.1), .val (.int .i64 x1.2)]), (2, .v true (V.lsHead x2))], []⟩
theorem spec_SignHead.v0 (x0 : List Int) (x1 : TKeys) (x2 : THead) : V.evBody spec_SignHead.E spec_SignHead.con Tryz.f50 (V.fl1 x0 x1 x2) = V.evC spec_SignHead.E Tryz.f50.ntmps (V.codeOf Tryz.f50) (spec_SignHead.kt x0 x1 x2) (spec_SignHead.s x0 x1 x2) := by kernel_rfl
theorem spec_SignHead.v (x0 : List Int) (x1 : TKeys) (x2 : THead) : V.evC spec_SignHead.E Tryz.f50.ntmps (V.codeOf Tryz.f50) (spec_SignHead.kt x0 x1 x2) (spec_SignHead.s x0 x1 x2) = spec_SignHead x0 x1 x2 := by kernel_rfl
theorem spec_SignHead.eq (x0 : List Int) (x1 : TKeys) (x2 : THead) : V.evBody spec_SignHead.E spec_SignHead.con Tryz.f50 (V.fl1 x0 x1 x2) = spec_SignHead x0 x1 x2 := (spec_SignHead.v0 x0 x1 x2).trans (spec_SignHead.v x0 x1 x2)
theorem spec_SignHead.ok : V.Valid Tryz.prog 50 spec_SignHead.con :=
  V.fo (V.tab_cons spec_l13Copy.ok (V.tab_cons spec_HeadInts.ok (V.tab_cons spec_SignBy.ok V.tab_nil))) Tryz.func50 (by kernel_rfl) (fun x y h => (show V.evBody spec_SignHead.E spec_SignHead.con Tryz.f50 x = _ from spec_SignHead.eq (V.p1_0 x) (V.p1_1 x) (V.p1_2 x)).trans (V.cfl (by kernel_rfl) h))
noncomputable abbrev spec_l14First.con : V.Con := ⟨(.cons (.ptr (.cons (.sl (.cons (.int .u8) .nil)) (.cons (.int .i64) (.cons (.int .i64) .nil)))) .nil), (.cons (.ptr (.cons (.sl (.cons (.int .u8) .nil)) (.cons (.int .i64) (.cons (.int .i64) .nil)))) (.cons (.int .i64) (.cons (.int .i64) (.cons (.int .i64) (.cons (.int .i64) (.cons (.int .i64) (.cons (.int .i64) (.cons (.int .i64) (.cons (.int .i64) (.cons (.sl (.cons (.int .i64) .nil)) (.cons (.int .i64) (.cons (.sl (.cons (.int .i64) .nil)) (.cons (.int .i64) (.cons (.int .i64) (.cons (.sl (.cons (.int .i64) .nil)) (.cons (.int .i64) (.cons .bool (.cons (.sl (.cons (.int .i64) (.cons (.int .i64) .nil))) .nil)))))))))))))))))), fun (x : (Tl1Cur)) => spec_l14First x, [(0, false)], [(false, 1)], [(true, 17)], [false, false, false, false, false, false, false, false, true, false, true, false, false, true, false, false, true], []⟩
noncomputable abbrev spec_l14First.E : V.Env := V.mkE V.tys [(41, spec_l1Below.con), (50, spec_SignHead.con), (53, spec_l6Keys.con), (54, spec_l9List.con), (75, spec_FirstHead.con)] [(13, [0, 2, 3, 7], []), (25, [0, 2, 3, 7], [])] [] [] [] [(5, [1000])]
noncomputable abbrev spec_l14First.kt (x0 : (Tl1Cur)) : V.Kt ((Tl1Cur) × Int × Int × Int × Int × Int × Int × Int × Int × List Int × Int × List Int × Int × Int × List Int × Int × Bool × List TSig) := V.ktOf spec_l14First.E spec_l14First.con Tryz.f46 ((x0) : (Tl1Cur))
noncomputable abbrev spec_l14First.s25 (x0 : (Tl1Cur)) (v13_18 : Int) (v13_19 : Int) (v13_20 : Int) (v13_21 : Int) (v13_22 : Int) (v13_23 : Int) (v13_24 : Int) (v13_25 : Int) (v13_26 : Int) (v13_30 : Bool) (v13_31 : List Int) (y1 : (Tl1Cur) × List Int × Int) (v25_1 : Int) (v25_2 : Int) (v25_27 : Int) (v25_28 : Int) (v25_29 : Int) (v25_32 : List Int) (v25_33 : List Int) : V.St := ⟨[(0, .v false [.ptr 0 0]), (2, .v false [.ptr 64000 0]), (3, .v false [.ptr 128128 0]), (7, .v false [.ptr 384640 0])], [(0, .box [.val (.sl (.cons (.int .u8) .nil) x0.1), .val (.int .i64 v25_1), .val (.int .i64 v25_2)]), (64000, .box [.val (.int .i64 (0 : Int)), .val (.int .i64 (0 : Int)), .val (.int .i64 (0 : Int)), .val (.int .i64 (0 : Int)), .val (.int .i64 (0 : Int)), .val (.int .i64 (0 : Int)), .val (.int .i64 (0 : Int)), .val (.int .i64 (0 : Int)), .nil0, .val (.int .i64 (0 : Int)), .nil0, .val (.int .i64 (0 : Int)), .val (.int .i64 (0 : Int)), .nil0, .val (.int .i64 (0 : Int)), .val (.bool false), .nil0]), (128128, .box [.ref 64000000000008200192, .val (.int .i64 y1.2.2)]), (64000000000008200192, .row (.cons (.int .i64) .nil) true y1.2.1), (384640, .box [.val (.int .i64 v13_18), .val (.int .i64 v13_19), .val (.int .i64 v13_20), .val (.int .i64 v13_21), .val (.int .i64 v13_22), .val (.int .i64 v13_23), .val (.int .i64 v13_24), .val (.int .i64 v13_25), .ref 64000000000024616968, .val (.int .i64 v13_26), .ref 64000000000024616970, .val (.int .i64 v25_27), .val (.int .i64 v25_28), .ref 64000000000024616973, .val (.int .i64 v25_29), .val (.bool v13_30)]), (64000000000024616968, .row (.cons (.int .i64) .nil) true v13_31), (64000000000024616970, .row (.cons (.int .i64) .nil) true v25_32), (64000000000024616973, .row (.cons (.int .i64) .nil) true v25_33)]⟩
noncomputable abbrev spec_l14First.s13 (x0 : (Tl1Cur)) (y1 : (Tl1Cur) × List Int × Int) (v13_1 : Int) (v13_2 : Int) (v13_18 : Int) (v13_19 : Int) (v13_20 : Int) (v13_21 : Int) (v13_22 : Int) (v13_23 : Int) (v13_24 : Int) (v13_25 : Int) (v13_26 : Int) (v13_27 : Int) (v13_28 : Int) (v13_29 : Int) (v13_30 : Bool) (v13_31 : List Int) (v13_32 : List Int) (v13_33 : List Int) : V.St := ⟨[(0, .v false [.ptr 0 0]), (2, .v false [.ptr 64000 0]), (3, .v false [.ptr 128128 0]), (7, .v false [.ptr 384640 0])], [(0, .box [.val (.sl (.cons (.int .u8) .nil) x0.1), .val (.int .i64 v13_1), .val (.int .i64 v13_2)]), (64000, .box [.val (.int .i64 (0 : Int)), .val (.int .i64 (0 : Int)), .val (.int .i64 (0 : Int)), .val (.int .i64 (0 : Int)), .val (.int .i64 (0 : Int)), .val (.int .i64 (0 : Int)), .val (.int .i64 (0 : Int)), .val (.int .i64 (0 : Int)), .nil0, .val (.int .i64 (0 : Int)), .nil0, .val (.int .i64 (0 : Int)), .val (.int .i64 (0 : Int)), .nil0, .val (.int .i64 (0 : Int)), .val (.bool false), .nil0]), (128128, .box [.ref 64000000000008200192, .val (.int .i64 y1.2.2)]), (64000000000008200192, .row (.cons (.int .i64) .nil) true y1.2.1), (384640, .box [.val (.int .i64 v13_18), .val (.int .i64 v13_19), .val (.int .i64 v13_20), .val (.int .i64 v13_21), .val (.int .i64 v13_22), .val (.int .i64 v13_23), .val (.int .i64 v13_24), .val (.int .i64 v13_25), .ref 64000000000024616968, .val (.int .i64 v13_26), .ref 64000000000024616970, .val (.int .i64 v13_27), .val (.int .i64 v13_28), .ref 64000000000024616973, .val (.int .i64 v13_29), .val (.bool v13_30)]), (64000000000024616968, .row (.cons (.int .i64) .nil) true v13_31), (64000000000024616970, .row (.cons (.int .i64) .nil) true v13_32), (64000000000024616973, .row (.cons (.int .i64) .nil) true v13_33)]⟩
theorem spec_l14First.r25 (x0 : (Tl1Cur)) (v13_18 : Int) (v13_19 : Int) (v13_20 : Int) (v13_21 : Int) (v13_22 : Int) (v13_23 : Int) (v13_24 : Int) (v13_25 : Int) (v13_26 : Int) (v13_30 : Bool) (v13_31 : List Int) (y1 : (Tl1Cur) × List Int × Int) (v25_1 : Int) (v25_2 : Int) (v25_27 : Int) (v25_28 : Int) (v25_29 : Int) (v25_32 : List Int) (v25_33 : List Int) : V.joinF spec_l14First.E Tryz.f46.ntmps [1, 1, 1, 1, 1, 1] [] (V.codeOf Tryz.f46) (spec_l14First.kt x0) (spec_l14First.s25 x0 v13_18 v13_19 v13_20 v13_21 v13_22 v13_23 v13_24 v13_25 v13_26 v13_30 v13_31 y1 v25_1 v25_2 v25_27 v25_28 v25_29 v25_32 v25_33) = spec_l14First.g25 x0 v13_18 v13_19 v13_20 v13_21 v13_22 v13_23 v13_24 v13_25 v13_26 v13_30 v13_31 y1 v25_1 v25_2 v25_27 v25_28 v25_29 v25_32 v25_33 := by kernel_rfl
theorem spec_l14First.e25 (x0 : (Tl1Cur)) (v13_18 : Int) (v13_19 : Int) (v13_20 : Int) (v13_21 : Int) (v13_22 : Int) (v13_23 : Int) (v13_24 : Int) (v13_25 : Int) (v13_26 : Int) (v13_30 : Bool) (v13_31 : List Int) (y1 : (Tl1Cur) × List Int × Int) (v25_1 : Int) (v25_2 : Int) (v25_27 : Int) (v25_28 : Int) (v25_29 : Int) (v25_32 : List Int) (v25_33 : List Int) : V.jn (V.joinF spec_l14First.E Tryz.f46.ntmps [1, 1, 1, 1, 1, 1] [] (V.codeOf Tryz.f46) (spec_l14First.kt x0)) (spec_l14First.s25 x0 v13_18 v13_19 v13_20 v13_21 v13_22 v13_23 v13_24 v13_25 v13_26 v13_30 v13_31 y1 v25_1 v25_2 v25_27 v25_28 v25_29 v25_32 v25_33) = spec_l14First.l25 x0 v13_18 v13_19 v13_20 v13_21 v13_22 v13_23 v13_24 v13_25 v13_26 v13_30 v13_31 y1 v25_1 v25_2 v25_27 v25_28 v25_29 v25_32 v25_33 := by
  rw [V.jn_eq, spec_l14First.r25]
  rfl
theorem spec_l14First.r13 (x0 : (Tl1Cur)) (y1 : (Tl1Cur) × List Int × Int) (v13_1 : Int) (v13_2 : Int) (v13_18 : Int) (v13_19 : Int) (v13_20 : Int) (v13_21 : Int) (v13_22 : Int) (v13_23 : Int) (v13_24 : Int) (v13_25 : Int) (v13_26 : Int) (v13_27 : Int) (v13_28 : Int) (v13_29 : Int) (v13_30 : Bool) (v13_31 : List Int) (v13_32 : List Int) (v13_33 : List Int) : V.joinF spec_l14First.E Tryz.f46.ntmps [1, 1, 1, 1, 1] [] (V.codeOf Tryz.f46) (spec_l14First.kt x0) (spec_l14First.s13 x0 y1 v13_1 v13_2 v13_18 v13_19 v13_20 v13_21 v13_22 v13_23 v13_24 v13_25 v13_26 v13_27 v13_28 v13_29 v13_30 v13_31 v13_32 v13_33) = spec_l14First.g13 x0 y1 (fun y1 v25_1 v25_2 v25_27 v25_28 v25_29 v25_32 v25_33 => V.jn (V.joinF spec_l14First.E Tryz.f46.ntmps [1, 1, 1, 1, 1, 1] [] (V.codeOf Tryz.f46) (spec_l14First.kt x0)) (spec_l14First.s25 x0 v13_18 v13_19 v13_20 v13_21 v13_22 v13_23 v13_24 v13_25 v13_26 v13_30 v13_31 y1 v25_1 v25_2 v25_27 v25_28 v25_29 v25_32 v25_33)) v13_1 v13_2 v13_18 v13_19 v13_20 v13_21 v13_22 v13_23 v13_24 v13_25 v13_26 v13_27 v13_28 v13_29 v13_30 v13_31 v13_32 v13_33 := by kernel_rfl
theorem spec_l14First.e13 (x0 : (Tl1Cur)) (y1 : (Tl1Cur) × List Int × Int) (v13_1 : Int) (v13_2 : Int) (v13_18 : Int) (v13_19 : Int) (v13_20 : Int) (v13_21 : Int) (v13_22 : Int) (v13_23 : Int) (v13_24 : Int) (v13_25 : Int) (v13_26 : Int) (v13_27 : Int) (v13_28 : Int) (v13_29 : Int) (v13_30 : Bool) (v13_31 : List Int) (v13_32 : List Int) (v13_33 : List Int) : V.jn (V.joinF spec_l14First.E Tryz.f46.ntmps [1, 1, 1, 1, 1] [] (V.codeOf Tryz.f46) (spec_l14First.kt x0)) (spec_l14First.s13 x0 y1 v13_1 v13_2 v13_18 v13_19 v13_20 v13_21 v13_22 v13_23 v13_24 v13_25 v13_26 v13_27 v13_28 v13_29 v13_30 v13_31 v13_32 v13_33) = spec_l14First.l13 x0 y1 v13_1 v13_2 v13_18 v13_19 v13_20 v13_21 v13_22 v13_23 v13_24 v13_25 v13_26 v13_27 v13_28 v13_29 v13_30 v13_31 v13_32 v13_33 := by
  rw [V.jn_eq, spec_l14First.r13]
  simp only [spec_l14First.e25]
  rfl
theorem spec_l14First.v (x0 : (Tl1Cur)) : V.evBody spec_l14First.E spec_l14First.con Tryz.f46 ((x0) : (Tl1Cur)) = spec_l14First.b x0 (fun y1 v13_1 v13_2 v13_18 v13_19 v13_20 v13_21 v13_22 v13_23 v13_24 v13_25 v13_26 v13_27 v13_28 v13_29 v13_30 v13_31 v13_32 v13_33 => V.jn (V.joinF spec_l14First.E Tryz.f46.ntmps [1, 1, 1, 1, 1] [] (V.codeOf Tryz.f46) (spec_l14First.kt x0)) (spec_l14First.s13 x0 y1 v13_1 v13_2 v13_18 v13_19 v13_20 v13_21 v13_22 v13_23 v13_24 v13_25 v13_26 v13_27 v13_28 v13_29 v13_30 v13_31 v13_32 v13_33)) := by kernel_rfl
theorem spec_l14First.eq (x0 : (Tl1Cur)) : V.evBody spec_l14First.E spec_l14First.con Tryz.f46 ((x0) : (Tl1Cur)) = spec_l14First x0 := by
  rw [spec_l14First.v]
  simp only [spec_l14First.e13]
  rfl
theorem spec_l14First.ok : V.Valid Tryz.prog 46 spec_l14First.con :=
  V.fo (V.tab_cons spec_l1Below.ok (V.tab_cons spec_SignHead.ok (V.tab_cons spec_l6Keys.ok (V.tab_cons spec_l9List.ok (V.tab_cons spec_FirstHead.ok V.tab_nil))))) Tryz.func46 (by kernel_rfl) (fun x y h => (show V.evBody spec_l14First.E spec_l14First.con Tryz.f46 x = _ from spec_l14First.eq x).trans (V.cfl (by kernel_rfl) h))
noncomputable abbrev spec_HeadDigest.con : V.Con := ⟨V.A0, (.cons (.int .i64) .nil), fun (x : V.D0) => spec_HeadDigest (V.p0_0 x), [], [(true, 16)], [(false, 1)], [false], []⟩
noncomputable abbrev spec_HeadDigest.E : V.Env := V.mkE V.tys [(49, spec_HeadInts.con), (82, spec_Hash.con)] [] [] [] [] []
noncomputable abbrev spec_HeadDigest.kt (x0 : THead) : V.Kt Int := V.ktOf spec_HeadDigest.E spec_HeadDigest.con Tryz.f51 (V.fl0 x0)
noncomputable abbrev spec_HeadDigest.s (x0 : THead) : V.St := ⟨[(0, .v true (V.lsHead x0))], []⟩
theorem spec_HeadDigest.v0 (x0 : THead) : V.evBody spec_HeadDigest.E spec_HeadDigest.con Tryz.f51 (V.fl0 x0) = V.evC spec_HeadDigest.E Tryz.f51.ntmps (V.codeOf Tryz.f51) (spec_HeadDigest.kt x0) (spec_HeadDigest.s x0) := by kernel_rfl
theorem spec_HeadDigest.v (x0 : THead) : V.evC spec_HeadDigest.E Tryz.f51.ntmps (V.codeOf Tryz.f51) (spec_HeadDigest.kt x0) (spec_HeadDigest.s x0) = spec_HeadDigest x0 := by kernel_rfl
theorem spec_HeadDigest.eq (x0 : THead) : V.evBody spec_HeadDigest.E spec_HeadDigest.con Tryz.f51 (V.fl0 x0) = spec_HeadDigest x0 := (spec_HeadDigest.v0 x0).trans (spec_HeadDigest.v x0)
theorem spec_HeadDigest.ok : V.Valid Tryz.prog 51 spec_HeadDigest.con :=
  V.fo (V.tab_cons spec_HeadInts.ok (V.tab_cons spec_Hash.ok V.tab_nil)) Tryz.func51 (by kernel_rfl) (fun x y h => (show V.evBody spec_HeadDigest.E spec_HeadDigest.con Tryz.f51 x = _ from spec_HeadDigest.eq (V.p0_0 x)).trans (V.cfl (by kernel_rfl) h))
noncomputable abbrev spec_l1Once.con : V.Con := ⟨(.cons (.ptr (.cons (.sl (.cons (.int .u8) .nil)) (.cons (.int .i64) (.cons (.int .i64) .nil)))) (.cons (.int .i64) .nil)), (.cons (.ptr (.cons (.sl (.cons (.int .u8) .nil)) (.cons (.int .i64) (.cons (.int .i64) .nil)))) (.cons .bool .nil)), fun (x : (Tl1Cur) × Int) => spec_l1Once x.1 x.2, [(0, false)], [(false, 1), (false, 1)], [(false, 1)], [false], []⟩
noncomputable abbrev spec_l1Once.E : V.Env := V.mkE V.tys [(41, spec_l1Below.con)] [] [] [] [] []
theorem spec_l1Once.eq (x0 : (Tl1Cur)) (x1 : Int) : V.evBody spec_l1Once.E spec_l1Once.con Tryz.f22 ((x0, x1) : (Tl1Cur) × Int) = spec_l1Once x0 x1 := by kernel_rfl
theorem spec_l1Once.ok : V.Valid Tryz.prog 22 spec_l1Once.con :=
  V.fo (V.tab_cons spec_l1Below.ok V.tab_nil) Tryz.func22 (by kernel_rfl) (fun x y h => (show V.evBody spec_l1Once.E spec_l1Once.con Tryz.f22 x = _ from spec_l1Once.eq x.1 x.2).trans (V.cfl (by kernel_rfl) h))
noncomputable abbrev spec_l15Next.con : V.Con := ⟨V.A2, (.cons (.ptr (.cons (.sl (.cons (.int .u8) .nil)) (.cons (.int .i64) (.cons (.int .i64) .nil)))) (.cons (.int .i64) (.cons (.int .i64) (.cons (.int .i64) (.cons (.int .i64) (.cons (.int .i64) (.cons (.int .i64) (.cons (.int .i64) (.cons (.int .i64) (.cons (.sl (.cons (.int .i64) .nil)) (.cons (.int .i64) (.cons (.sl (.cons (.int .i64) .nil)) (.cons (.int .i64) (.cons (.int .i64) (.cons (.sl (.cons (.int .i64) .nil)) (.cons (.int .i64) (.cons .bool (.cons (.sl (.cons (.int .i64) (.cons (.int .i64) .nil))) .nil)))))))))))))))))), fun (x : V.D2) => spec_l15Next (V.p2_0 x) (V.p2_1 x), [(0, false)], [(false, 1), (true, 16)], [(true, 17)], [false, false, false, false, false, false, false, false, true, false, true, false, false, true, false, false, true], []⟩
noncomputable abbrev spec_l15Next.E : V.Env := V.mkE V.tys [(22, spec_l1Once.con), (41, spec_l1Below.con), (42, spec_l13Copy.con), (50, spec_SignHead.con), (51, spec_HeadDigest.con), (52, spec_l6Copy.con), (53, spec_l6Keys.con), (54, spec_l9List.con), (55, spec_RootOf.con)] [(11, [0, 3, 4, 5], []), (13, [0, 3, 4, 5], []), (25, [0, 3, 4, 5, 6], []), (27, [0, 3, 4, 5, 6], []), (41, [0, 4, 5, 6, 73], []), (63, [0, 4, 5, 6], [])] [] [] [] [(4, [1000]), (5, [1000]), (11, [1000]), (12, [1000])]
noncomputable abbrev spec_l15Next.kt (x0 : (Tl1Cur)) (x1 : THead) : V.Kt ((Tl1Cur) × Int × Int × Int × Int × Int × Int × Int × Int × List Int × Int × List Int × Int × Int × List Int × Int × Bool × List TSig) := V.ktOf spec_l15Next.E spec_l15Next.con Tryz.f24 (V.fl2 x0 x1)
noncomputable abbrev spec_l15Next.s63 (x0 : (Tl1Cur)) (v11_33 : Int) (y1 : THead) (y2 : Int) (v63_1 : Int) (v63_2 : Int) (v63_18 : Int) (v63_19 : Int) (v63_20 : Int) (v63_21 : Int) (v63_22 : Int) (v63_24 : Int) (v63_25 : Int) (v63_26 : Int) (v63_27 : Int) (v63_28 : Bool) (v63_29 : List Int) (v63_30 : List Int) (v63_31 : List Int) (v63_32 : List Int) (v63_33 : Int) : V.St := ⟨[(0, .v false [.ptr 0 0]), (4, .v false [.ptr 64064 0]), (5, .v false [.ptr 128128 0]), (6, .v false [.ptr 512128 0])], [(0, .box [.val (.sl (.cons (.int .u8) .nil) x0.1), .val (.int .i64 v63_1), .val (.int .i64 v63_2)]), (64064, .box [.val (.int .i64 (0 : Int)), .val (.int .i64 (0 : Int)), .val (.int .i64 (0 : Int)), .val (.int .i64 (0 : Int)), .val (.int .i64 (0 : Int)), .val (.int .i64 (0 : Int)), .val (.int .i64 (0 : Int)), .val (.int .i64 (0 : Int)), .nil0, .val (.int .i64 (0 : Int)), .nil0, .val (.int .i64 (0 : Int)), .val (.int .i64 (0 : Int)), .nil0, .val (.int .i64 (0 : Int)), .val (.bool false), .nil0]), (128128, .box [.val (.int .i64 y1.1), .val (.int .i64 v11_33), .val (.int .i64 v63_18), .val (.int .i64 v63_19), .val (.int .i64 v63_20), .val (.int .i64 v63_21), .val (.int .i64 v63_22), .val (.int .i64 y2), .ref 64000000000008200200, .val (.int .i64 v63_24), .ref 64000000000008200202, .val (.int .i64 v63_25), .val (.int .i64 v63_26), .ref 64000000000008200205, .val (.int .i64 v63_27), .val (.bool v63_28)]), (64000000000008200200, .row (.cons (.int .i64) .nil) true v63_29), (64000000000008200202, .row (.cons (.int .i64) .nil) true v63_30), (64000000000008200205, .row (.cons (.int .i64) .nil) true v63_31), (512128, .box [.val (.sl (.cons (.int .i64) .nil) v63_32), .val (.int .i64 v63_33)])]⟩
noncomputable abbrev spec_l15Next.s27 (x0 : (Tl1Cur)) (x1 : THead) (v11_33 : Int) (v25_35 : Int) (y1 : THead) (y2 : Int) (v27_1 : Int) (v27_2 : Int) (v27_36 : Int) : V.St := ⟨[(0, .v false [.ptr 0 0]), (3, .v false [.ptr 64000 0]), (4, .v false [.ptr 64064 0]), (5, .v false [.ptr 128128 0]), (6, .v false [.ptr 512128 0])], [(0, .box [.val (.sl (.cons (.int .u8) .nil) x0.1), .val (.int .i64 v27_1), .val (.int .i64 v27_2)]), (64000, .box (V.lsHead x1)), (64064, .box [.val (.int .i64 (0 : Int)), .val (.int .i64 (0 : Int)), .val (.int .i64 (0 : Int)), .val (.int .i64 (0 : Int)), .val (.int .i64 (0 : Int)), .val (.int .i64 (0 : Int)), .val (.int .i64 (0 : Int)), .val (.int .i64 (0 : Int)), .nil0, .val (.int .i64 (0 : Int)), .nil0, .val (.int .i64 (0 : Int)), .val (.int .i64 (0 : Int)), .nil0, .val (.int .i64 (0 : Int)), .val (.bool false), .nil0]), (128128, .box [.val (.int .i64 y1.1), .val (.int .i64 v11_33), .val (.int .i64 (2 : Int)), .val (.int .i64 v25_35), .val (.int .i64 v27_36), .val (.int .i64 y1.2.2.2.2.2.1), .val (.int .i64 y1.2.2.2.2.2.2.1), .val (.int .i64 y2), .ref 64000000000008200200, .val (.int .i64 y1.2.2.2.2.2.2.2.2.2.1), .ref 64000000000008200202, .val (.int .i64 y1.2.2.2.2.2.2.2.2.2.2.2.1), .val (.int .i64 y1.2.2.2.2.2.2.2.2.2.2.2.2.1), .ref 64000000000008200205, .val (.int .i64 y1.2.2.2.2.2.2.2.2.2.2.2.2.2.2.1), .val (.bool y1.2.2.2.2.2.2.2.2.2.2.2.2.2.2.2)]), (64000000000008200200, .row (.cons (.int .i64) .nil) true y1.2.2.2.2.2.2.2.2.1), (64000000000008200202, .row (.cons (.int .i64) .nil) true y1.2.2.2.2.2.2.2.2.2.2.1), (64000000000008200205, .row (.cons (.int .i64) .nil) true y1.2.2.2.2.2.2.2.2.2.2.2.2.2.1), (512128, .box [.val (.sl (.cons (.int .i64) .nil) x1.2.2.2.2.2.2.2.2.1), .val (.int .i64 x1.2.2.2.2.2.2.2.2.2.1)])]⟩
noncomputable abbrev spec_l15Next.s25 (x0 : (Tl1Cur)) (x1 : THead) (v11_33 : Int) (v13_36 : Int) (y1 : THead) (y2 : Int) (v25_1 : Int) (v25_2 : Int) (v25_35 : Int) : V.St := ⟨[(0, .v false [.ptr 0 0]), (3, .v false [.ptr 64000 0]), (4, .v false [.ptr 64064 0]), (5, .v false [.ptr 128128 0]), (6, .v false [.ptr 512128 0])], [(0, .box [.val (.sl (.cons (.int .u8) .nil) x0.1), .val (.int .i64 v25_1), .val (.int .i64 v25_2)]), (64000, .box (V.lsHead x1)), (64064, .box [.val (.int .i64 (0 : Int)), .val (.int .i64 (0 : Int)), .val (.int .i64 (0 : Int)), .val (.int .i64 (0 : Int)), .val (.int .i64 (0 : Int)), .val (.int .i64 (0 : Int)), .val (.int .i64 (0 : Int)), .val (.int .i64 (0 : Int)), .nil0, .val (.int .i64 (0 : Int)), .nil0, .val (.int .i64 (0 : Int)), .val (.int .i64 (0 : Int)), .nil0, .val (.int .i64 (0 : Int)), .val (.bool false), .nil0]), (128128, .box [.val (.int .i64 y1.1), .val (.int .i64 v11_33), .val (.int .i64 (2 : Int)), .val (.int .i64 v25_35), .val (.int .i64 v13_36), .val (.int .i64 y1.2.2.2.2.2.1), .val (.int .i64 y1.2.2.2.2.2.2.1), .val (.int .i64 y2), .ref 64000000000008200200, .val (.int .i64 y1.2.2.2.2.2.2.2.2.2.1), .ref 64000000000008200202, .val (.int .i64 y1.2.2.2.2.2.2.2.2.2.2.2.1), .val (.int .i64 y1.2.2.2.2.2.2.2.2.2.2.2.2.1), .ref 64000000000008200205, .val (.int .i64 y1.2.2.2.2.2.2.2.2.2.2.2.2.2.2.1), .val (.bool y1.2.2.2.2.2.2.2.2.2.2.2.2.2.2.2)]), (64000000000008200200, .row (.cons (.int .i64) .nil) true y1.2.2.2.2.2.2.2.2.1), (64000000000008200202, .row (.cons (.int .i64) .nil) true y1.2.2.2.2.2.2.2.2.2.2.1), (64000000000008200205, .row (.cons (.int .i64) .nil) true y1.2.2.2.2.2.2.2.2.2.2.2.2.2.1), (512128, .box [.val (.sl (.cons (.int .i64) .nil) x1.2.2.2.2.2.2.2.2.1), .val (.int .i64 x1.2.2.2.2.2.2.2.2.2.1)])]⟩
noncomputable abbrev spec_l15Next.s41 (x0 : (Tl1Cur)) (x1 : THead) (v11_33 : Int) (v11_35 : Int) (v13_36 : Int) (y1 : THead) (y2 : Int) (v41_0 : Bool) (v41_2 : Int) (v41_3 : Int) (v41_29 : Bool) : V.St := ⟨[(0, .v false [.ptr 0 0]), (4, .v false [.ptr 64064 0]), (5, .v false [.ptr 128128 0]), (6, .v false [.ptr 512128 0]), (73, .v false [.val (.bool v41_0)])], [(0, .box [.val (.sl (.cons (.int .u8) .nil) x0.1), .val (.int .i64 v41_2), .val (.int .i64 v41_3)]), (64064, .box [.val (.int .i64 (0 : Int)), .val (.int .i64 (0 : Int)), .val (.int .i64 (0 : Int)), .val (.int .i64 (0 : Int)), .val (.int .i64 (0 : Int)), .val (.int .i64 (0 : Int)), .val (.int .i64 (0 : Int)), .val (.int .i64 (0 : Int)), .nil0, .val (.int .i64 (0 : Int)), .nil0, .val (.int .i64 (0 : Int)), .val (.int .i64 (0 : Int)), .nil0, .val (.int .i64 (0 : Int)), .val (.bool false), .nil0]), (128128, .box [.val (.int .i64 y1.1), .val (.int .i64 v11_33), .val (.int .i64 (3 : Int)), .val (.int .i64 v11_35), .val (.int .i64 v13_36), .val (.int .i64 y1.2.2.2.2.2.1), .val (.int .i64 y1.2.2.2.2.2.2.1), .val (.int .i64 y2), .ref 64000000000008200200, .val (.int .i64 y1.2.2.2.2.2.2.2.2.2.1), .ref 64000000000008200202, .val (.int .i64 y1.2.2.2.2.2.2.2.2.2.2.2.1), .val (.int .i64 y1.2.2.2.2.2.2.2.2.2.2.2.2.1), .ref 64000000000008200205, .val (.int .i64 y1.2.2.2.2.2.2.2.2.2.2.2.2.2.2.1), .val (.bool v41_29)]), (64000000000008200200, .row (.cons (.int .i64) .nil) true y1.2.2.2.2.2.2.2.2.1), (64000000000008200202, .row (.cons (.int .i64) .nil) true y1.2.2.2.2.2.2.2.2.2.2.1), (64000000000008200205, .row (.cons (.int .i64) .nil) true y1.2.2.2.2.2.2.2.2.2.2.2.2.2.1), (512128, .box [.val (.sl (.cons (.int .i64) .nil) x1.2.2.2.2.2.2.2.2.2.2.2.2.2.1), .val (.int .i64 x1.2.2.2.2.2.2.2.2.2.2.2.2.2.2.1)])]⟩
noncomputable abbrev spec_l15Next.s13 (x0 : (Tl1Cur)) (x1 : THead) (v11_33 : Int) (v11_35 : Int) (y1 : THead) (y2 : Int) (v13_1 : Int) (v13_2 : Int) (v13_36 : Int) : V.St := ⟨[(0, .v false [.ptr 0 0]), (3, .v false [.ptr 64000 0]), (4, .v false [.ptr 64064 0]), (5, .v false [.ptr 128128 0])], [(0, .box [.val (.sl (.cons (.int .u8) .nil) x0.1), .val (.int .i64 v13_1), .val (.int .i64 v13_2)]), (64000, .box (V.lsHead x1)), (64064, .box [.val (.int .i64 (0 : Int)), .val (.int .i64 (0 : Int)), .val (.int .i64 (0 : Int)), .val (.int .i64 (0 : Int)), .val (.int .i64 (0 : Int)), .val (.int .i64 (0 : Int)), .val (.int .i64 (0 : Int)), .val (.int .i64 (0 : Int)), .nil0, .val (.int .i64 (0 : Int)), .nil0, .val (.int .i64 (0 : Int)), .val (.int .i64 (0 : Int)), .nil0, .val (.int .i64 (0 : Int)), .val (.bool false), .nil0]), (128128, .box [.val (.int .i64 y1.1), .val (.int .i64 v11_33), .val (.int .i64 y1.2.2.1), .val (.int .i64 v11_35), .val (.int .i64 v13_36), .val (.int .i64 y1.2.2.2.2.2.1), .val (.int .i64 y1.2.2.2.2.2.2.1), .val (.int .i64 y2), .ref 64000000000008200200, .val (.int .i64 y1.2.2.2.2.2.2.2.2.2.1), .ref 64000000000008200202, .val (.int .i64 y1.2.2.2.2.2.2.2.2.2.2.2.1), .val (.int .i64 y1.2.2.2.2.2.2.2.2.2.2.2.2.1), .ref 64000000000008200205, .val (.int .i64 y1.2.2.2.2.2.2.2.2.2.2.2.2.2.2.1), .val (.bool y1.2.2.2.2.2.2.2.2.2.2.2.2.2.2.2)]), (64000000000008200200, .row (.cons (.int .i64) .nil) true y1.2.2.2.2.2.2.2.2.1), (64000000000008200202, .row (.cons (.int .i64) .nil) true y1.2.2.2.2.2.2.2.2.2.2.1), (64000000000008200205, .row (.cons (.int .i64) .nil) true y1.2.2.2.2.2.2.2.2.2.2.2.2.2.1)]⟩
noncomputable abbrev spec_l15Next.s11 (x0 : (Tl1Cur)) (x1 : THead) (y1 : THead) (y2 : Int) (v11_1 : Int) (v11_2 : Int) (v11_33 : Int) (v11_35 : Int) : V.St := ⟨[(0, .v false [.ptr 0 0]), (3, .v false [.ptr 64000 0]), (4, .v false [.ptr 64064 0]), (5, .v false [.ptr 128128 0])], [(0, .box [.val (.sl (.cons (.int .u8) .nil) x0.1), .val (.int .i64 v11_1), .val (.int .i64 v11_2)]), (64000, .box (V.lsHead x1)), (64064, .box [.val (.int .i64 (0 : Int)), .val (.int .i64 (0 : Int)), .val (.int .i64 (0 : Int)), .val (.int .i64 (0 : Int)), .val (.int .i64 (0 : Int)), .val (.int .i64 (0 : Int)), .val (.int .i64 (0 : Int)), .val (.int .i64 (0 : Int)), .nil0, .val (.int .i64 (0 : Int)), .nil0, .val (.int .i64 (0 : Int)), .val (.int .i64 (0 : Int)), .nil0, .val (.int .i64 (0 : Int)), .val (.bool false), .nil0]), (128128, .box [.val (.int .i64 y1.1), .val (.int .i64 v11_33), .val (.int .i64 y1.2.2.1), .val (.int .i64 v11_35), .val (.int .i64 y1.2.2.2.2.1), .val (.int .i64 y1.2.2.2.2.2.1), .val (.int .i64 y1.2.2.2.2.2.2.1), .val (.int .i64 y2), .ref 64000000000008200200, .val (.int .i64 y1.2.2.2.2.2.2.2.2.2.1), .ref 64000000000008200202, .val (.int .i64 y1.2.2.2.2.2.2.2.2.2.2.2.1), .val (.int .i64 y1.2.2.2.2.2.2.2.2.2.2.2.2.1), .ref 64000000000008200205, .val (.int .i64 y1.2.2.2.2.2.2.2.2.2.2.2.2.2.2.1), .val (.bool y1.2.2.2.2.2.2.2.2.2.2.2.2.2.2.2)]), (64000000000008200200, .row (.cons (.int .i64) .nil) true y1.2.2.2.2.2.2.2.2.1), (64000000000008200202, .row (.cons (.int .i64) .nil) true y1.2.2.2.2.2.2.2.2.2.2.1), (64000000000008200205, .row (.cons (.int .i64) .nil) true y1.2.2.2.2.2.2.2.2.2.2.2.2.2.1)]⟩
theorem spec_l15Next.r63 (x0 : (Tl1Cur)) (x1 : THead) (v11_33 : Int) (y1 : THead) (y2 : Int) (v63_1 : Int) (v63_2 : Int) (v63_18 : Int) (v63_19 : Int) (v63_20 : Int) (v63_21 : Int) (v63_22 : Int) (v63_24 : Int) (v63_25 : Int) (v63_26 : Int) (v63_27 : Int) (v63_28 : Bool) (v63_29 : List Int) (v63_30 : List Int) (v63_31 : List Int) (v63_32 : List Int) (v63_33 : Int) : V.joinF spec_l15Next.E Tryz.f24.ntmps [1, 1, 1, 1, 1, 1, 1, 1] [] (V.codeOf Tryz.f24) (spec_l15Next.kt x0 x1) (spec_l15Next.s63 x0 v11_33 y1 y2 v63_1 v63_2 v63_18 v63_19 v63_20 v63_21 v63_22 v63_24 v63_25 v63_26 v63_27 v63_28 v63_29 v63_30 v63_31 v63_32 v63_33) = spec_l15Next.g63 x0 v11_33 y1 y2 v63_1 v63_2 v63_18 v63_19 v63_20 v63_21 v63_22 v63_24 v63_25 v63_26 v63_27 v63_28 v63_29 v63_30 v63_31 v63_32 v63_33 := by kernel_rfl
theorem spec_l15Next.e63 (x0 : (Tl1Cur)) (x1 : THead) (v11_33 : Int) (y1 : THead) (y2 : Int) (v63_1 : Int) (v63_2 : Int) (v63_18 : Int) (v63_19 : Int) (v63_20 : Int) (v63_21 : Int) (v63_22 : Int) (v63_24 : Int) (v63_25 : Int) (v63_26 : Int) (v63_27 : Int) (v63_28 : Bool) (v63_29 : List Int) (v63_30 : List Int) (v63_31 : List Int) (v63_32 : List Int) (v63_33 : Int) : V.jn (V.joinF spec_l15Next.E Tryz.f24.ntmps [1, 1, 1, 1, 1, 1, 1, 1] [] (V.codeOf Tryz.f24) (spec_l15Next.kt x0 x1)) (spec_l15Next.s63 x0 v11_33 y1 y2 v63_1 v63_2 v63_18 v63_19 v63_20 v63_21 v63_22 v63_24 v63_25 v63_26 v63_27 v63_28 v63_29 v63_30 v63_31 v63_32 v63_33) = spec_l15Next.l63 x0 v11_33 y1 y2 v63_1 v63_2 v63_18 v63_19 v63_20 v63_21 v63_22 v63_24 v63_25 v63_26 v63_27 v63_28 v63_29 v63_30 v63_31 v63_32 v63_33 := by
  rw [V.jn_eq, spec_l15Next.r63]
  rfl
theorem spec_l15Next.r27 (x0 : (Tl1Cur)) (x1 : THead) (v11_33 : Int) (v25_35 : Int) (y1 : THead) (y2 : Int) (v27_1 : Int) (v27_2 : Int) (v27_36 : Int) : V.joinF spec_l15Next.E Tryz.f24.ntmps [1, 1, 1, 1, 1, 1, 1, 1, 0, 1, 0, 1, 0, 1, 1] [] (V.codeOf Tryz.f24) (spec_l15Next.kt x0 x1) (spec_l15Next.s27 x0 x1 v11_33 v25_35 y1 y2 v27_1 v27_2 v27_36) = spec_l15Next.g27 x0 x1 v11_33 v25_35 y1 y2 (fun y1 y2 v63_1 v63_2 v63_18 v63_19 v63_20 v63_21 v63_22 v63_24 v63_25 v63_26 v63_27 v63_28 v63_29 v63_30 v63_31 v63_32 v63_33 => V.jn (V.joinF spec_l15Next.E Tryz.f24.ntmps [1, 1, 1, 1, 1, 1, 1, 1] [] (V.codeOf Tryz.f24) (spec_l15Next.kt x0 x1)) (spec_l15Next.s63 x0 v11_33 y1 y2 v63_1 v63_2 v63_18 v63_19 v63_20 v63_21 v63_22 v63_24 v63_25 v63_26 v63_27 v63_28 v63_29 v63_30 v63_31 v63_32 v63_33)) v27_1 v27_2 v27_36 := by kernel_rfl
theorem spec_l15Next.e27 (x0 : (Tl1Cur)) (x1 : THead) (v11_33 : Int) (v25_35 : Int) (y1 : THead) (y2 : Int) (v27_1 : Int) (v27_2 : Int) (v27_36 : Int) : V.jn (V.joinF spec_l15Next.E Tryz.f24.ntmps [1, 1, 1, 1, 1, 1, 1, 1, 0, 1, 0, 1, 0, 1, 1] [] (V.codeOf Tryz.f24) (spec_l15Next.kt x0 x1)) (spec_l15Next.s27 x0 x1 v11_33 v25_35 y1 y2 v27_1 v27_2 v27_36) = spec_l15Next.l27 x0 x1 v11_33 v25_35 y1 y2 v27_1 v27_2 v27_36 := by
  rw [V.jn_eq, spec_l15Next.r27]
  simp only [spec_l15Next.e63]
  rfl
theorem spec_l15Next.r25 (x0 : (Tl1Cur)) (x1 : THead) (v11_33 : Int) (v13_36 : Int) (y1 : THead) (y2 : Int) (v25_1 : Int) (v25_2 : Int) (v25_35 : Int) : V.joinF spec_l15Next.E Tryz.f24.ntmps [1, 1, 1, 1, 1, 1, 1, 1, 0, 1, 0, 1, 0, 1] [] (V.codeOf Tryz.f24) (spec_l15Next.kt x0 x1) (spec_l15Next.s25 x0 x1 v11_33 v13_36 y1 y2 v25_1 v25_2 v25_35) = spec_l15Next.g25 x0 x1 v11_33 v13_36 y1 y2 (fun y1 y2 v27_1 v27_2 v27_36 => V.jn (V.joinF spec_l15Next.E Tryz.f24.ntmps [1, 1, 1, 1, 1, 1, 1, 1, 0, 1, 0, 1, 0, 1, 1] [] (V.codeOf Tryz.f24) (spec_l15Next.kt x0 x1)) (spec_l15Next.s27 x0 x1 v11_33 v25_35 y1 y2 v27_1 v27_2 v27_36)) v25_1 v25_2 v25_35 := by kernel_rfl
theorem spec_l15Next.e25 (x0 : (Tl1Cur)) (x1 : THead) (v11_33 : Int) (v13_36 : Int) (y1 : THead) (y2 : Int) (v25_1 : Int) (v25_2 : Int) (v25_35 : Int) : V.jn (V.joinF spec_l15Next.E Tryz.f24.ntmps [1, 1, 1, 1, 1, 1, 1, 1, 0, 1, 0, 1, 0, 1] [] (V.codeOf Tryz.f24) (spec_l15Next.kt x0 x1)) (spec_l15Next.s25 x0 x1 v11_33 v13_36 y1 y2 v25_1 v25_2 v25_35) = spec_l15Next.l25 x0 x1 v11_33 v13_36 y1 y2 v25_1 v25_2 v25_35 := by
  rw [V.jn_eq, spec_l15Next.r25]
  simp only [spec_l15Next.e27]
  rfl
theorem spec_l15Next.r41 (x0 : (Tl1Cur)) (x1 : THead) (v11_33 : Int) (v11_35 : Int) (v13_36 : Int) (y1 : THead) (y2 : Int) (v41_0 : Bool) (v41_2 : Int) (v41_3 : Int) (v41_29 : Bool) : V.joinF spec_l15Next.E Tryz.f24.ntmps [1, 1, 1, 1, 1, 1, 1, 1, 0, 1, 0, 1, 1, 1, 0, 1, 1, 1] [] (V.codeOf Tryz.f24) (spec_l15Next.kt x0 x1) (spec_l15Next.s41 x0 x1 v11_33 v11_35 v13_36 y1 y2 v41_0 v41_2 v41_3 v41_29) = spec_l15Next.g41 x0 x1 v11_33 v11_35 v13_36 y1 y2 (fun y1 y2 v63_1 v63_2 v63_18 v63_19 v63_20 v63_21 v63_22 v63_24 v63_25 v63_26 v63_27 v63_28 v63_29 v63_30 v63_31 v63_32 v63_33 => V.jn (V.joinF spec_l15Next.E Tryz.f24.ntmps [1, 1, 1, 1, 1, 1, 1, 1] [] (V.codeOf Tryz.f24) (spec_l15Next.kt x0 x1)) (spec_l15Next.s63 x0 v11_33 y1 y2 v63_1 v63_2 v63_18 v63_19 v63_20 v63_21 v63_22 v63_24 v63_25 v63_26 v63_27 v63_28 v63_29 v63_30 v63_31 v63_32 v63_33)) v41_0 v41_2 v41_3 v41_29 := by kernel_rfl
theorem spec_l15Next.e41 (x0 : (Tl1Cur)) (x1 : THead) (v11_33 : Int) (v11_35 : Int) (v13_36 : Int) (y1 : THead) (y2 : Int) (v41_0 : Bool) (v41_2 : Int) (v41_3 : Int) (v41_29 : Bool) : V.jn (V.joinF spec_l15Next.E Tryz.f24.ntmps [1, 1, 1, 1, 1, 1, 1, 1, 0, 1, 0, 1, 1, 1, 0, 1, 1, 1] [] (V.codeOf Tryz.f24) (spec_l15Next.kt x0 x1)) (spec_l15Next.s41 x0 x1 v11_33 v11_35 v13_36 y1 y2 v41_0 v41_2 v41_3 v41_29) = spec_l15Next.l41 x0 x1 v11_33 v11_35 v13_36 y1 y2 v41_0 v41_2 v41_3 v41_29 := by
  rw [V.jn_eq, spec_l15Next.r41]
  simp only [spec_l15Next.e63]
  rfl
theorem spec_l15Next.r13 (x0 : (Tl1Cur)) (x1 : THead) (v11_33 : Int) (v11_35 : Int) (y1 : THead) (y2 : Int) (v13_1 : Int) (v13_2 : Int) (v13_36 : Int) : V.joinF spec_l15Next.E Tryz.f24.ntmps [1, 1, 1, 1, 1] [] (V.codeOf Tryz.f24) (spec_l15Next.kt x0 x1) (spec_l15Next.s13 x0 x1 v11_33 v11_35 y1 y2 v13_1 v13_2 v13_36) = spec_l15Next.g13 x0 x1 v11_33 v11_35 y1 y2 (fun y1 y2 v25_1 v25_2 v25_35 => V.jn (V.joinF spec_l15Next.E Tryz.f24.ntmps [1, 1, 1, 1, 1, 1, 1, 1, 0, 1, 0, 1, 0, 1] [] (V.codeOf Tryz.f24) (spec_l15Next.kt x0 x1)) (spec_l15Next.s25 x0 x1 v11_33 v13_36 y1 y2 v25_1 v25_2 v25_35)) (fun y1 y2 v41_0 v41_2 v41_3 v41_29 => V.jn (V.joinF spec_l15Next.E Tryz.f24.ntmps [1, 1, 1, 1, 1, 1, 1, 1, 0, 1, 0, 1, 1, 1, 0, 1, 1, 1] [] (V.codeOf Tryz.f24) (spec_l15Next.kt x0 x1)) (spec_l15Next.s41 x0 x1 v11_33 v11_35 v13_36 y1 y2 v41_0 v41_2 v41_3 v41_29)) (fun y1 y2 v63_1 v63_2 v63_18 v63_19 v63_20 v63_21 v63_22 v63_24 v63_25 v63_26 v63_27 v63_28 v63_29 v63_30 v63_31 v63_32 v63_33 => V.jn (V.joinF spec_l15Next.E Tryz.f24.ntmps [1, 1, 1, 1, 1, 1, 1, 1] [] (V.codeOf Tryz.f24) (spec_l15Next.kt x0 x1)) (spec_l15Next.s63 x0 v11_33 y1 y2 v63_1 v63_2 v63_18 v63_19 v63_20 v63_21 v63_22 v63_24 v63_25 v63_26 v63_27 v63_28 v63_29 v63_30 v63_31 v63_32 v63_33)) v13_1 v13_2 v13_36 := by kernel_rfl
theorem spec_l15Next.e13 (x0 : (Tl1Cur)) (x1 : THead) (v11_33 : Int) (v11_35 : Int) (y1 : THead) (y2 : Int) (v13_1 : Int) (v13_2 : Int) (v13_36 : Int) : V.jn (V.joinF spec_l15Next.E Tryz.f24.ntmps [1, 1, 1, 1, 1] [] (V.codeOf Tryz.f24) (spec_l15Next.kt x0 x1)) (spec_l15Next.s13 x0 x1 v11_33 v11_35 y1 y2 v13_1 v13_2 v13_36) = spec_l15Next.l13 x0 x1 v11_33 v11_35 y1 y2 v13_1 v13_2 v13_36 := by
  rw [V.jn_eq, spec_l15Next.r13]
  simp only [spec_l15Next.e25, spec_l15Next.e41, spec_l15Next.e63]
  rfl
theorem spec_l15Next.r11 (x0 : (Tl1Cur)) (x1 : THead) (y1 : THead) (y2 : Int) (v11_1 : Int) (v11_2 : Int) (v11_33 : Int) (v11_35 : Int) : V.joinF spec_l15Next.E Tryz.f24.ntmps [1, 1, 1, 1] [] (V.codeOf Tryz.f24) (spec_l15Next.kt x0 x1) (spec_l15Next.s11 x0 x1 y1 y2 v11_1 v11_2 v11_33 v11_35) = spec_l15Next.g11 x0 x1 y1 y2 (fun y1 y2 v13_1 v13_2 v13_36 => V.jn (V.joinF spec_l15Next.E Tryz.f24.ntmps [1, 1, 1, 1, 1] [] (V.codeOf Tryz.f24) (spec_l15Next.kt x0 x1)) (spec_l15Next.s13 x0 x1 v11_33 v11_35 y1 y2 v13_1 v13_2 v13_36)) v11_1 v11_2 v11_33 v11_35 := by kernel_rfl
theorem spec_l15Next.e11 (x0 : (Tl1Cur)) (x1 : THead) (y1 : THead) (y2 : Int) (v11_1 : Int) (v11_2 : Int) (v11_33 : Int) (v11_35 : Int) : V.jn (V.joinF spec_l15Next.E Tryz.f24.ntmps [1, 1, 1, 1] [] (V.codeOf Tryz.f24) (spec_l15Next.kt x0 x1)) (spec_l15Next.s11 x0 x1 y1 y2 v11_1 v11_2 v11_33 v11_35) = spec_l15Next.l11 x0 x1 y1 y2 v11_1 v11_2 v11_33 v11_35 := by
  rw [V.jn_eq, spec_l15Next.r11]
  simp only [spec_l15Next.e13]
  rfl
noncomputable abbrev spec_l15Next.s (x0 : (Tl1Cur)) (x1 : THead) : V.St := ⟨[(0, .v false [.ptr 0 0]), (1, .v true (V.lsHead x1))], [(0, .box [.val (.sl (.cons (.int .u8) .nil) x0.1), .val (.int .i64 x0.2.1), .val (.int .i64 x0.2.2)])]⟩
theorem spec_l15Next.v0 (x0 : (Tl1Cur)) (x1 : THead) : V.evBody spec_l15Next.E spec_l15Next.con Tryz.f24 (V.fl2 x0 x1) = V.evC spec_l15Next.E Tryz.f24.ntmps (V.codeOf Tryz.f24) (spec_l15Next.kt x0 x1) (spec_l15Next.s x0 x1) := by kernel_rfl
theorem spec_l15Next.v (x0 : (Tl1Cur)) (x1 : THead) : V.evC spec_l15Next.E Tryz.f24.ntmps (V.codeOf Tryz.f24) (spec_l15Next.kt x0 x1) (spec_l15Next.s x0 x1) = spec_l15Next.b x0 x1 (fun y1 y2 v11_1 v11_2 v11_33 v11_35 => V.jn (V.joinF spec_l15Next.E Tryz.f24.ntmps [1, 1, 1, 1] [] (V.codeOf Tryz.f24) (spec_l15Next.kt x0 x1)) (spec_l15Next.s11 x0 x1 y1 y2 v11_1 v11_2 v11_33 v11_35)) := by kernel_rfl
theorem spec_l15Next.eq (x0 : (Tl1Cur)) (x1 : THead) : V.evBody spec_l15Next.E spec_l15Next.con Tryz.f24 (V.fl2 x0 x1) = spec_l15Next x0 x1 := by
  rw [spec_l15Next.v0, spec_l15Next.v]
  simp only [spec_l15Next.e11]
  rfl
theorem spec_l15Next.ok : V.Valid Tryz.prog 24 spec_l15Next.con :=
  V.fo (V.tab_cons spec_l1Once.ok (V.tab_cons spec_l1Below.ok (V.tab_cons spec_l13Copy.ok (V.tab_cons spec_SignHead.ok (V.tab_cons spec_HeadDigest.ok (V.tab_cons spec_l6Copy.ok (V.tab_cons spec_l6Keys.ok (V.tab_cons spec_l9List.ok (V.tab_cons spec_RootOf.ok V.tab_nil))))))))) Tryz.func24 (by kernel_rfl) (fun x y h => (show V.evBody spec_l15Next.E spec_l15Next.con Tryz.f24 x = _ from spec_l15Next.eq (V.p2_0 x) (V.p2_1 x)).trans (V.cfl (by kernel_rfl) h))
noncomputable abbrev spec_IsSigBy.con : V.Con := ⟨(.cons (.int .i64) (.cons (.int .i64) (.cons (.sl (.cons (.int .i64) .nil)) .nil))), (.cons .bool .nil), fun (x : Int × Int × List Int) => spec_IsSigBy (x.1, x.2.1) x.2.2, [], [(true, 2), (false, 1)], [(false, 1)], [false], []⟩
noncomputable abbrev spec_IsSigBy.E : V.Env := V.mkE V.tys [(34, spec_l1In.con), (106, spec_TagOf.con)] [] [(1, 10)] [] [] []
theorem spec_IsSigBy.eq (x0 : TSig) (x1 : List Int) : V.evBody spec_IsSigBy.E spec_IsSigBy.con Tryz.f121 ((x0.1, x0.2, x1) : Int × Int × List Int) = spec_IsSigBy x0 x1 := by kernel_rfl
theorem spec_IsSigBy.ok : V.Valid Tryz.prog 121 spec_IsSigBy.con :=
  V.fo (V.tab_cons spec_l1In.ok (V.tab_cons spec_TagOf.ok V.tab_nil)) Tryz.func121 (by kernel_rfl) (fun x y h => (show V.evBody spec_IsSigBy.E spec_IsSigBy.con Tryz.f121 x = _ from spec_IsSigBy.eq (x.1, x.2.1) x.2.2).trans (V.cfl (by kernel_rfl) h))
noncomputable abbrev spec_CountSigs.con : V.Con := ⟨(.cons (.sl (.cons (.int .i64) .nil)) (.cons (.int .i64) (.cons (.sl (.cons (.int .i64) .nil)) (.cons (.sl (.cons (.int .i64) (.cons (.int .i64) .nil))) .nil)))), (.cons (.int .i64) .nil), fun (x : List Int × Int × List Int × List TSig) => spec_CountSigs (x.1, x.2.1) x.2.2.1 x.2.2.2, [], [(true, 2), (false, 1), (false, 1)], [(false, 1)], [false], []⟩
noncomputable abbrev spec_CountSigs.E : V.Env := V.mkE V.tys [(121, spec_IsSigBy.con)] [(6, [1, 2, 3, 7, 8], []), (12, [1, 2, 3, 7, 8, 9], []), (19, [1, 2, 3, 7, 8, 9, 41], [])] [(8, 17)] [] [] []
noncomputable abbrev spec_CountSigs.kt (x0 : TKeys) (x1 : List Int) (x2 : List TSig) : V.Kt Int := V.ktOf spec_CountSigs.E spec_CountSigs.con Tryz.f100 ((x0.1, x0.2, x1, x2) : List Int × Int × List Int × List TSig)
noncomputable abbrev spec_CountSigs.s19 (x0 : TKeys) (x1 : List Int) (x2 : List TSig) (v6_2 : Int) (v6_3 : Int) (v12_4 : Int) (v19_5 : Bool) : V.St := ⟨[(1, .v false [.val (.sl (.cons (.int .i64) .nil) x1)]), (2, .v false [.val (.sl (.cons (.int .i64) (.cons (.int .i64) .nil)) x2)]), (3, .v false [.ptr 64000 0]), (7, .v false [.val (.int .i64 v6_2)]), (8, .v false [.val (.int .i64 v6_3)]), (9, .v false [.val (.int .i64 v12_4)]), (41, .v false [.val (.bool v19_5)])], [(64000, .box [.val (.sl (.cons (.int .i64) .nil) x0.1), .val (.int .i64 x0.2)])]⟩
noncomputable abbrev spec_CountSigs.s12 (x0 : TKeys) (x1 : List Int) (x2 : List TSig) (v6_2 : Int) (v6_3 : Int) (v12_4 : Int) : V.St := ⟨[(1, .v false [.val (.sl (.cons (.int .i64) .nil) x1)]), (2, .v false [.val (.sl (.cons (.int .i64) (.cons (.int .i64) .nil)) x2)]), (3, .v false [.ptr 64000 0]), (7, .v false [.val (.int .i64 v6_2)]), (8, .v false [.val (.int .i64 v6_3)]), (9, .v false [.val (.int .i64 v12_4)])], [(64000, .box [.val (.sl (.cons (.int .i64) .nil) x0.1), .val (.int .i64 x0.2)])]⟩
noncomputable abbrev spec_CountSigs.s6 (x0 : TKeys) (x1 : List Int) (x2 : List TSig) (v6_2 : Int) (v6_3 : Int) : V.St := ⟨[(1, .v false [.val (.sl (.cons (.int .i64) .nil) x1)]), (2, .v false [.val (.sl (.cons (.int .i64) (.cons (.int .i64) .nil)) x2)]), (3, .v false [.ptr 64000 0]), (7, .v false [.val (.int .i64 v6_2)]), (8, .v false [.val (.int .i64 v6_3)])], [(64000, .box [.val (.sl (.cons (.int .i64) .nil) x0.1), .val (.int .i64 x0.2)])]⟩
theorem spec_CountSigs.r19 (x0 : TKeys) (x1 : List Int) (x2 : List TSig) (v12_4 : Int) (v6_2 : Int) (v6_3 : Int) (R6 : V.St → Option Int) (R12 : V.St → Option Int) (v19_5 : Bool) : V.joinF spec_CountSigs.E Tryz.f100.ntmps [1, 1, 0, 1, 0, 0, 1, 0, 0, 1, 0, 0, 1, 0, 0] [R6, R12] (V.codeOf Tryz.f100) (spec_CountSigs.kt x0 x1 x2) (spec_CountSigs.s19 x0 x1 x2 v6_2 v6_3 v12_4 v19_5) = spec_CountSigs.g19 x0 x1 x2 v6_2 v6_3 v12_4 (fun v6_2 v6_3 => R6 (spec_CountSigs.s6 x0 x1 x2 v6_2 v6_3)) (fun v12_4 => R12 (spec_CountSigs.s12 x0 x1 x2 v6_2 v6_3 v12_4)) v19_5 := by kernel_rfl
theorem spec_CountSigs.e19 (x0 : TKeys) (x1 : List Int) (x2 : List TSig) (v12_4 : Int) (v6_2 : Int) (v6_3 : Int) (R6 : V.St → Option Int) (R12 : V.St → Option Int) (v19_5 : Bool) : V.jn (V.joinF spec_CountSigs.E Tryz.f100.ntmps [1, 1, 0, 1, 0, 0, 1, 0, 0, 1, 0, 0, 1, 0, 0] [R6, R12] (V.codeOf Tryz.f100) (spec_CountSigs.kt x0 x1 x2)) (spec_CountSigs.s19 x0 x1 x2 v6_2 v6_3 v12_4 v19_5) = spec_CountSigs.l19 x0 x1 x2 v6_2 v6_3 v12_4 (fun v6_2 v6_3 => R6 (spec_CountSigs.s6 x0 x1 x2 v6_2 v6_3)) (fun v12_4 => R12 (spec_CountSigs.s12 x0 x1 x2 v6_2 v6_3 v12_4)) v19_5 := by
  rw [V.jn_eq, spec_CountSigs.r19]
  rfl
theorem spec_CountSigs.r12 (x0 : TKeys) (x1 : List Int) (x2 : List TSig) (v6_2 : Int) (v6_3 : Int) (R6 : V.St → Option Int) (R : V.St → Option Int) (v12_4 : Int) : V.loopF spec_CountSigs.E Tryz.f100.ntmps [1, 1, 0, 1, 0, 0, 1, 0, 0, 1, 0] [R6] (V.codeOf Tryz.f100) (spec_CountSigs.kt x0 x1 x2) R (spec_CountSigs.s12 x0 x1 x2 v6_2 v6_3 v12_4) = spec_CountSigs.g12 x0 x1 x2 v6_2 v6_3 (fun v6_2 v6_3 => R6 (spec_CountSigs.s6 x0 x1 x2 v6_2 v6_3)) (fun v12_4 => R (spec_CountSigs.s12 x0 x1 x2 v6_2 v6_3 v12_4)) (fun v19_5 => V.jn (V.joinF spec_CountSigs.E Tryz.f100.ntmps [1, 1, 0, 1, 0, 0, 1, 0, 0, 1, 0, 0, 1, 0, 0] [R6, R] (V.codeOf Tryz.f100) (spec_CountSigs.kt x0 x1 x2)) (spec_CountSigs.s19 x0 x1 x2 v6_2 v6_3 v12_4 v19_5)) v12_4 := by kernel_rfl
theorem spec_CountSigs.e12 (x0 : TKeys) (x1 : List Int) (x2 : List TSig) (v6_2 : Int) (v6_3 : Int) (R6 : V.St → Option Int) : ∀ (n : Nat) (v12_4 : Int), V.loopN (V.loopF spec_CountSigs.E Tryz.f100.ntmps [1, 1, 0, 1, 0, 0, 1, 0, 0, 1, 0] [R6] (V.codeOf Tryz.f100) (spec_CountSigs.kt x0 x1 x2)) n (spec_CountSigs.s12 x0 x1 x2 v6_2 v6_3 v12_4) = spec_CountSigs.l12 x0 x1 x2 v6_2 v6_3 (fun v6_2 v6_3 => R6 (spec_CountSigs.s6 x0 x1 x2 v6_2 v6_3)) n v12_4 := by
  intro n
  induction n with
  | zero => intros; rw [V.loopN_z]; rfl
  | succ n ih =>
    intro v12_4
    rw [V.loopN_s, spec_CountSigs.r12]
    simp only [spec_CountSigs.e19, ih]
    first | exact (spec_CountSigs.u12 ..).symm | rfl
theorem spec_CountSigs.r6 (x0 : TKeys) (x1 : List Int) (x2 : List TSig) (R : V.St → Option Int) (v6_2 : Int) (v6_3 : Int) : V.loopF spec_CountSigs.E Tryz.f100.ntmps [1, 1, 0, 1, 0] [] (V.codeOf Tryz.f100) (spec_CountSigs.kt x0 x1 x2) R (spec_CountSigs.s6 x0 x1 x2 v6_2 v6_3) = spec_CountSigs.g6 x0 x1 x2 (fun v6_2 v6_3 => R (spec_CountSigs.s6 x0 x1 x2 v6_2 v6_3)) (fun v12_4 => V.loopN (V.loopF spec_CountSigs.E Tryz.f100.ntmps [1, 1, 0, 1, 0, 0, 1, 0, 0, 1, 0] [R] (V.codeOf Tryz.f100) (spec_CountSigs.kt x0 x1 x2)) V.KK (spec_CountSigs.s12 x0 x1 x2 v6_2 v6_3 v12_4)) v6_2 v6_3 := by kernel_rfl
theorem spec_CountSigs.e6 (x0 : TKeys) (x1 : List Int) (x2 : List TSig) : ∀ (n : Nat) (v6_2 : Int) (v6_3 : Int), V.loopN (V.loopF spec_CountSigs.E Tryz.f100.ntmps [1, 1, 0, 1, 0] [] (V.codeOf Tryz.f100) (spec_CountSigs.kt x0 x1 x2)) n (spec_CountSigs.s6 x0 x1 x2 v6_2 v6_3) = spec_CountSigs.l6 x0 x1 x2 n v6_2 v6_3 := by
  intro n
  induction n with
  | zero => intros; rw [V.loopN_z]; rfl
  | succ n ih =>
    intro v6_2 v6_3
    rw [V.loopN_s, spec_CountSigs.r6]
    simp only [spec_CountSigs.e12, ih]
    first | exact (spec_CountSigs.u6 ..).symm | rfl
theorem spec_CountSigs.v (x0 : TKeys) (x1 : List Int) (x2 : List TSig) : V.evBody spec_CountSigs.E spec_CountSigs.con Tryz.f100 ((x0.1, x0.2, x1, x2) : List Int × Int × List Int × List TSig) = spec_CountSigs.b x0 x1 x2 (fun v6_2 v6_3 => V.loopN (V.loopF spec_CountSigs.E Tryz.f100.ntmps [1, 1, 0, 1, 0] [] (V.codeOf Tryz.f100) (spec_CountSigs.kt x0 x1 x2)) V.KK (spec_CountSigs.s6 x0 x1 x2 v6_2 v6_3)) := by kernel_rfl
theorem spec_CountSigs.eq (x0 : TKeys) (x1 : List Int) (x2 : List TSig) : V.evBody spec_CountSigs.E spec_CountSigs.con Tryz.f100 ((x0.1, x0.2, x1, x2) : List Int × Int × List Int × List TSig) = spec_CountSigs x0 x1 x2 := by
  rw [spec_CountSigs.v]
  simp only [spec_CountSigs.e6]
  rfl
theorem spec_CountSigs.ok : V.Valid Tryz.prog 100 spec_CountSigs.con :=
  V.fo (V.tab_cons spec_IsSigBy.ok V.tab_nil) Tryz.func100 (by kernel_rfl) (fun x y h => (show V.evBody spec_CountSigs.E spec_CountSigs.con Tryz.f100 x = _ from spec_CountSigs.eq (x.1, x.2.1) x.2.2.1 x.2.2.2).trans (V.cfl (by kernel_rfl) h))
noncomputable abbrev spec_IsSigned.con : V.Con := ⟨(.cons (.sl (.cons (.int .i64) .nil)) (.cons (.int .i64) (.cons (.sl (.cons (.int .i64) .nil)) (.cons (.sl (.cons (.int .i64) (.cons (.int .i64) .nil))) .nil)))), (.cons .bool .nil), fun (x : List Int × Int × List Int × List TSig) => spec_IsSigned (x.1, x.2.1) x.2.2.1 x.2.2.2, [], [(true, 2), (false, 1), (false, 1)], [(false, 1)], [false], []⟩
noncomputable abbrev spec_IsSigned.E : V.Env := V.mkE V.tys [(96, spec_IsKeys.con), (100, spec_CountSigs.con)] [] [(1, 9)] [] [] []
theorem spec_IsSigned.eq (x0 : TKeys) (x1 : List Int) (x2 : List TSig) : V.evBody spec_IsSigned.E spec_IsSigned.con Tryz.f66 ((x0.1, x0.2, x1, x2) : List Int × Int × List Int × List TSig) = spec_IsSigned x0 x1 x2 := by kernel_rfl
theorem spec_IsSigned.ok : V.Valid Tryz.prog 66 spec_IsSigned.con :=
  V.fo (V.tab_cons spec_IsKeys.ok (V.tab_cons spec_CountSigs.ok V.tab_nil)) Tryz.func66 (by kernel_rfl) (fun x y h => (show V.evBody spec_IsSigned.E spec_IsSigned.con Tryz.f66 x = _ from spec_IsSigned.eq (x.1, x.2.1) x.2.2.1 x.2.2.2).trans (V.cfl (by kernel_rfl) h))
noncomputable abbrev spec_IsFirst.con : V.Con := ⟨V.A3, (.cons .bool .nil), fun (x : V.D3) => spec_IsFirst (V.p3_0 x), [], [(true, 17)], [(false, 1)], [false], []⟩
noncomputable abbrev spec_IsFirst.E : V.Env := V.mkE V.tys [(49, spec_HeadInts.con), (62, spec_IsHead.con), (66, spec_IsSigned.con), (69, spec_ZoneOf.con)] [] [(2, 34)] [] [] []
noncomputable abbrev spec_IsFirst.kt (x0 : TSigned) : V.Kt Bool := V.ktOf spec_IsFirst.E spec_IsFirst.con Tryz.f37 (V.fl3 x0)
noncomputable abbrev spec_IsFirst.s (x0 : TSigned) : V.St := ⟨[(0, .v true (V.lsSigned x0))], []⟩
theorem spec_IsFirst.v0 (x0 : TSigned) : V.evBody spec_IsFirst.E spec_IsFirst.con Tryz.f37 (V.fl3 x0) = V.evC spec_IsFirst.E Tryz.f37.ntmps (V.codeOf Tryz.f37) (spec_IsFirst.kt x0) (spec_IsFirst.s x0) := by kernel_rfl
theorem spec_IsFirst.v (x0 : TSigned) : V.evC spec_IsFirst.E Tryz.f37.ntmps (V.codeOf Tryz.f37) (spec_IsFirst.kt x0) (spec_IsFirst.s x0) = spec_IsFirst x0 := by kernel_rfl
theorem spec_IsFirst.eq (x0 : TSigned) : V.evBody spec_IsFirst.E spec_IsFirst.con Tryz.f37 (V.fl3 x0) = spec_IsFirst x0 := (spec_IsFirst.v0 x0).trans (spec_IsFirst.v x0)
theorem spec_IsFirst.ok : V.Valid Tryz.prog 37 spec_IsFirst.con :=
  V.fo (V.tab_cons spec_HeadInts.ok (V.tab_cons spec_IsHead.ok (V.tab_cons spec_IsSigned.ok (V.tab_cons spec_ZoneOf.ok V.tab_nil)))) Tryz.func37 (by kernel_rfl) (fun x y h => (show V.evBody spec_IsFirst.E spec_IsFirst.con Tryz.f37 x = _ from spec_IsFirst.eq (V.p3_0 x)).trans (V.cfl (by kernel_rfl) h))
noncomputable abbrev spec_l15Owner.con : V.Con := ⟨V.A4, (.cons (.int .i64) .nil), fun (x : V.D4) => spec_l15Owner (V.p4_0 x) (V.p4_1 x), [], [(true, 16), (true, 16)], [(false, 1)], [false], []⟩
noncomputable abbrev spec_l15Owner.E : V.Env := V.mkE V.tys [] [] [] [] [] []
noncomputable abbrev spec_l15Owner.kt (x0 : THead) (x1 : THead) : V.Kt Int := V.ktOf spec_l15Owner.E spec_l15Owner.con Tryz.f63 (V.fl4 x0 x1)
noncomputable abbrev spec_l15Owner.s (x0 : THead) (x1 : THead) : V.St := ⟨[(0, .v true (V.lsHead x0)), (1, .v true (V.lsHead x1))], []⟩
theorem spec_l15Owner.v0 (x0 : THead) (x1 : THead) : V.evBody spec_l15Owner.E spec_l15Owner.con Tryz.f63 (V.fl4 x0 x1) = V.evC spec_l15Owner.E Tryz.f63.ntmps (V.codeOf Tryz.f63) (spec_l15Owner.kt x0 x1) (spec_l15Owner.s x0 x1) := by kernel_rfl
theorem spec_l15Owner.v (x0 : THead) (x1 : THead) : V.evC spec_l15Owner.E Tryz.f63.ntmps (V.codeOf Tryz.f63) (spec_l15Owner.kt x0 x1) (spec_l15Owner.s x0 x1) = spec_l15Owner x0 x1 := by kernel_rfl
theorem spec_l15Owner.eq (x0 : THead) (x1 : THead) : V.evBody spec_l15Owner.E spec_l15Owner.con Tryz.f63 (V.fl4 x0 x1) = spec_l15Owner x0 x1 := (spec_l15Owner.v0 x0 x1).trans (spec_l15Owner.v x0 x1)
theorem spec_l15Owner.ok : V.Valid Tryz.prog 63 spec_l15Owner.con :=
  V.fo V.tab_nil Tryz.func63 (by kernel_rfl) (fun x y h => (show V.evBody spec_l15Owner.E spec_l15Owner.con Tryz.f63 x = _ from spec_l15Owner.eq (V.p4_0 x) (V.p4_1 x)).trans (V.cfl (by kernel_rfl) h))
noncomputable abbrev spec_EqualInts.con : V.Con := ⟨(.cons (.sl (.cons (.int .i64) .nil)) (.cons (.sl (.cons (.int .i64) .nil)) .nil)), (.cons .bool .nil), fun (x : List Int × List Int) => spec_EqualInts x.1 x.2, [], [(false, 1), (false, 1)], [(false, 1)], [false], []⟩
noncomputable abbrev spec_EqualInts.E : V.Env := V.mkE V.tys [] [(8, [0, 1, 5], [])] [(6, 8)] [] [] []
noncomputable abbrev spec_EqualInts.kt (x0 : List Int) (x1 : List Int) : V.Kt Bool := V.ktOf spec_EqualInts.E spec_EqualInts.con Tryz.f120 ((x0, x1) : List Int × List Int)
noncomputable abbrev spec_EqualInts.s8 (x0 : List Int) (x1 : List Int) (v8_2 : Int) : V.St := ⟨[(0, .v false [.val (.sl (.cons (.int .i64) .nil) x0)]), (1, .v false [.val (.sl (.cons (.int .i64) .nil) x1)]), (5, .v false [.val (.int .i64 v8_2)])], []⟩
theorem spec_EqualInts.r8 (x0 : List Int) (x1 : List Int) (R : V.St → Option Bool) (v8_2 : Int) : V.loopF spec_EqualInts.E Tryz.f120.ntmps [1, 1, 0, 1, 0] [] (V.codeOf Tryz.f120) (spec_EqualInts.kt x0 x1) R (spec_EqualInts.s8 x0 x1 v8_2) = spec_EqualInts.g8 x0 x1 (fun v8_2 => R (spec_EqualInts.s8 x0 x1 v8_2)) v8_2 := by kernel_rfl
theorem spec_EqualInts.e8 (x0 : List Int) (x1 : List Int) : ∀ (n : Nat) (v8_2 : Int), V.loopN (V.loopF spec_EqualInts.E Tryz.f120.ntmps [1, 1, 0, 1, 0] [] (V.codeOf Tryz.f120) (spec_EqualInts.kt x0 x1)) n (spec_EqualInts.s8 x0 x1 v8_2) = spec_EqualInts.l8 x0 x1 n v8_2 := by
  intro n
  induction n with
  | zero => intros; rw [V.loopN_z]; rfl
  | succ n ih =>
    intro v8_2
    rw [V.loopN_s, spec_EqualInts.r8]
    simp only [ih]
    first | exact (spec_EqualInts.u8 ..).symm | rfl
theorem spec_EqualInts.v (x0 : List Int) (x1 : List Int) : V.evBody spec_EqualInts.E spec_EqualInts.con Tryz.f120 ((x0, x1) : List Int × List Int) = spec_EqualInts.b x0 x1 (fun v8_2 => V.loopN (V.loopF spec_EqualInts.E Tryz.f120.ntmps [1, 1, 0, 1, 0] [] (V.codeOf Tryz.f120) (spec_EqualInts.kt x0 x1)) V.KK (spec_EqualInts.s8 x0 x1 v8_2)) := by kernel_rfl
theorem spec_EqualInts.eq (x0 : List Int) (x1 : List Int) : V.evBody spec_EqualInts.E spec_EqualInts.con Tryz.f120 ((x0, x1) : List Int × List Int) = spec_EqualInts x0 x1 := by
  rw [spec_EqualInts.v]
  simp only [spec_EqualInts.e8]
  rfl
theorem spec_EqualInts.ok : V.Valid Tryz.prog 120 spec_EqualInts.con :=
  V.fo V.tab_nil Tryz.func120 (by kernel_rfl) (fun x y h => (show V.evBody spec_EqualInts.E spec_EqualInts.con Tryz.f120 x = _ from spec_EqualInts.eq x.1 x.2).trans (V.cfl (by kernel_rfl) h))
noncomputable abbrev spec_EqualKeys.con : V.Con := ⟨(.cons (.sl (.cons (.int .i64) .nil)) (.cons (.int .i64) (.cons (.sl (.cons (.int .i64) .nil)) (.cons (.int .i64) .nil)))), (.cons .bool .nil), fun (x : List Int × Int × List Int × Int) => spec_EqualKeys (x.1, x.2.1) x.2.2, [], [(true, 2), (true, 2)], [(false, 1)], [false], []⟩
noncomputable abbrev spec_EqualKeys.E : V.Env := V.mkE V.tys [(120, spec_EqualInts.con)] [] [] [] [] []
theorem spec_EqualKeys.eq (x0 : TKeys) (x1 : TKeys) : V.evBody spec_EqualKeys.E spec_EqualKeys.con Tryz.f98 ((x0.1, x0.2, x1.1, x1.2) : List Int × Int × List Int × Int) = spec_EqualKeys x0 x1 := by kernel_rfl
theorem spec_EqualKeys.ok : V.Valid Tryz.prog 98 spec_EqualKeys.con :=
  V.fo (V.tab_cons spec_EqualInts.ok V.tab_nil) Tryz.func98 (by kernel_rfl) (fun x y h => (show V.evBody spec_EqualKeys.E spec_EqualKeys.con Tryz.f98 x = _ from spec_EqualKeys.eq (x.1, x.2.1) x.2.2).trans (V.cfl (by kernel_rfl) h))
noncomputable abbrev spec_SameContents.con : V.Con := ⟨V.A4, (.cons .bool .nil), fun (x : V.D4) => spec_SameContents (V.p4_0 x) (V.p4_1 x), [], [(true, 16), (true, 16)], [(false, 1)], [false], []⟩
noncomputable abbrev spec_SameContents.E : V.Env := V.mkE V.tys [] [] [] [] [] []
noncomputable abbrev spec_SameContents.kt (x0 : THead) (x1 : THead) : V.Kt Bool := V.ktOf spec_SameContents.E spec_SameContents.con Tryz.f99 (V.fl4 x0 x1)
noncomputable abbrev spec_SameContents.s (x0 : THead) (x1 : THead) : V.St := ⟨[(0, .v true (V.lsHead x0)), (1, .v true (V.lsHead x1))], []⟩
theorem spec_SameContents.v0 (x0 : THead) (x1 : THead) : V.evBody spec_SameContents.E spec_SameContents.con Tryz.f99 (V.fl4 x0 x1) = V.evC spec_SameContents.E Tryz.f99.ntmps (V.codeOf Tryz.f99) (spec_SameContents.kt x0 x1) (spec_SameContents.s x0 x1) := by kernel_rfl
theorem spec_SameContents.v (x0 : THead) (x1 : THead) : V.evC spec_SameContents.E Tryz.f99.ntmps (V.codeOf Tryz.f99) (spec_SameContents.kt x0 x1) (spec_SameContents.s x0 x1) = spec_SameContents x0 x1 := by kernel_rfl
theorem spec_SameContents.eq (x0 : THead) (x1 : THead) : V.evBody spec_SameContents.E spec_SameContents.con Tryz.f99 (V.fl4 x0 x1) = spec_SameContents x0 x1 := (spec_SameContents.v0 x0 x1).trans (spec_SameContents.v x0 x1)
theorem spec_SameContents.ok : V.Valid Tryz.prog 99 spec_SameContents.con :=
  V.fo V.tab_nil Tryz.func99 (by kernel_rfl) (fun x y h => (show V.evBody spec_SameContents.E spec_SameContents.con Tryz.f99 x = _ from spec_SameContents.eq (V.p4_0 x) (V.p4_1 x)).trans (V.cfl (by kernel_rfl) h))
noncomputable abbrev spec_l15Heir.con : V.Con := ⟨V.A4, (.cons (.int .i64) .nil), fun (x : V.D4) => spec_l15Heir (V.p4_0 x) (V.p4_1 x), [], [(true, 16), (true, 16)], [(false, 1)], [false], []⟩
noncomputable abbrev spec_l15Heir.E : V.Env := V.mkE V.tys [(97, spec_NoKeys.con), (98, spec_EqualKeys.con), (99, spec_SameContents.con)] [(9, [2, 3, 8], [])] [] [] [] []
noncomputable abbrev spec_l15Heir.kt (x0 : THead) (x1 : THead) : V.Kt Int := V.ktOf spec_l15Heir.E spec_l15Heir.con Tryz.f64 (V.fl4 x0 x1)
noncomputable abbrev spec_l15Heir.s9 (x0 : THead) (x1 : THead) (v9_0 : Bool) : V.St := ⟨[(2, .v false [.ptr 64000 0]), (3, .v false [.ptr 64064 0]), (8, .v false [.val (.bool v9_0)])], [(64000, .box (V.lsHead x0)), (64064, .box (V.lsHead x1))]⟩
theorem spec_l15Heir.r9 (x0 : THead) (x1 : THead) (v9_0 : Bool) : V.joinF spec_l15Heir.E Tryz.f64.ntmps [1, 0, 0, 1, 1] [] (V.codeOf Tryz.f64) (spec_l15Heir.kt x0 x1) (spec_l15Heir.s9 x0 x1 v9_0) = spec_l15Heir.g9 x0 x1 v9_0 := by kernel_rfl
theorem spec_l15Heir.e9 (x0 : THead) (x1 : THead) (v9_0 : Bool) : V.jn (V.joinF spec_l15Heir.E Tryz.f64.ntmps [1, 0, 0, 1, 1] [] (V.codeOf Tryz.f64) (spec_l15Heir.kt x0 x1)) (spec_l15Heir.s9 x0 x1 v9_0) = spec_l15Heir.l9 x0 x1 v9_0 := by
  rw [V.jn_eq, spec_l15Heir.r9]
  rfl
noncomputable abbrev spec_l15Heir.s (x0 : THead) (x1 : THead) : V.St := ⟨[(0, .v true (V.lsHead x0)), (1, .v true (V.lsHead x1))], []⟩
theorem spec_l15Heir.v0 (x0 : THead) (x1 : THead) : V.evBody spec_l15Heir.E spec_l15Heir.con Tryz.f64 (V.fl4 x0 x1) = V.evC spec_l15Heir.E Tryz.f64.ntmps (V.codeOf Tryz.f64) (spec_l15Heir.kt x0 x1) (spec_l15Heir.s x0 x1) := by kernel_rfl
theorem spec_l15Heir.v (x0 : THead) (x1 : THead) : V.evC spec_l15Heir.E Tryz.f64.ntmps (V.codeOf Tryz.f64) (spec_l15Heir.kt x0 x1) (spec_l15Heir.s x0 x1) = spec_l15Heir.b x0 x1 (fun v9_0 => V.jn (V.joinF spec_l15Heir.E Tryz.f64.ntmps [1, 0, 0, 1, 1] [] (V.codeOf Tryz.f64) (spec_l15Heir.kt x0 x1)) (spec_l15Heir.s9 x0 x1 v9_0)) := by kernel_rfl
theorem spec_l15Heir.eq (x0 : THead) (x1 : THead) : V.evBody spec_l15Heir.E spec_l15Heir.con Tryz.f64 (V.fl4 x0 x1) = spec_l15Heir x0 x1 := by
  rw [spec_l15Heir.v0, spec_l15Heir.v]
  simp only [spec_l15Heir.e9]
  rfl
theorem spec_l15Heir.ok : V.Valid Tryz.prog 64 spec_l15Heir.con :=
  V.fo (V.tab_cons spec_NoKeys.ok (V.tab_cons spec_EqualKeys.ok (V.tab_cons spec_SameContents.ok V.tab_nil))) Tryz.func64 (by kernel_rfl) (fun x y h => (show V.evBody spec_l15Heir.E spec_l15Heir.con Tryz.f64 x = _ from spec_l15Heir.eq (V.p4_0 x) (V.p4_1 x)).trans (V.cfl (by kernel_rfl) h))
noncomputable abbrev spec_l15Judge.con : V.Con := ⟨V.A4, (.cons (.int .i64) .nil), fun (x : V.D4) => spec_l15Judge (V.p4_0 x) (V.p4_1 x), [], [(true, 16), (true, 16)], [(false, 1)], [false], []⟩
noncomputable abbrev spec_l15Judge.E : V.Env := V.mkE V.tys [(97, spec_NoKeys.con), (98, spec_EqualKeys.con), (99, spec_SameContents.con)] [(9, [2, 3, 9], [])] [] [] [] []
noncomputable abbrev spec_l15Judge.kt (x0 : THead) (x1 : THead) : V.Kt Int := V.ktOf spec_l15Judge.E spec_l15Judge.con Tryz.f65 (V.fl4 x0 x1)
noncomputable abbrev spec_l15Judge.s9 (x0 : THead) (x1 : THead) (v9_0 : Bool) : V.St := ⟨[(2, .v false [.ptr 64000 0]), (3, .v false [.ptr 64064 0]), (9, .v false [.val (.bool v9_0)])], [(64000, .box (V.lsHead x0)), (64064, .box (V.lsHead x1))]⟩
theorem spec_l15Judge.r9 (x0 : THead) (x1 : THead) (v9_0 : Bool) : V.joinF spec_l15Judge.E Tryz.f65.ntmps [1, 0, 0, 1, 1] [] (V.codeOf Tryz.f65) (spec_l15Judge.kt x0 x1) (spec_l15Judge.s9 x0 x1 v9_0) = spec_l15Judge.g9 x0 x1 v9_0 := by kernel_rfl
theorem spec_l15Judge.e9 (x0 : THead) (x1 : THead) (v9_0 : Bool) : V.jn (V.joinF spec_l15Judge.E Tryz.f65.ntmps [1, 0, 0, 1, 1] [] (V.codeOf Tryz.f65) (spec_l15Judge.kt x0 x1)) (spec_l15Judge.s9 x0 x1 v9_0) = spec_l15Judge.l9 x0 x1 v9_0 := by
  rw [V.jn_eq, spec_l15Judge.r9]
  rfl
noncomputable abbrev spec_l15Judge.s (x0 : THead) (x1 : THead) : V.St := ⟨[(0, .v true (V.lsHead x0)), (1, .v true (V.lsHead x1))], []⟩
theorem spec_l15Judge.v0 (x0 : THead) (x1 : THead) : V.evBody spec_l15Judge.E spec_l15Judge.con Tryz.f65 (V.fl4 x0 x1) = V.evC spec_l15Judge.E Tryz.f65.ntmps (V.codeOf Tryz.f65) (spec_l15Judge.kt x0 x1) (spec_l15Judge.s x0 x1) := by kernel_rfl
theorem spec_l15Judge.v (x0 : THead) (x1 : THead) : V.evC spec_l15Judge.E Tryz.f65.ntmps (V.codeOf Tryz.f65) (spec_l15Judge.kt x0 x1) (spec_l15Judge.s x0 x1) = spec_l15Judge.b x0 x1 (fun v9_0 => V.jn (V.joinF spec_l15Judge.E Tryz.f65.ntmps [1, 0, 0, 1, 1] [] (V.codeOf Tryz.f65) (spec_l15Judge.kt x0 x1)) (spec_l15Judge.s9 x0 x1 v9_0)) := by kernel_rfl
theorem spec_l15Judge.eq (x0 : THead) (x1 : THead) : V.evBody spec_l15Judge.E spec_l15Judge.con Tryz.f65 (V.fl4 x0 x1) = spec_l15Judge x0 x1 := by
  rw [spec_l15Judge.v0, spec_l15Judge.v]
  simp only [spec_l15Judge.e9]
  rfl
theorem spec_l15Judge.ok : V.Valid Tryz.prog 65 spec_l15Judge.con :=
  V.fo (V.tab_cons spec_NoKeys.ok (V.tab_cons spec_EqualKeys.ok (V.tab_cons spec_SameContents.ok V.tab_nil))) Tryz.func65 (by kernel_rfl) (fun x y h => (show V.evBody spec_l15Judge.E spec_l15Judge.con Tryz.f65 x = _ from spec_l15Judge.eq (V.p4_0 x) (V.p4_1 x)).trans (V.cfl (by kernel_rfl) h))
noncomputable abbrev spec_NextCode.con : V.Con := ⟨V.A5, (.cons (.int .i64) .nil), fun (x : V.D5) => spec_NextCode (V.p5_0 x) (V.p5_1 x), [], [(true, 16), (true, 17)], [(false, 1)], [false], []⟩
noncomputable abbrev spec_NextCode.E : V.Env := V.mkE V.tys [(49, spec_HeadInts.con), (51, spec_HeadDigest.con), (62, spec_IsHead.con), (63, spec_l15Owner.con), (64, spec_l15Heir.con), (65, spec_l15Judge.con), (66, spec_IsSigned.con)] [(9, [2, 3, 5], []), (13, [2, 3, 5], []), (31, [3, 5, 6, 7], [])] [(4, 25), (15, 8)] [] [] []
noncomputable abbrev spec_NextCode.kt (x0 : THead) (x1 : TSigned) : V.Kt Int := V.ktOf spec_NextCode.E spec_NextCode.con Tryz.f31 (V.fl5 x0 x1)
noncomputable abbrev spec_NextCode.s31 (x1 : TSigned) (v31_0 : Int) (v31_34 : List Int) (v31_35 : Int) : V.St := ⟨[(3, .v false [.ptr 64064 0]), (5, .v false [.ptr 128128 0]), (6, .v false [.val (.int .i64 v31_0)]), (7, .v false [.ptr 512128 0])], [(64064, .box (V.lsSigned x1)), (128128, .box [.val (.int .i64 x1.1), .val (.int .i64 x1.2.1), .val (.int .i64 x1.2.2.1), .val (.int .i64 x1.2.2.2.1), .val (.int .i64 x1.2.2.2.2.1), .val (.int .i64 x1.2.2.2.2.2.1), .val (.int .i64 x1.2.2.2.2.2.2.1), .val (.int .i64 x1.2.2.2.2.2.2.2.1), .val (.sl (.cons (.int .i64) .nil) x1.2.2.2.2.2.2.2.2.1), .val (.int .i64 x1.2.2.2.2.2.2.2.2.2.1), .val (.sl (.cons (.int .i64) .nil) x1.2.2.2.2.2.2.2.2.2.2.1), .val (.int .i64 x1.2.2.2.2.2.2.2.2.2.2.2.1), .val (.int .i64 x1.2.2.2.2.2.2.2.2.2.2.2.2.1), .val (.sl (.cons (.int .i64) .nil) x1.2.2.2.2.2.2.2.2.2.2.2.2.2.1), .val (.int .i64 x1.2.2.2.2.2.2.2.2.2.2.2.2.2.2.1), .val (.bool x1.2.2.2.2.2.2.2.2.2.2.2.2.2.2.2.1)]), (512128, .box [.val (.sl (.cons (.int .i64) .nil) v31_34), .val (.int .i64 v31_35)])]⟩
noncomputable abbrev spec_NextCode.s13 (x0 : THead) (x1 : TSigned) : V.St := ⟨[(2, .v false [.ptr 64000 0]), (3, .v false [.ptr 64064 0]), (5, .v false [.ptr 128128 0])], [(64000, .box (V.lsHead x0)), (64064, .box (V.lsSigned x1)), (128128, .box [.val (.int .i64 x1.1), .val (.int .i64 x1.2.1), .val (.int .i64 x1.2.2.1), .val (.int .i64 x1.2.2.2.1), .val (.int .i64 x1.2.2.2.2.1), .val (.int .i64 x1.2.2.2.2.2.1), .val (.int .i64 x1.2.2.2.2.2.2.1), .val (.int .i64 x1.2.2.2.2.2.2.2.1), .val (.sl (.cons (.int .i64) .nil) x1.2.2.2.2.2.2.2.2.1), .val (.int .i64 x1.2.2.2.2.2.2.2.2.2.1), .val (.sl (.cons (.int .i64) .nil) x1.2.2.2.2.2.2.2.2.2.2.1), .val (.int .i64 x1.2.2.2.2.2.2.2.2.2.2.2.1), .val (.int .i64 x1.2.2.2.2.2.2.2.2.2.2.2.2.1), .val (.sl (.cons (.int .i64) .nil) x1.2.2.2.2.2.2.2.2.2.2.2.2.2.1), .val (.int .i64 x1.2.2.2.2.2.2.2.2.2.2.2.2.2.2.1), .val (.bool x1.2.2.2.2.2.2.2.2.2.2.2.2.2.2.2.1)])]⟩
noncomputable abbrev spec_NextCode.s9 (x0 : THead) (x1 : TSigned) : V.St := ⟨[(2, .v false [.ptr 64000 0]), (3, .v false [.ptr 64064 0]), (5, .v false [.ptr 128128 0])], [(64000, .box (V.lsHead x0)), (64064, .box (V.lsSigned x1)), (128128, .box [.val (.int .i64 x1.1), .val (.int .i64 x1.2.1), .val (.int .i64 x1.2.2.1), .val (.int .i64 x1.2.2.2.1), .val (.int .i64 x1.2.2.2.2.1), .val (.int .i64 x1.2.2.2.2.2.1), .val (.int .i64 x1.2.2.2.2.2.2.1), .val (.int .i64 x1.2.2.2.2.2.2.2.1), .val (.sl (.cons (.int .i64) .nil) x1.2.2.2.2.2.2.2.2.1), .val (.int .i64 x1.2.2.2.2.2.2.2.2.2.1), .val (.sl (.cons (.int .i64) .nil) x1.2.2.2.2.2.2.2.2.2.2.1), .val (.int .i64 x1.2.2.2.2.2.2.2.2.2.2.2.1), .val (.int .i64 x1.2.2.2.2.2.2.2.2.2.2.2.2.1), .val (.sl (.cons (.int .i64) .nil) x1.2.2.2.2.2.2.2.2.2.2.2.2.2.1), .val (.int .i64 x1.2.2.2.2.2.2.2.2.2.2.2.2.2.2.1), .val (.bool x1.2.2.2.2.2.2.2.2.2.2.2.2.2.2.2.1)])]⟩
theorem spec_NextCode.r31 (x0 : THead) (x1 : TSigned) (v31_0 : Int) (v31_34 : List Int) (v31_35 : Int) : V.joinF spec_NextCode.E Tryz.f31.ntmps [1, 1, 1, 1, 1, 1] [] (V.codeOf Tryz.f31) (spec_NextCode.kt x0 x1) (spec_NextCode.s31 x1 v31_0 v31_34 v31_35) = spec_NextCode.g31 x1 v31_0 v31_34 v31_35 := by kernel_rfl
theorem spec_NextCode.e31 (x0 : THead) (x1 : TSigned) (v31_0 : Int) (v31_34 : List Int) (v31_35 : Int) : V.jn (V.joinF spec_NextCode.E Tryz.f31.ntmps [1, 1, 1, 1, 1, 1] [] (V.codeOf Tryz.f31) (spec_NextCode.kt x0 x1)) (spec_NextCode.s31 x1 v31_0 v31_34 v31_35) = spec_NextCode.l31 x1 v31_0 v31_34 v31_35 := by
  rw [V.jn_eq, spec_NextCode.r31]
  rfl
theorem spec_NextCode.r13 (x0 : THead) (x1 : TSigned) : V.joinF spec_NextCode.E Tryz.f31.ntmps [1, 1, 1] [] (V.codeOf Tryz.f31) (spec_NextCode.kt x0 x1) (spec_NextCode.s13 x0 x1) = spec_NextCode.g13 x0 x1 (fun v31_0 v31_34 v31_35 => V.jn (V.joinF spec_NextCode.E Tryz.f31.ntmps [1, 1, 1, 1, 1, 1] [] (V.codeOf Tryz.f31) (spec_NextCode.kt x0 x1)) (spec_NextCode.s31 x1 v31_0 v31_34 v31_35)) := by kernel_rfl
theorem spec_NextCode.e13 (x0 : THead) (x1 : TSigned) : V.jn (V.joinF spec_NextCode.E Tryz.f31.ntmps [1, 1, 1] [] (V.codeOf Tryz.f31) (spec_NextCode.kt x0 x1)) (spec_NextCode.s13 x0 x1) = spec_NextCode.l13 x0 x1 := by
  rw [V.jn_eq, spec_NextCode.r13]
  simp only [spec_NextCode.e31]
  rfl
theorem spec_NextCode.r9 (x0 : THead) (x1 : TSigned) : V.joinF spec_NextCode.E Tryz.f31.ntmps [1, 1] [] (V.codeOf Tryz.f31) (spec_NextCode.kt x0 x1) (spec_NextCode.s9 x0 x1) = spec_NextCode.g9 x0 x1 (V.jn (V.joinF spec_NextCode.E Tryz.f31.ntmps [1, 1, 1] [] (V.codeOf Tryz.f31) (spec_NextCode.kt x0 x1)) (spec_NextCode.s13 x0 x1)) := by kernel_rfl
theorem spec_NextCode.e9 (x0 : THead) (x1 : TSigned) : V.jn (V.joinF spec_NextCode.E Tryz.f31.ntmps [1, 1] [] (V.codeOf Tryz.f31) (spec_NextCode.kt x0 x1)) (spec_NextCode.s9 x0 x1) = spec_NextCode.l9 x0 x1 := by
  rw [V.jn_eq, spec_NextCode.r9]
  simp only [spec_NextCode.e13]
  rfl
noncomputable abbrev spec_NextCode.s (x0 : THead) (x1 : TSigned) : V.St := ⟨[(0, .v true (V.lsHead x0)), (1, .v true (V.lsSigned x1))], []⟩
theorem spec_NextCode.v0 (x0 : THead) (x1 : TSigned) : V.evBody spec_NextCode.E spec_NextCode.con Tryz.f31 (V.fl5 x0 x1) = V.evC spec_NextCode.E Tryz.f31.ntmps (V.codeOf Tryz.f31) (spec_NextCode.kt x0 x1) (spec_NextCode.s x0 x1) := by kernel_rfl
theorem spec_NextCode.v (x0 : THead) (x1 : TSigned) : V.evC spec_NextCode.E Tryz.f31.ntmps (V.codeOf Tryz.f31) (spec_NextCode.kt x0 x1) (spec_NextCode.s x0 x1) = spec_NextCode.b x0 x1 (V.jn (V.joinF spec_NextCode.E Tryz.f31.ntmps [1, 1] [] (V.codeOf Tryz.f31) (spec_NextCode.kt x0 x1)) (spec_NextCode.s9 x0 x1)) := by kernel_rfl
theorem spec_NextCode.eq (x0 : THead) (x1 : TSigned) : V.evBody spec_NextCode.E spec_NextCode.con Tryz.f31 (V.fl5 x0 x1) = spec_NextCode x0 x1 := by
  rw [spec_NextCode.v0, spec_NextCode.v]
  simp only [spec_NextCode.e9]
  rfl
theorem spec_NextCode.ok : V.Valid Tryz.prog 31 spec_NextCode.con :=
  V.fo (V.tab_cons spec_HeadInts.ok (V.tab_cons spec_HeadDigest.ok (V.tab_cons spec_IsHead.ok (V.tab_cons spec_l15Owner.ok (V.tab_cons spec_l15Heir.ok (V.tab_cons spec_l15Judge.ok (V.tab_cons spec_IsSigned.ok V.tab_nil))))))) Tryz.func31 (by kernel_rfl) (fun x y h => (show V.evBody spec_NextCode.E spec_NextCode.con Tryz.f31 x = _ from spec_NextCode.eq (V.p5_0 x) (V.p5_1 x)).trans (V.cfl (by kernel_rfl) h))
noncomputable abbrev spec_MayFollow.con : V.Con := ⟨V.A5, (.cons .bool .nil), fun (x : V.D5) => spec_MayFollow (V.p5_0 x) (V.p5_1 x), [], [(true, 16), (true, 17)], [(false, 1)], [false], []⟩
noncomputable abbrev spec_MayFollow.E : V.Env := V.mkE V.tys [(31, spec_NextCode.con)] [] [] [] [] []
noncomputable abbrev spec_MayFollow.kt (x0 : THead) (x1 : TSigned) : V.Kt Bool := V.ktOf spec_MayFollow.E spec_MayFollow.con Tryz.f38 (V.fl5 x0 x1)
noncomputable abbrev spec_MayFollow.s (x0 : THead) (x1 : TSigned) : V.St := ⟨[(0, .v true (V.lsHead x0)), (1, .v true (V.lsSigned x1))], []⟩
theorem spec_MayFollow.v0 (x0 : THead) (x1 : TSigned) : V.evBody spec_MayFollow.E spec_MayFollow.con Tryz.f38 (V.fl5 x0 x1) = V.evC spec_MayFollow.E Tryz.f38.ntmps (V.codeOf Tryz.f38) (spec_MayFollow.kt x0 x1) (spec_MayFollow.s x0 x1) := by kernel_rfl
theorem spec_MayFollow.v (x0 : THead) (x1 : TSigned) : V.evC spec_MayFollow.E Tryz.f38.ntmps (V.codeOf Tryz.f38) (spec_MayFollow.kt x0 x1) (spec_MayFollow.s x0 x1) = spec_MayFollow x0 x1 := by kernel_rfl
theorem spec_MayFollow.eq (x0 : THead) (x1 : TSigned) : V.evBody spec_MayFollow.E spec_MayFollow.con Tryz.f38 (V.fl5 x0 x1) = spec_MayFollow x0 x1 := (spec_MayFollow.v0 x0 x1).trans (spec_MayFollow.v x0 x1)
theorem spec_MayFollow.ok : V.Valid Tryz.prog 38 spec_MayFollow.con :=
  V.fo (V.tab_cons spec_NextCode.ok V.tab_nil) Tryz.func38 (by kernel_rfl) (fun x y h => (show V.evBody spec_MayFollow.E spec_MayFollow.con Tryz.f38 x = _ from spec_MayFollow.eq (V.p5_0 x) (V.p5_1 x)).trans (V.cfl (by kernel_rfl) h))
noncomputable abbrev spec_FirstWrong.con : V.Con := ⟨(.cons (.sl V.eSigned) .nil), (.cons (.int .i64) .nil), fun (x : List TSigned) => spec_FirstWrong x, [], [(false, 1)], [(false, 1)], [false], []⟩
noncomputable abbrev spec_FirstWrong.E : V.Env := V.mkE V.tys [(37, spec_IsFirst.con), (38, spec_MayFollow.con)] [(4, [0, 3], [])] [(4, 23)] [] [] []
noncomputable abbrev spec_FirstWrong.kt (x0 : List TSigned) : V.Kt Int := V.ktOf spec_FirstWrong.E spec_FirstWrong.con Tryz.f11 ((x0) : List TSigned)
noncomputable abbrev spec_FirstWrong.s4 (x0 : List TSigned) (v4_1 : Int) : V.St := ⟨[(0, .v false [.val (.sl V.eSigned x0)]), (3, .v false [.val (.int .i64 v4_1)])], []⟩
theorem spec_FirstWrong.r4 (x0 : List TSigned) (R : V.St → Option Int) (v4_1 : Int) : V.loopF spec_FirstWrong.E Tryz.f11.ntmps [1, 0, 1, 0] [] (V.codeOf Tryz.f11) (spec_FirstWrong.kt x0) R (spec_FirstWrong.s4 x0 v4_1) = spec_FirstWrong.g4 x0 (fun v4_1 => R (spec_FirstWrong.s4 x0 v4_1)) v4_1 := by kernel_rfl
theorem spec_FirstWrong.e4 (x0 : List TSigned) : ∀ (n : Nat) (v4_1 : Int), V.loopN (V.loopF spec_FirstWrong.E Tryz.f11.ntmps [1, 0, 1, 0] [] (V.codeOf Tryz.f11) (spec_FirstWrong.kt x0)) n (spec_FirstWrong.s4 x0 v4_1) = spec_FirstWrong.l4 x0 n v4_1 := by
  intro n
  induction n with
  | zero => intros; rw [V.loopN_z]; rfl
  | succ n ih =>
    intro v4_1
    rw [V.loopN_s, spec_FirstWrong.r4]
    simp only [ih]
    first | exact (spec_FirstWrong.u4 ..).symm | rfl
theorem spec_FirstWrong.v (x0 : List TSigned) : V.evBody spec_FirstWrong.E spec_FirstWrong.con Tryz.f11 ((x0) : List TSigned) = spec_FirstWrong.b x0 (fun v4_1 => V.loopN (V.loopF spec_FirstWrong.E Tryz.f11.ntmps [1, 0, 1, 0] [] (V.codeOf Tryz.f11) (spec_FirstWrong.kt x0)) V.KK (spec_FirstWrong.s4 x0 v4_1)) := by kernel_rfl
theorem spec_FirstWrong.eq (x0 : List TSigned) : V.evBody spec_FirstWrong.E spec_FirstWrong.con Tryz.f11 ((x0) : List TSigned) = spec_FirstWrong x0 := by
  rw [spec_FirstWrong.v]
  simp only [spec_FirstWrong.e4]
  rfl
theorem spec_FirstWrong.ok : V.Valid Tryz.prog 11 spec_FirstWrong.con :=
  V.fo (V.tab_cons spec_IsFirst.ok (V.tab_cons spec_MayFollow.ok V.tab_nil)) Tryz.func11 (by kernel_rfl) (fun x y h => (show V.evBody spec_FirstWrong.E spec_FirstWrong.con Tryz.f11 x = _ from spec_FirstWrong.eq x).trans (V.cfl (by kernel_rfl) h))
noncomputable abbrev spec_IsChain.con : V.Con := ⟨(.cons (.sl V.eSigned) .nil), (.cons .bool .nil), fun (x : List TSigned) => spec_IsChain x, [], [(false, 1)], [(false, 1)], [false], []⟩
noncomputable abbrev spec_IsChain.E : V.Env := V.mkE V.tys [(11, spec_FirstWrong.con), (34, spec_l1In.con)] [] [] [] [] []
theorem spec_IsChain.eq (x0 : List TSigned) : V.evBody spec_IsChain.E spec_IsChain.con Tryz.f9 ((x0) : List TSigned) = spec_IsChain x0 := by kernel_rfl
theorem spec_IsChain.ok : V.Valid Tryz.prog 9 spec_IsChain.con :=
  V.fo (V.tab_cons spec_FirstWrong.ok (V.tab_cons spec_l1In.ok V.tab_nil)) Tryz.func9 (by kernel_rfl) (fun x y h => (show V.evBody spec_IsChain.E spec_IsChain.con Tryz.f9 x = _ from spec_IsChain.eq x).trans (V.cfl (by kernel_rfl) h))
noncomputable abbrev spec_LastHead.con : V.Con := ⟨(.cons (.sl V.eSigned) .nil), V.eRHeadBool, fun (x : List TSigned) => spec_LastHead x, [], [(false, 1)], [(true, 16), (false, 1)], [false, false, false, false, false, false, false, false, true, false, true, false, false, true, false, false, false], []⟩
noncomputable abbrev spec_LastHead.E : V.Env := V.mkE V.tys [(9, spec_IsChain.con), (42, spec_l13Copy.con)] [] [] [] [] []
theorem spec_LastHead.eq (x0 : List TSigned) : V.evBody spec_LastHead.E spec_LastHead.con Tryz.f29 ((x0) : List TSigned) = spec_LastHead x0 := by kernel_rfl
theorem spec_LastHead.ok : V.Valid Tryz.prog 29 spec_LastHead.con :=
  V.fo (V.tab_cons spec_IsChain.ok (V.tab_cons spec_l13Copy.ok V.tab_nil)) Tryz.func29 (by kernel_rfl) (fun x y h => (show V.evBody spec_LastHead.E spec_LastHead.con Tryz.f29 x = _ from spec_LastHead.eq x).trans (V.cfl (by kernel_rfl) h))
noncomputable abbrev spec_l14Copy.con : V.Con := ⟨V.A3, V.eSigned, fun (x : V.D3) => spec_l14Copy (V.p3_0 x), [], [(true, 17)], [(true, 17)], [false, false, false, false, false, false, false, false, true, false, true, false, false, true, false, false, true], []⟩
noncomputable abbrev spec_l14Copy.E : V.Env := V.mkE V.tys [(42, spec_l13Copy.con)] [] [(1, 6)] [] [] []
noncomputable abbrev spec_l14Copy.kt (x0 : TSigned) : V.Kt TSigned := V.ktOf spec_l14Copy.E spec_l14Copy.con Tryz.f32 (V.fl3 x0)
noncomputable abbrev spec_l14Copy.s (x0 : TSigned) : V.St := ⟨[(0, .v true (V.lsSigned x0))], []⟩
theorem spec_l14Copy.v0 (x0 : TSigned) : V.evBody spec_l14Copy.E spec_l14Copy.con Tryz.f32 (V.fl3 x0) = V.evC spec_l14Copy.E Tryz.f32.ntmps (V.codeOf Tryz.f32) (spec_l14Copy.kt x0) (spec_l14Copy.s x0) := by kernel_rfl
theorem spec_l14Copy.v (x0 : TSigned) : V.evC spec_l14Copy.E Tryz.f32.ntmps (V.codeOf Tryz.f32) (spec_l14Copy.kt x0) (spec_l14Copy.s x0) = spec_l14Copy x0 := by kernel_rfl
theorem spec_l14Copy.eq (x0 : TSigned) : V.evBody spec_l14Copy.E spec_l14Copy.con Tryz.f32 (V.fl3 x0) = spec_l14Copy x0 := (spec_l14Copy.v0 x0).trans (spec_l14Copy.v x0)
theorem spec_l14Copy.ok : V.Valid Tryz.prog 32 spec_l14Copy.con :=
  V.fo (V.tab_cons spec_l13Copy.ok V.tab_nil) Tryz.func32 (by kernel_rfl) (fun x y h => (show V.evBody spec_l14Copy.E spec_l14Copy.con Tryz.f32 x = _ from spec_l14Copy.eq (V.p3_0 x)).trans (V.cfl (by kernel_rfl) h))
noncomputable abbrev spec_l16Copy.con : V.Con := ⟨(.cons (.sl V.eSigned) .nil), (.cons (.sl V.eSigned) .nil), fun (x : List TSigned) => spec_l16Copy x, [], [(false, 1)], [(false, 1)], [true], []⟩
noncomputable abbrev spec_l16Copy.E : V.Env := V.mkE V.tys [(32, spec_l14Copy.con)] [(6, [0, 3, 4], [(64000038400192, V.eSigned, true)])] [] [] [] []
noncomputable abbrev spec_l16Copy.kt (x0 : List TSigned) : V.Kt (List TSigned) := V.ktOf spec_l16Copy.E spec_l16Copy.con Tryz.f30 ((x0) : List TSigned)
noncomputable abbrev spec_l16Copy.s6 (x0 : List TSigned) (v6_1 : Int) (v6_2 : List TSigned) : V.St := ⟨[(0, .v false [.val (.sl V.eSigned x0)]), (3, .v false [.ref 64000038400192]), (4, .v false [.val (.int .i64 v6_1)])], [(64000038400192, .row V.eSigned true v6_2)]⟩
theorem spec_l16Copy.r6 (x0 : List TSigned) (R : V.St → Option (List TSigned)) (v6_1 : Int) (v6_2 : List TSigned) : V.loopF spec_l16Copy.E Tryz.f30.ntmps [1, 1, 0, 1, 0] [] (V.codeOf Tryz.f30) (spec_l16Copy.kt x0) R (spec_l16Copy.s6 x0 v6_1 v6_2) = spec_l16Copy.g6 x0 (fun v6_1 v6_2 => R (spec_l16Copy.s6 x0 v6_1 v6_2)) v6_1 v6_2 := by kernel_rfl
theorem spec_l16Copy.e6 (x0 : List TSigned) : ∀ (n : Nat) (v6_1 : Int) (v6_2 : List TSigned), V.loopN (V.loopF spec_l16Copy.E Tryz.f30.ntmps [1, 1, 0, 1, 0] [] (V.codeOf Tryz.f30) (spec_l16Copy.kt x0)) n (spec_l16Copy.s6 x0 v6_1 v6_2) = spec_l16Copy.l6 x0 n v6_1 v6_2 := by
  intro n
  induction n with
  | zero => intros; rw [V.loopN_z]; rfl
  | succ n ih =>
    intro v6_1 v6_2
    rw [V.loopN_s, spec_l16Copy.r6]
    simp only [ih]
    first | exact (spec_l16Copy.u6 ..).symm | rfl
theorem spec_l16Copy.v (x0 : List TSigned) : V.evBody spec_l16Copy.E spec_l16Copy.con Tryz.f30 ((x0) : List TSigned) = spec_l16Copy.b x0 (fun v6_1 v6_2 => V.loopN (V.loopF spec_l16Copy.E Tryz.f30.ntmps [1, 1, 0, 1, 0] [] (V.codeOf Tryz.f30) (spec_l16Copy.kt x0)) V.KK (spec_l16Copy.s6 x0 v6_1 v6_2)) := by kernel_rfl
theorem spec_l16Copy.eq (x0 : List TSigned) : V.evBody spec_l16Copy.E spec_l16Copy.con Tryz.f30 ((x0) : List TSigned) = spec_l16Copy x0 := by
  rw [spec_l16Copy.v]
  simp only [spec_l16Copy.e6]
  rfl
theorem spec_l16Copy.ok : V.Valid Tryz.prog 30 spec_l16Copy.con :=
  V.fo (V.tab_cons spec_l14Copy.ok V.tab_nil) Tryz.func30 (by kernel_rfl) (fun x y h => (show V.evBody spec_l16Copy.E spec_l16Copy.con Tryz.f30 x = _ from spec_l16Copy.eq x).trans (V.cfl (by kernel_rfl) h))
noncomputable abbrev spec_Extend.con : V.Con := ⟨V.A6, (.cons (.sl V.eSigned) (.cons (.int .i64) .nil)), fun (x : V.D6) => spec_Extend (V.p6_0 x) (V.p6_1 x), [], [(false, 1), (true, 17)], [(false, 1), (false, 1)], [true, false], []⟩
noncomputable abbrev spec_Extend.E : V.Env := V.mkE V.tys [(29, spec_LastHead.con), (30, spec_l16Copy.con), (31, spec_NextCode.con), (32, spec_l14Copy.con)] [(7, [0, 3, 6, 20], [])] [(7, 3)] [] [] []
noncomputable abbrev spec_Extend.kt (x0 : List TSigned) (x1 : TSigned) : V.Kt (List TSigned × Int) := V.ktOf spec_Extend.E spec_Extend.con Tryz.f7 (V.fl6 x0 x1)
noncomputable abbrev spec_Extend.s7 (x0 : List TSigned) (x1 : TSigned) (y1 : TRHeadBool) (v7_1 : Bool) : V.St := ⟨[(0, .v false [.val (.sl V.eSigned x0)]), (3, .v false [.ptr 64000 0]), (6, .v false [.ptr 128320 0]), (20, .v false [.val (.bool v7_1)])], [(64000, .box (V.lsSigned x1)), (128320, .box [.val (.int .i64 y1.1), .val (.int .i64 y1.2.1), .val (.int .i64 y1.2.2.1), .val (.int .i64 y1.2.2.2.1), .val (.int .i64 y1.2.2.2.2.1), .val (.int .i64 y1.2.2.2.2.2.1), .val (.int .i64 y1.2.2.2.2.2.2.1), .val (.int .i64 y1.2.2.2.2.2.2.2.1), .ref 64000000000008212488, .val (.int .i64 y1.2.2.2.2.2.2.2.2.2.1), .ref 64000000000008212490, .val (.int .i64 y1.2.2.2.2.2.2.2.2.2.2.2.1), .val (.int .i64 y1.2.2.2.2.2.2.2.2.2.2.2.2.1), .ref 64000000000008212493, .val (.int .i64 y1.2.2.2.2.2.2.2.2.2.2.2.2.2.2.1), .val (.bool y1.2.2.2.2.2.2.2.2.2.2.2.2.2.2.2.1)]), (64000000000008212488, .row (.cons (.int .i64) .nil) true y1.2.2.2.2.2.2.2.2.1), (64000000000008212490, .row (.cons (.int .i64) .nil) true y1.2.2.2.2.2.2.2.2.2.2.1), (64000000000008212493, .row (.cons (.int .i64) .nil) true y1.2.2.2.2.2.2.2.2.2.2.2.2.2.1)]⟩
theorem spec_Extend.r7 (x0 : List TSigned) (x1 : TSigned) (y1 : TRHeadBool) (v7_1 : Bool) : V.joinF spec_Extend.E Tryz.f7.ntmps [1, 1, 0] [] (V.codeOf Tryz.f7) (spec_Extend.kt x0 x1) (spec_Extend.s7 x0 x1 y1 v7_1) = spec_Extend.g7 x0 x1 y1 v7_1 := by kernel_rfl
theorem spec_Extend.e7 (x0 : List TSigned) (x1 : TSigned) (y1 : TRHeadBool) (v7_1 : Bool) : V.jn (V.joinF spec_Extend.E Tryz.f7.ntmps [1, 1, 0] [] (V.codeOf Tryz.f7) (spec_Extend.kt x0 x1)) (spec_Extend.s7 x0 x1 y1 v7_1) = spec_Extend.l7 x0 x1 y1 v7_1 := by
  rw [V.jn_eq, spec_Extend.r7]
  rfl
noncomputable abbrev spec_Extend.s (x0 : List TSigned) (x1 : TSigned) : V.St := ⟨[(0, .v false [.val (.sl V.eSigned x0)]), (1, .v true (V.lsSigned x1))], []⟩
theorem spec_Extend.v0 (x0 : List TSigned) (x1 : TSigned) : V.evBody spec_Extend.E spec_Extend.con Tryz.f7 (V.fl6 x0 x1) = V.evC spec_Extend.E Tryz.f7.ntmps (V.codeOf Tryz.f7) (spec_Extend.kt x0 x1) (spec_Extend.s x0 x1) := by kernel_rfl
theorem spec_Extend.v (x0 : List TSigned) (x1 : TSigned) : V.evC spec_Extend.E Tryz.f7.ntmps (V.codeOf Tryz.f7) (spec_Extend.kt x0 x1) (spec_Extend.s x0 x1) = spec_Extend.b x0 x1 (fun y1 v7_1 => V.jn (V.joinF spec_Extend.E Tryz.f7.ntmps [1, 1, 0] [] (V.codeOf Tryz.f7) (spec_Extend.kt x0 x1)) (spec_Extend.s7 x0 x1 y1 v7_1)) := by kernel_rfl
theorem spec_Extend.eq (x0 : List TSigned) (x1 : TSigned) : V.evBody spec_Extend.E spec_Extend.con Tryz.f7 (V.fl6 x0 x1) = spec_Extend x0 x1 := by
  rw [spec_Extend.v0, spec_Extend.v]
  simp only [spec_Extend.e7]
  rfl
theorem spec_Extend.ok : V.Valid Tryz.prog 7 spec_Extend.con :=
  V.fo (V.tab_cons spec_LastHead.ok (V.tab_cons spec_l16Copy.ok (V.tab_cons spec_NextCode.ok (V.tab_cons spec_l14Copy.ok V.tab_nil)))) Tryz.func7 (by kernel_rfl) (fun x y h => (show V.evBody spec_Extend.E spec_Extend.con Tryz.f7 x = _ from spec_Extend.eq (V.p6_0 x) (V.p6_1 x)).trans (V.cfl (by kernel_rfl) h))
noncomputable abbrev spec_l16Chain.con : V.Con := ⟨(.cons (.ptr (.cons (.sl (.cons (.int .u8) .nil)) (.cons (.int .i64) (.cons (.int .i64) .nil)))) .nil), (.cons (.ptr (.cons (.sl (.cons (.int .u8) .nil)) (.cons (.int .i64) (.cons (.int .i64) .nil)))) (.cons (.sl V.eSigned) .nil)), fun (x : (Tl1Cur)) => spec_l16Chain x, [(0, false)], [(false, 1)], [(false, 1)], [true], []⟩
noncomputable abbrev spec_l16Chain.E : V.Env := V.mkE V.tys [(7, spec_Extend.con), (24, spec_l15Next.con), (41, spec_l1Below.con), (46, spec_l14First.con)] [(6, [0, 3, 4], [])] [] [] [] []
noncomputable abbrev spec_l16Chain.kt (x0 : (Tl1Cur)) : V.Kt ((Tl1Cur) × List TSigned) := V.ktOf spec_l16Chain.E spec_l16Chain.con Tryz.f45 ((x0) : (Tl1Cur))
noncomputable abbrev spec_l16Chain.s6 (x0 : (Tl1Cur)) (v6_0 : Int) (v6_2 : Int) (v6_3 : Int) (v6_4 : List TSigned) : V.St := ⟨[(0, .v false [.ptr 0 0]), (3, .v false [.ref 64000038400192]), (4, .v false [.val (.int .i64 v6_0)])], [(0, .box [.val (.sl (.cons (.int .u8) .nil) x0.1), .val (.int .i64 v6_2), .val (.int .i64 v6_3)]), (64000038400192, .row V.eSigned true v6_4)]⟩
theorem spec_l16Chain.r6 (x0 : (Tl1Cur)) (R : V.St → Option ((Tl1Cur) × List TSigned)) (v6_0 : Int) (v6_2 : Int) (v6_3 : Int) (v6_4 : List TSigned) : V.loopF spec_l16Chain.E Tryz.f45.ntmps [1, 1, 0, 1, 0] [] (V.codeOf Tryz.f45) (spec_l16Chain.kt x0) R (spec_l16Chain.s6 x0 v6_0 v6_2 v6_3 v6_4) = spec_l16Chain.g6 x0 (fun v6_0 v6_2 v6_3 v6_4 => R (spec_l16Chain.s6 x0 v6_0 v6_2 v6_3 v6_4)) v6_0 v6_2 v6_3 v6_4 := by kernel_rfl
theorem spec_l16Chain.e6 (x0 : (Tl1Cur)) : ∀ (n : Nat) (v6_0 : Int) (v6_2 : Int) (v6_3 : Int) (v6_4 : List TSigned), V.loopN (V.loopF spec_l16Chain.E Tryz.f45.ntmps [1, 1, 0, 1, 0] [] (V.codeOf Tryz.f45) (spec_l16Chain.kt x0)) n (spec_l16Chain.s6 x0 v6_0 v6_2 v6_3 v6_4) = spec_l16Chain.l6 x0 n v6_0 v6_2 v6_3 v6_4 := by
  intro n
  induction n with
  | zero => intros; rw [V.loopN_z]; rfl
  | succ n ih =>
    intro v6_0 v6_2 v6_3 v6_4
    rw [V.loopN_s, spec_l16Chain.r6]
    simp only [ih]
    first | exact (spec_l16Chain.u6 ..).symm | rfl
theorem spec_l16Chain.v (x0 : (Tl1Cur)) : V.evBody spec_l16Chain.E spec_l16Chain.con Tryz.f45 ((x0) : (Tl1Cur)) = spec_l16Chain.b x0 (fun v6_0 v6_2 v6_3 v6_4 => V.loopN (V.loopF spec_l16Chain.E Tryz.f45.ntmps [1, 1, 0, 1, 0] [] (V.codeOf Tryz.f45) (spec_l16Chain.kt x0)) V.KK (spec_l16Chain.s6 x0 v6_0 v6_2 v6_3 v6_4)) := by kernel_rfl
theorem spec_l16Chain.eq (x0 : (Tl1Cur)) : V.evBody spec_l16Chain.E spec_l16Chain.con Tryz.f45 ((x0) : (Tl1Cur)) = spec_l16Chain x0 := by
  rw [spec_l16Chain.v]
  simp only [spec_l16Chain.e6]
  rfl
theorem spec_l16Chain.ok : V.Valid Tryz.prog 45 spec_l16Chain.con :=
  V.fo (V.tab_cons spec_Extend.ok (V.tab_cons spec_l15Next.ok (V.tab_cons spec_l1Below.ok (V.tab_cons spec_l14First.ok V.tab_nil)))) Tryz.func45 (by kernel_rfl) (fun x y h => (show V.evBody spec_l16Chain.E spec_l16Chain.con Tryz.f45 x = _ from spec_l16Chain.eq x).trans (V.cfl (by kernel_rfl) h))
noncomputable abbrev spec_l13Head.con : V.Con := ⟨(.cons (.ptr (.cons (.sl (.cons (.int .u8) .nil)) (.cons (.int .i64) (.cons (.int .i64) .nil)))) .nil), (.cons (.ptr (.cons (.sl (.cons (.int .u8) .nil)) (.cons (.int .i64) (.cons (.int .i64) .nil)))) (.cons (.int .i64) (.cons (.int .i64) (.cons (.int .i64) (.cons (.int .i64) (.cons (.int .i64) (.cons (.int .i64) (.cons (.int .i64) (.cons (.int .i64) (.cons (.sl (.cons (.int .i64) .nil)) (.cons (.int .i64) (.cons (.sl (.cons (.int .i64) .nil)) (.cons (.int .i64) (.cons (.int .i64) (.cons (.sl (.cons (.int .i64) .nil)) (.cons (.int .i64) (.cons .bool .nil))))))))))))))))), fun (x : (Tl1Cur)) => spec_l13Head x, [(0, false)], [(false, 1)], [(true, 16)], [false, false, false, false, false, false, false, false, true, false, true, false, false, true, false, false], []⟩
noncomputable abbrev spec_l13Head.E : V.Env := V.mkE V.tys [(22, spec_l1Once.con), (41, spec_l1Below.con), (53, spec_l6Keys.con)] [(7, [0, 2, 3], []), (13, [0, 2, 3], [(64000000000008265738, (.cons (.int .i64) .nil), true)])] [] [] [] [(2, [1000])]
noncomputable abbrev spec_l13Head.kt (x0 : (Tl1Cur)) : V.Kt ((Tl1Cur) × Int × Int × Int × Int × Int × Int × Int × Int × List Int × Int × List Int × Int × Int × List Int × Int × Bool) := V.ktOf spec_l13Head.E spec_l13Head.con Tryz.f76 ((x0) : (Tl1Cur))
noncomputable abbrev spec_l13Head.s13 (x0 : (Tl1Cur)) (v7_18 : Int) (v7_20 : Int) (y1 : (Tl1Cur) × Int) (y2 : (Tl1Cur) × Int) (y4 : (Tl1Cur) × Int) (y5 : (Tl1Cur) × Int) (y6 : (Tl1Cur) × Int) (y7 : (Tl1Cur) × Int) (y8 : (Tl1Cur) × List Int × Int) (v13_1 : Int) (v13_2 : Int) (v13_25 : Int) (v13_26 : Int) (v13_30 : List Int) : V.St := ⟨[(0, .v false [.ptr 0 0]), (2, .v false [.ptr 64000 0]), (3, .v false [.ptr 129152 0])], [(0, .box [.val (.sl (.cons (.int .u8) .nil) x0.1), .val (.int .i64 v13_1), .val (.int .i64 v13_2)]), (64000, .box [.val (.int .i64 (0 : Int)), .val (.int .i64 (0 : Int)), .val (.int .i64 (0 : Int)), .val (.int .i64 (0 : Int)), .val (.int .i64 (0 : Int)), .val (.int .i64 (0 : Int)), .val (.int .i64 (0 : Int)), .val (.int .i64 (0 : Int)), .nil0, .val (.int .i64 (0 : Int)), .nil0, .val (.int .i64 (0 : Int)), .val (.int .i64 (0 : Int)), .nil0, .val (.int .i64 (0 : Int)), .val (.bool false)]), (129152, .box [.val (.int .i64 y1.2), .val (.int .i64 y2.2), .val (.int .i64 v7_18), .val (.int .i64 y4.2), .val (.int .i64 v7_20), .val (.int .i64 y7.2), .val (.int .i64 y5.2), .val (.int .i64 y6.2), .ref 64000000000008265736, .val (.int .i64 y8.2.2), .ref 64000000000008265738, .val (.int .i64 v13_25), .val (.int .i64 v13_26), .nil0, .val (.int .i64 (0 : Int)), .val (.bool false)]), (64000000000008265736, .row (.cons (.int .i64) .nil) true y8.2.1), (64000000000008265738, .row (.cons (.int .i64) .nil) true v13_30)]⟩
noncomputable abbrev spec_l13Head.s7 (x0 : (Tl1Cur)) (y1 : (Tl1Cur) × Int) (y2 : (Tl1Cur) × Int) (y4 : (Tl1Cur) × Int) (y5 : (Tl1Cur) × Int) (y6 : (Tl1Cur) × Int) (y7 : (Tl1Cur) × Int) (y8 : (Tl1Cur) × List Int × Int) (v7_1 : Int) (v7_2 : Int) (v7_18 : Int) (v7_20 : Int) : V.St := ⟨[(0, .v false [.ptr 0 0]), (2, .v false [.ptr 64000 0]), (3, .v false [.ptr 129152 0])], [(0, .box [.val (.sl (.cons (.int .u8) .nil) x0.1), .val (.int .i64 v7_1), .val (.int .i64 v7_2)]), (64000, .box [.val (.int .i64 (0 : Int)), .val (.int .i64 (0 : Int)), .val (.int .i64 (0 : Int)), .val (.int .i64 (0 : Int)), .val (.int .i64 (0 : Int)), .val (.int .i64 (0 : Int)), .val (.int .i64 (0 : Int)), .val (.int .i64 (0 : Int)), .nil0, .val (.int .i64 (0 : Int)), .nil0, .val (.int .i64 (0 : Int)), .val (.int .i64 (0 : Int)), .nil0, .val (.int .i64 (0 : Int)), .val (.bool false)]), (129152, .box [.val (.int .i64 y1.2), .val (.int .i64 y2.2), .val (.int .i64 v7_18), .val (.int .i64 y4.2), .val (.int .i64 v7_20), .val (.int .i64 y7.2), .val (.int .i64 y5.2), .val (.int .i64 y6.2), .ref 64000000000008265736, .val (.int .i64 y8.2.2), .nil0, .val (.int .i64 (0 : Int)), .val (.int .i64 (0 : Int)), .nil0, .val (.int .i64 (0 : Int)), .val (.bool false)]), (64000000000008265736, .row (.cons (.int .i64) .nil) true y8.2.1)]⟩
theorem spec_l13Head.r13 (x0 : (Tl1Cur)) (v7_18 : Int) (v7_20 : Int) (y1 : (Tl1Cur) × Int) (y2 : (Tl1Cur) × Int) (y4 : (Tl1Cur) × Int) (y5 : (Tl1Cur) × Int) (y6 : (Tl1Cur) × Int) (y7 : (Tl1Cur) × Int) (y8 : (Tl1Cur) × List Int × Int) (v13_1 : Int) (v13_2 : Int) (v13_25 : Int) (v13_26 : Int) (v13_30 : List Int) : V.joinF spec_l13Head.E Tryz.f76.ntmps [1, 1, 1] [] (V.codeOf Tryz.f76) (spec_l13Head.kt x0) (spec_l13Head.s13 x0 v7_18 v7_20 y1 y2 y4 y5 y6 y7 y8 v13_1 v13_2 v13_25 v13_26 v13_30) = spec_l13Head.g13 x0 v7_18 v7_20 y1 y2 y4 y5 y6 y7 y8 v13_1 v13_2 v13_25 v13_26 v13_30 := by kernel_rfl
theorem spec_l13Head.e13 (x0 : (Tl1Cur)) (v7_18 : Int) (v7_20 : Int) (y1 : (Tl1Cur) × Int) (y2 : (Tl1Cur) × Int) (y4 : (Tl1Cur) × Int) (y5 : (Tl1Cur) × Int) (y6 : (Tl1Cur) × Int) (y7 : (Tl1Cur) × Int) (y8 : (Tl1Cur) × List Int × Int) (v13_1 : Int) (v13_2 : Int) (v13_25 : Int) (v13_26 : Int) (v13_30 : List Int) : V.jn (V.joinF spec_l13Head.E Tryz.f76.ntmps [1, 1, 1] [] (V.codeOf Tryz.f76) (spec_l13Head.kt x0)) (spec_l13Head.s13 x0 v7_18 v7_20 y1 y2 y4 y5 y6 y7 y8 v13_1 v13_2 v13_25 v13_26 v13_30) = spec_l13Head.l13 x0 v7_18 v7_20 y1 y2 y4 y5 y6 y7 y8 v13_1 v13_2 v13_25 v13_26 v13_30 := by
  rw [V.jn_eq, spec_l13Head.r13]
  rfl
theorem spec_l13Head.r7 (x0 : (Tl1Cur)) (y1 : (Tl1Cur) × Int) (y2 : (Tl1Cur) × Int) (y4 : (Tl1Cur) × Int) (y5 : (Tl1Cur) × Int) (y6 : (Tl1Cur) × Int) (y7 : (Tl1Cur) × Int) (y8 : (Tl1Cur) × List Int × Int) (v7_1 : Int) (v7_2 : Int) (v7_18 : Int) (v7_20 : Int) : V.joinF spec_l13Head.E Tryz.f76.ntmps [1, 1] [] (V.codeOf Tryz.f76) (spec_l13Head.kt x0) (spec_l13Head.s7 x0 y1 y2 y4 y5 y6 y7 y8 v7_1 v7_2 v7_18 v7_20) = spec_l13Head.g7 x0 y1 y2 y4 y5 y6 y7 y8 (fun y1 y2 y4 y5 y6 y7 y8 v13_1 v13_2 v13_25 v13_26 v13_30 => V.jn (V.joinF spec_l13Head.E Tryz.f76.ntmps [1, 1, 1] [] (V.codeOf Tryz.f76) (spec_l13Head.kt x0)) (spec_l13Head.s13 x0 v7_18 v7_20 y1 y2 y4 y5 y6 y7 y8 v13_1 v13_2 v13_25 v13_26 v13_30)) v7_1 v7_2 v7_18 v7_20 := by kernel_rfl
theorem spec_l13Head.e7 (x0 : (Tl1Cur)) (y1 : (Tl1Cur) × Int) (y2 : (Tl1Cur) × Int) (y4 : (Tl1Cur) × Int) (y5 : (Tl1Cur) × Int) (y6 : (Tl1Cur) × Int) (y7 : (Tl1Cur) × Int) (y8 : (Tl1Cur) × List Int × Int) (v7_1 : Int) (v7_2 : Int) (v7_18 : Int) (v7_20 : Int) : V.jn (V.joinF spec_l13Head.E Tryz.f76.ntmps [1, 1] [] (V.codeOf Tryz.f76) (spec_l13Head.kt x0)) (spec_l13Head.s7 x0 y1 y2 y4 y5 y6 y7 y8 v7_1 v7_2 v7_18 v7_20) = spec_l13Head.l7 x0 y1 y2 y4 y5 y6 y7 y8 v7_1 v7_2 v7_18 v7_20 := by
  rw [V.jn_eq, spec_l13Head.r7]
  simp only [spec_l13Head.e13]
  rfl
theorem spec_l13Head.v (x0 : (Tl1Cur)) : V.evBody spec_l13Head.E spec_l13Head.con Tryz.f76 ((x0) : (Tl1Cur)) = spec_l13Head.b x0 (fun y1 y2 y4 y5 y6 y7 y8 v7_1 v7_2 v7_18 v7_20 => V.jn (V.joinF spec_l13Head.E Tryz.f76.ntmps [1, 1] [] (V.codeOf Tryz.f76) (spec_l13Head.kt x0)) (spec_l13Head.s7 x0 y1 y2 y4 y5 y6 y7 y8 v7_1 v7_2 v7_18 v7_20)) := by kernel_rfl
theorem spec_l13Head.eq (x0 : (Tl1Cur)) : V.evBody spec_l13Head.E spec_l13Head.con Tryz.f76 ((x0) : (Tl1Cur)) = spec_l13Head x0 := by
  rw [spec_l13Head.v]
  simp only [spec_l13Head.e7]
  rfl
theorem spec_l13Head.ok : V.Valid Tryz.prog 76 spec_l13Head.con :=
  V.fo (V.tab_cons spec_l1Once.ok (V.tab_cons spec_l1Below.ok (V.tab_cons spec_l6Keys.ok V.tab_nil))) Tryz.func76 (by kernel_rfl) (fun x y h => (show V.evBody spec_l13Head.E spec_l13Head.con Tryz.f76 x = _ from spec_l13Head.eq x).trans (V.cfl (by kernel_rfl) h))
noncomputable abbrev spec_l1Int.con : V.Con := ⟨(.cons (.ptr (.cons (.sl (.cons (.int .u8) .nil)) (.cons (.int .i64) (.cons (.int .i64) .nil)))) (.cons (.sl (.cons (.int .i64) .nil)) .nil)), (.cons (.ptr (.cons (.sl (.cons (.int .u8) .nil)) (.cons (.int .i64) (.cons (.int .i64) .nil)))) (.cons (.int .i64) .nil)), fun (x : (Tl1Cur) × List Int) => spec_l1Int x.1 x.2, [(0, false)], [(false, 1), (false, 1)], [(false, 1)], [false], []⟩
noncomputable abbrev spec_l1Int.E : V.Env := V.mkE V.tys [(41, spec_l1Below.con)] [] [] [] [] []
theorem spec_l1Int.eq (x0 : (Tl1Cur)) (x1 : List Int) : V.evBody spec_l1Int.E spec_l1Int.con Tryz.f77 ((x0, x1) : (Tl1Cur) × List Int) = spec_l1Int x0 x1 := by kernel_rfl
theorem spec_l1Int.ok : V.Valid Tryz.prog 77 spec_l1Int.con :=
  V.fo (V.tab_cons spec_l1Below.ok V.tab_nil) Tryz.func77 (by kernel_rfl) (fun x y h => (show V.evBody spec_l1Int.E spec_l1Int.con Tryz.f77 x = _ from spec_l1Int.eq x.1 x.2).trans (V.cfl (by kernel_rfl) h))
noncomputable abbrev spec_l6Any.con : V.Con := ⟨(.cons (.ptr (.cons (.sl (.cons (.int .u8) .nil)) (.cons (.int .i64) (.cons (.int .i64) .nil)))) .nil), (.cons (.ptr (.cons (.sl (.cons (.int .u8) .nil)) (.cons (.int .i64) (.cons (.int .i64) .nil)))) (.cons (.sl (.cons (.int .i64) .nil)) (.cons (.int .i64) .nil))), fun (x : (Tl1Cur)) => spec_l6Any x, [(0, false)], [(false, 1)], [(true, 2)], [true, false], []⟩
noncomputable abbrev spec_l6Any.E : V.Env := V.mkE V.tys [(41, spec_l1Below.con), (53, spec_l6Keys.con), (77, spec_l1Int.con)] [] [] [] [] [(6, [1000])]
theorem spec_l6Any.eq (x0 : (Tl1Cur)) : V.evBody spec_l6Any.E spec_l6Any.con Tryz.f78 ((x0) : (Tl1Cur)) = spec_l6Any x0 := by kernel_rfl
theorem spec_l6Any.ok : V.Valid Tryz.prog 78 spec_l6Any.con :=
  V.fo (V.tab_cons spec_l1Below.ok (V.tab_cons spec_l6Keys.ok (V.tab_cons spec_l1Int.ok V.tab_nil))) Tryz.func78 (by kernel_rfl) (fun x y h => (show V.evBody spec_l6Any.E spec_l6Any.con Tryz.f78 x = _ from spec_l6Any.eq x).trans (V.cfl (by kernel_rfl) h))
noncomputable abbrev spec_l13Any.con : V.Con := ⟨(.cons (.ptr (.cons (.sl (.cons (.int .u8) .nil)) (.cons (.int .i64) (.cons (.int .i64) .nil)))) .nil), (.cons (.ptr (.cons (.sl (.cons (.int .u8) .nil)) (.cons (.int .i64) (.cons (.int .i64) .nil)))) (.cons (.int .i64) (.cons (.int .i64) (.cons (.int .i64) (.cons (.int .i64) (.cons (.int .i64) (.cons (.int .i64) (.cons (.int .i64) (.cons (.int .i64) (.cons (.sl (.cons (.int .i64) .nil)) (.cons (.int .i64) (.cons (.sl (.cons (.int .i64) .nil)) (.cons (.int .i64) (.cons (.int .i64) (.cons (.sl (.cons (.int .i64) .nil)) (.cons (.int .i64) (.cons .bool .nil))))))))))))))))), fun (x : (Tl1Cur)) => spec_l13Any x, [(0, false)], [(false, 1)], [(true, 16)], [false, false, false, false, false, false, false, false, true, false, true, false, false, true, false, false], []⟩
noncomputable abbrev spec_l13Any.E : V.Env := V.mkE V.tys [(41, spec_l1Below.con), (76, spec_l13Head.con), (77, spec_l1Int.con), (78, spec_l6Any.con)] [] [] [] [] []
theorem spec_l13Any.eq (x0 : (Tl1Cur)) : V.evBody spec_l13Any.E spec_l13Any.con Tryz.f47 ((x0) : (Tl1Cur)) = spec_l13Any x0 := by kernel_rfl
theorem spec_l13Any.ok : V.Valid Tryz.prog 47 spec_l13Any.con :=
  V.fo (V.tab_cons spec_l1Below.ok (V.tab_cons spec_l13Head.ok (V.tab_cons spec_l1Int.ok (V.tab_cons spec_l6Any.ok V.tab_nil)))) Tryz.func47 (by kernel_rfl) (fun x y h => (show V.evBody spec_l13Any.E spec_l13Any.con Tryz.f47 x = _ from spec_l13Any.eq x).trans (V.cfl (by kernel_rfl) h))
noncomputable abbrev spec_l6Held.con : V.Con := ⟨(.cons (.ptr (.cons (.sl (.cons (.int .u8) .nil)) (.cons (.int .i64) (.cons (.int .i64) .nil)))) .nil), (.cons (.ptr (.cons (.sl (.cons (.int .u8) .nil)) (.cons (.int .i64) (.cons (.int .i64) .nil)))) (.cons (.sl (.cons (.int .i64) .nil)) .nil)), fun (x : (Tl1Cur)) => spec_l6Held x, [(0, false)], [(false, 1)], [(false, 1)], [true], []⟩
noncomputable abbrev spec_l6Held.E : V.Env := V.mkE V.tys [(41, spec_l1Below.con)] [(6, [0, 3, 4], [(64000038400192, (.cons (.int .i64) .nil), true)])] [] [] [] []
noncomputable abbrev spec_l6Held.kt (x0 : (Tl1Cur)) : V.Kt ((Tl1Cur) × List Int) := V.ktOf spec_l6Held.E spec_l6Held.con Tryz.f80 ((x0) : (Tl1Cur))
noncomputable abbrev spec_l6Held.s6 (x0 : (Tl1Cur)) (v6_0 : Int) (v6_2 : Int) (v6_3 : Int) (v6_4 : List Int) : V.St := ⟨[(0, .v false [.ptr 0 0]), (3, .v false [.ref 64000038400192]), (4, .v false [.val (.int .i64 v6_0)])], [(0, .box [.val (.sl (.cons (.int .u8) .nil) x0.1), .val (.int .i64 v6_2), .val (.int .i64 v6_3)]), (64000038400192, .row (.cons (.int .i64) .nil) true v6_4)]⟩
theorem spec_l6Held.r6 (x0 : (Tl1Cur)) (R : V.St → Option ((Tl1Cur) × List Int)) (v6_0 : Int) (v6_2 : Int) (v6_3 : Int) (v6_4 : List Int) : V.loopF spec_l6Held.E Tryz.f80.ntmps [1, 1, 0, 1, 0] [] (V.codeOf Tryz.f80) (spec_l6Held.kt x0) R (spec_l6Held.s6 x0 v6_0 v6_2 v6_3 v6_4) = spec_l6Held.g6 x0 (fun v6_0 v6_2 v6_3 v6_4 => R (spec_l6Held.s6 x0 v6_0 v6_2 v6_3 v6_4)) v6_0 v6_2 v6_3 v6_4 := by kernel_rfl
theorem spec_l6Held.e6 (x0 : (Tl1Cur)) : ∀ (n : Nat) (v6_0 : Int) (v6_2 : Int) (v6_3 : Int) (v6_4 : List Int), V.loopN (V.loopF spec_l6Held.E Tryz.f80.ntmps [1, 1, 0, 1, 0] [] (V.codeOf Tryz.f80) (spec_l6Held.kt x0)) n (spec_l6Held.s6 x0 v6_0 v6_2 v6_3 v6_4) = spec_l6Held.l6 x0 n v6_0 v6_2 v6_3 v6_4 := by
  intro n
  induction n with
  | zero => intros; rw [V.loopN_z]; rfl
  | succ n ih =>
    intro v6_0 v6_2 v6_3 v6_4
    rw [V.loopN_s, spec_l6Held.r6]
    simp only [ih]
    first | exact (spec_l6Held.u6 ..).symm | rfl
theorem spec_l6Held.v (x0 : (Tl1Cur)) : V.evBody spec_l6Held.E spec_l6Held.con Tryz.f80 ((x0) : (Tl1Cur)) = spec_l6Held.b x0 (fun v6_0 v6_2 v6_3 v6_4 => V.loopN (V.loopF spec_l6Held.E Tryz.f80.ntmps [1, 1, 0, 1, 0] [] (V.codeOf Tryz.f80) (spec_l6Held.kt x0)) V.KK (spec_l6Held.s6 x0 v6_0 v6_2 v6_3 v6_4)) := by kernel_rfl
theorem spec_l6Held.eq (x0 : (Tl1Cur)) : V.evBody spec_l6Held.E spec_l6Held.con Tryz.f80 ((x0) : (Tl1Cur)) = spec_l6Held x0 := by
  rw [spec_l6Held.v]
  simp only [spec_l6Held.e6]
  rfl
theorem spec_l6Held.ok : V.Valid Tryz.prog 80 spec_l6Held.con :=
  V.fo (V.tab_cons spec_l1Below.ok V.tab_nil) Tryz.func80 (by kernel_rfl) (fun x y h => (show V.evBody spec_l6Held.E spec_l6Held.con Tryz.f80 x = _ from spec_l6Held.eq x).trans (V.cfl (by kernel_rfl) h))
noncomputable abbrev spec_l7Sigs.con : V.Con := ⟨(.cons (.ptr (.cons (.sl (.cons (.int .u8) .nil)) (.cons (.int .i64) (.cons (.int .i64) .nil)))) (.cons (.sl (.cons (.int .i64) .nil)) (.cons (.int .i64) (.cons (.sl (.cons (.int .i64) .nil)) .nil)))), (.cons (.ptr (.cons (.sl (.cons (.int .u8) .nil)) (.cons (.int .i64) (.cons (.int .i64) .nil)))) (.cons (.sl (.cons (.int .i64) (.cons (.int .i64) .nil))) .nil)), fun (x : (Tl1Cur) × List Int × Int × List Int) => spec_l7Sigs x.1 (x.2.1, x.2.2.1) x.2.2.2, [(0, false)], [(false, 1), (true, 2), (false, 1)], [(false, 1)], [true], []⟩
noncomputable abbrev spec_l7Sigs.E : V.Env := V.mkE V.tys [(41, spec_l1Below.con), (77, spec_l1Int.con), (79, spec_SignBy.con), (80, spec_l6Held.con)] [(5, [0, 7], [])] [] [] [] [(1, [1000])]
noncomputable abbrev spec_l7Sigs.kt (x0 : (Tl1Cur)) (x1 : TKeys) (x2 : List Int) : V.Kt ((Tl1Cur) × List TSig) := V.ktOf spec_l7Sigs.E spec_l7Sigs.con Tryz.f48 ((x0, x1.1, x1.2, x2) : (Tl1Cur) × List Int × Int × List Int)
noncomputable abbrev spec_l7Sigs.s5 (x0 : (Tl1Cur)) (v5_1 : Int) (v5_2 : Int) (v5_3 : List TSig) : V.St := ⟨[(0, .v false [.ptr 0 0]), (7, .v false [.ref 64000032000448])], [(0, .box [.val (.sl (.cons (.int .u8) .nil) x0.1), .val (.int .i64 v5_1), .val (.int .i64 v5_2)]), (64000032000448, .row (.cons (.int .i64) (.cons (.int .i64) .nil)) true v5_3)]⟩
theorem spec_l7Sigs.r5 (x0 : (Tl1Cur)) (x1 : TKeys) (x2 : List Int) (v5_1 : Int) (v5_2 : Int) (v5_3 : List TSig) : V.joinF spec_l7Sigs.E Tryz.f48.ntmps [1] [] (V.codeOf Tryz.f48) (spec_l7Sigs.kt x0 x1 x2) (spec_l7Sigs.s5 x0 v5_1 v5_2 v5_3) = spec_l7Sigs.g5 x0 v5_1 v5_2 v5_3 := by kernel_rfl
theorem spec_l7Sigs.e5 (x0 : (Tl1Cur)) (x1 : TKeys) (x2 : List Int) (v5_1 : Int) (v5_2 : Int) (v5_3 : List TSig) : V.jn (V.joinF spec_l7Sigs.E Tryz.f48.ntmps [1] [] (V.codeOf Tryz.f48) (spec_l7Sigs.kt x0 x1 x2)) (spec_l7Sigs.s5 x0 v5_1 v5_2 v5_3) = spec_l7Sigs.l5 x0 v5_1 v5_2 v5_3 := by
  rw [V.jn_eq, spec_l7Sigs.r5]
  rfl
theorem spec_l7Sigs.v (x0 : (Tl1Cur)) (x1 : TKeys) (x2 : List Int) : V.evBody spec_l7Sigs.E spec_l7Sigs.con Tryz.f48 ((x0, x1.1, x1.2, x2) : (Tl1Cur) × List Int × Int × List Int) = spec_l7Sigs.b x0 x1 x2 (fun v5_1 v5_2 v5_3 => V.jn (V.joinF spec_l7Sigs.E Tryz.f48.ntmps [1] [] (V.codeOf Tryz.f48) (spec_l7Sigs.kt x0 x1 x2)) (spec_l7Sigs.s5 x0 v5_1 v5_2 v5_3)) := by kernel_rfl
theorem spec_l7Sigs.eq (x0 : (Tl1Cur)) (x1 : TKeys) (x2 : List Int) : V.evBody spec_l7Sigs.E spec_l7Sigs.con Tryz.f48 ((x0, x1.1, x1.2, x2) : (Tl1Cur) × List Int × Int × List Int) = spec_l7Sigs x0 x1 x2 := by
  rw [spec_l7Sigs.v]
  simp only [spec_l7Sigs.e5]
  rfl
theorem spec_l7Sigs.ok : V.Valid Tryz.prog 48 spec_l7Sigs.con :=
  V.fo (V.tab_cons spec_l1Below.ok (V.tab_cons spec_l1Int.ok (V.tab_cons spec_SignBy.ok (V.tab_cons spec_l6Held.ok V.tab_nil)))) Tryz.func48 (by kernel_rfl) (fun x y h => (show V.evBody spec_l7Sigs.E spec_l7Sigs.con Tryz.f48 x = _ from spec_l7Sigs.eq x.1 (x.2.1, x.2.2.1) x.2.2.2).trans (V.cfl (by kernel_rfl) h))
noncomputable abbrev spec_l14Any.con : V.Con := ⟨(.cons (.ptr (.cons (.sl (.cons (.int .u8) .nil)) (.cons (.int .i64) (.cons (.int .i64) .nil)))) .nil), (.cons (.ptr (.cons (.sl (.cons (.int .u8) .nil)) (.cons (.int .i64) (.cons (.int .i64) .nil)))) (.cons (.int .i64) (.cons (.int .i64) (.cons (.int .i64) (.cons (.int .i64) (.cons (.int .i64) (.cons (.int .i64) (.cons (.int .i64) (.cons (.int .i64) (.cons (.sl (.cons (.int .i64) .nil)) (.cons (.int .i64) (.cons (.sl (.cons (.int .i64) .nil)) (.cons (.int .i64) (.cons (.int .i64) (.cons (.sl (.cons (.int .i64) .nil)) (.cons (.int .i64) (.cons .bool (.cons (.sl (.cons (.int .i64) (.cons (.int .i64) .nil))) .nil)))))))))))))))))), fun (x : (Tl1Cur)) => spec_l14Any x, [(0, false)], [(false, 1)], [(true, 17)], [false, false, false, false, false, false, false, false, true, false, true, false, false, true, false, false, true], []⟩
noncomputable abbrev spec_l14Any.E : V.Env := V.mkE V.tys [(41, spec_l1Below.con), (46, spec_l14First.con), (47, spec_l13Any.con), (48, spec_l7Sigs.con), (49, spec_HeadInts.con), (50, spec_SignHead.con)] [] [(6, 7)] [] [] []
theorem spec_l14Any.eq (x0 : (Tl1Cur)) : V.evBody spec_l14Any.E spec_l14Any.con Tryz.f23 ((x0) : (Tl1Cur)) = spec_l14Any x0 := by kernel_rfl
theorem spec_l14Any.ok : V.Valid Tryz.prog 23 spec_l14Any.con :=
  V.fo (V.tab_cons spec_l1Below.ok (V.tab_cons spec_l14First.ok (V.tab_cons spec_l13Any.ok (V.tab_cons spec_l7Sigs.ok (V.tab_cons spec_HeadInts.ok (V.tab_cons spec_SignHead.ok V.tab_nil)))))) Tryz.func23 (by kernel_rfl) (fun x y h => (show V.evBody spec_l14Any.E spec_l14Any.con Tryz.f23 x = _ from spec_l14Any.eq x).trans (V.cfl (by kernel_rfl) h))
noncomputable abbrev spec_l16Any.con : V.Con := ⟨(.cons (.ptr (.cons (.sl (.cons (.int .u8) .nil)) (.cons (.int .i64) (.cons (.int .i64) .nil)))) .nil), (.cons (.ptr (.cons (.sl (.cons (.int .u8) .nil)) (.cons (.int .i64) (.cons (.int .i64) .nil)))) (.cons (.sl V.eSigned) .nil)), fun (x : (Tl1Cur)) => spec_l16Any x, [(0, false)], [(false, 1)], [(false, 1)], [true], []⟩
noncomputable abbrev spec_l16Any.E : V.Env := V.mkE V.tys [(23, spec_l14Any.con), (41, spec_l1Below.con), (45, spec_l16Chain.con)] [] [] [] [] []
theorem spec_l16Any.eq (x0 : (Tl1Cur)) : V.evBody spec_l16Any.E spec_l16Any.con Tryz.f21 ((x0) : (Tl1Cur)) = spec_l16Any x0 := by kernel_rfl
theorem spec_l16Any.ok : V.Valid Tryz.prog 21 spec_l16Any.con :=
  V.fo (V.tab_cons spec_l14Any.ok (V.tab_cons spec_l1Below.ok (V.tab_cons spec_l16Chain.ok V.tab_nil))) Tryz.func21 (by kernel_rfl) (fun x y h => (show V.evBody spec_l16Any.E spec_l16Any.con Tryz.f21 x = _ from spec_l16Any.eq x).trans (V.cfl (by kernel_rfl) h))
noncomputable abbrev spec_DrawExtend.con : V.Con := ⟨(.cons (.sl (.cons (.int .u8) .nil)) .nil), V.eRListSigned, fun (x : List Int) => spec_DrawExtend x, [], [(false, 1)], [(false, 1), (true, 17)], [true, false, false, false, false, false, false, false, false, true, false, true, false, false, true, false, false, true], []⟩
noncomputable abbrev spec_DrawExtend.E : V.Env := V.mkE V.tys [(20, spec_l1New.con), (21, spec_l16Any.con), (22, spec_l1Once.con), (23, spec_l14Any.con), (24, spec_l15Next.con)] [(9, [3, 4, 5, 16], [])] [] [] [] []
noncomputable abbrev spec_DrawExtend.kt (x0 : List Int) : V.Kt TRListSigned := V.ktOf spec_DrawExtend.E spec_DrawExtend.con Tryz.f5 ((x0) : List Int)
noncomputable abbrev spec_DrawExtend.s9 (y1 : (Tl1Cur)) (y2 : (Tl1Cur) × List TSigned) (v9_0 : Bool) (v9_15 : Int) (v9_16 : Int) : V.St := ⟨[(3, .v false [.ptr 64064 0]), (4, .v false [.ptr 128064 0]), (5, .v false [.ref 64000057600320]), (16, .v false [.val (.bool v9_0)])], [(64064, .box [.val (.int .i64 (0 : Int)), .val (.int .i64 (0 : Int)), .val (.int .i64 (0 : Int)), .val (.int .i64 (0 : Int)), .val (.int .i64 (0 : Int)), .val (.int .i64 (0 : Int)), .val (.int .i64 (0 : Int)), .val (.int .i64 (0 : Int)), .nil0, .val (.int .i64 (0 : Int)), .nil0, .val (.int .i64 (0 : Int)), .val (.int .i64 (0 : Int)), .nil0, .val (.int .i64 (0 : Int)), .val (.bool false), .nil0]), (128064, .box [.val (.sl (.cons (.int .u8) .nil) y1.1), .val (.int .i64 v9_15), .val (.int .i64 v9_16)]), (64000057600320, .row V.eSigned true y2.2)]⟩
theorem spec_DrawExtend.r9 (x0 : List Int) (y1 : (Tl1Cur)) (y2 : (Tl1Cur) × List TSigned) (v9_0 : Bool) (v9_15 : Int) (v9_16 : Int) : V.joinF spec_DrawExtend.E Tryz.f5.ntmps [1, 1, 1, 0] [] (V.codeOf Tryz.f5) (spec_DrawExtend.kt x0) (spec_DrawExtend.s9 y1 y2 v9_0 v9_15 v9_16) = spec_DrawExtend.g9 y1 y2 v9_0 v9_15 v9_16 := by kernel_rfl
theorem spec_DrawExtend.e9 (x0 : List Int) (y1 : (Tl1Cur)) (y2 : (Tl1Cur) × List TSigned) (v9_0 : Bool) (v9_15 : Int) (v9_16 : Int) : V.jn (V.joinF spec_DrawExtend.E Tryz.f5.ntmps [1, 1, 1, 0] [] (V.codeOf Tryz.f5) (spec_DrawExtend.kt x0)) (spec_DrawExtend.s9 y1 y2 v9_0 v9_15 v9_16) = spec_DrawExtend.l9 y1 y2 v9_0 v9_15 v9_16 := by
  rw [V.jn_eq, spec_DrawExtend.r9]
  rfl
theorem spec_DrawExtend.v (x0 : List Int) : V.evBody spec_DrawExtend.E spec_DrawExtend.con Tryz.f5 ((x0) : List Int) = spec_DrawExtend.b x0 (fun y1 y2 v9_0 v9_15 v9_16 => V.jn (V.joinF spec_DrawExtend.E Tryz.f5.ntmps [1, 1, 1, 0] [] (V.codeOf Tryz.f5) (spec_DrawExtend.kt x0)) (spec_DrawExtend.s9 y1 y2 v9_0 v9_15 v9_16)) := by kernel_rfl
theorem spec_DrawExtend.eq (x0 : List Int) : V.evBody spec_DrawExtend.E spec_DrawExtend.con Tryz.f5 ((x0) : List Int) = spec_DrawExtend x0 := by
  rw [spec_DrawExtend.v]
  simp only [spec_DrawExtend.e9]
  rfl
theorem spec_DrawExtend.ok : V.Valid Tryz.prog 5 spec_DrawExtend.con :=
  V.fo (V.tab_cons spec_l1New.ok (V.tab_cons spec_l16Any.ok (V.tab_cons spec_l1Once.ok (V.tab_cons spec_l14Any.ok (V.tab_cons spec_l15Next.ok V.tab_nil))))) Tryz.func5 (by kernel_rfl) (fun x y h => (show V.evBody spec_DrawExtend.E spec_DrawExtend.con Tryz.f5 x = _ from spec_DrawExtend.eq x).trans (V.cfl (by kernel_rfl) h))
noncomputable abbrev slices_Clone_int.con : V.Con := ⟨(.cons (.sl (.cons (.int .i64) .nil)) .nil), (.cons (.sl (.cons (.int .i64) .nil)) .nil), fun (x : List Int) => slices_Clone_int x, [], [(false, 1)], [(false, 1)], [true], []⟩
noncomputable abbrev slices_Clone_int.E : V.Env := V.mkE V.tys [] [] [] [] [] []
theorem slices_Clone_int.eq (x0 : List Int) : V.evBody slices_Clone_int.E slices_Clone_int.con Tryz.f70 ((x0) : List Int) = slices_Clone_int x0 := by kernel_rfl
theorem slices_Clone_int.ok : V.Valid Tryz.prog 70 slices_Clone_int.con :=
  V.fo V.tab_nil Tryz.func70 (by kernel_rfl) (fun x y h => (show V.evBody slices_Clone_int.E slices_Clone_int.con Tryz.f70 x = _ from slices_Clone_int.eq x).trans (V.cfl (by kernel_rfl) h))
noncomputable abbrev impl_copyKeys.con : V.Con := ⟨(.cons (.sl (.cons (.int .i64) .nil)) (.cons (.int .i64) .nil)), (.cons (.sl (.cons (.int .i64) .nil)) (.cons (.int .i64) .nil)), fun (x : List Int × Int) => impl_copyKeys x, [], [(true, 2)], [(true, 2)], [true, false], []⟩
noncomputable abbrev impl_copyKeys.E : V.Env := V.mkE V.tys [(70, slices_Clone_int.con)] [] [(1, 5)] [] [] []
theorem impl_copyKeys.eq (x0 : TKeys) : V.evBody impl_copyKeys.E impl_copyKeys.con Tryz.f40 ((x0.1, x0.2) : List Int × Int) = impl_copyKeys x0 := by kernel_rfl
theorem impl_copyKeys.ok : V.Valid Tryz.prog 40 impl_copyKeys.con :=
  V.fo (V.tab_cons slices_Clone_int.ok V.tab_nil) Tryz.func40 (by kernel_rfl) (fun x y h => (show V.evBody impl_copyKeys.E impl_copyKeys.con Tryz.f40 x = _ from impl_copyKeys.eq x).trans (V.cfl (by kernel_rfl) h))
noncomputable abbrev impl_copyHead.con : V.Con := ⟨V.A0, V.eHead, fun (x : V.D0) => impl_copyHead (V.p0_0 x), [], [(true, 16)], [(true, 16)], [false, false, false, false, false, false, false, false, true, false, true, false, false, true, false, false], []⟩
noncomputable abbrev impl_copyHead.E : V.Env := V.mkE V.tys [(40, impl_copyKeys.con)] [] [(1, 10)] [] [] []
noncomputable abbrev impl_copyHead.kt (x0 : THead) : V.Kt THead := V.ktOf impl_copyHead.E impl_copyHead.con Tryz.f39 (V.fl0 x0)
noncomputable abbrev impl_copyHead.s (x0 : THead) : V.St := ⟨[(0, .v true (V.lsHead x0))], []⟩
theorem impl_copyHead.v0 (x0 : THead) : V.evBody impl_copyHead.E impl_copyHead.con Tryz.f39 (V.fl0 x0) = V.evC impl_copyHead.E Tryz.f39.ntmps (V.codeOf Tryz.f39) (impl_copyHead.kt x0) (impl_copyHead.s x0) := by kernel_rfl
theorem impl_copyHead.v (x0 : THead) : V.evC impl_copyHead.E Tryz.f39.ntmps (V.codeOf Tryz.f39) (impl_copyHead.kt x0) (impl_copyHead.s x0) = impl_copyHead x0 := by kernel_rfl
theorem impl_copyHead.eq (x0 : THead) : V.evBody impl_copyHead.E impl_copyHead.con Tryz.f39 (V.fl0 x0) = impl_copyHead x0 := (impl_copyHead.v0 x0).trans (impl_copyHead.v x0)
theorem impl_copyHead.ok : V.Valid Tryz.prog 39 impl_copyHead.con :=
  V.fo (V.tab_cons impl_copyKeys.ok V.tab_nil) Tryz.func39 (by kernel_rfl) (fun x y h => (show V.evBody impl_copyHead.E impl_copyHead.con Tryz.f39 x = _ from impl_copyHead.eq (V.p0_0 x)).trans (V.cfl (by kernel_rfl) h))
noncomputable abbrev slices_Clone_impl_Sig.con : V.Con := ⟨(.cons (.sl (.cons (.int .i64) (.cons (.int .i64) .nil))) .nil), (.cons (.sl (.cons (.int .i64) (.cons (.int .i64) .nil))) .nil), fun (x : List TSig) => slices_Clone_impl_Sig x, [], [(false, 1)], [(false, 1)], [true], []⟩
noncomputable abbrev slices_Clone_impl_Sig.E : V.Env := V.mkE V.tys [] [] [] [] [] []
theorem slices_Clone_impl_Sig.eq (x0 : List TSig) : V.evBody slices_Clone_impl_Sig.E slices_Clone_impl_Sig.con Tryz.f61 ((x0) : List TSig) = slices_Clone_impl_Sig x0 := by kernel_rfl
theorem slices_Clone_impl_Sig.ok : V.Valid Tryz.prog 61 slices_Clone_impl_Sig.con :=
  V.fo V.tab_nil Tryz.func61 (by kernel_rfl) (fun x y h => (show V.evBody slices_Clone_impl_Sig.E slices_Clone_impl_Sig.con Tryz.f61 x = _ from slices_Clone_impl_Sig.eq x).trans (V.cfl (by kernel_rfl) h))
noncomputable abbrev impl_copySigned.con : V.Con := ⟨V.A3, V.eSigned, fun (x : V.D3) => impl_copySigned (V.p3_0 x), [], [(true, 17)], [(true, 17)], [false, false, false, false, false, false, false, false, true, false, true, false, false, true, false, false, true], []⟩
noncomputable abbrev impl_copySigned.E : V.Env := V.mkE V.tys [(39, impl_copyHead.con), (61, slices_Clone_impl_Sig.con)] [] [(1, 5)] [] [] []
noncomputable abbrev impl_copySigned.kt (x0 : TSigned) : V.Kt TSigned := V.ktOf impl_copySigned.E impl_copySigned.con Tryz.f28 (V.fl3 x0)
noncomputable abbrev impl_copySigned.s (x0 : TSigned) : V.St := ⟨[(0, .v true (V.lsSigned x0))], []⟩
theorem impl_copySigned.v0 (x0 : TSigned) : V.evBody impl_copySigned.E impl_copySigned.con Tryz.f28 (V.fl3 x0) = V.evC impl_copySigned.E Tryz.f28.ntmps (V.codeOf Tryz.f28) (impl_copySigned.kt x0) (impl_copySigned.s x0) := by kernel_rfl
theorem impl_copySigned.v (x0 : TSigned) : V.evC impl_copySigned.E Tryz.f28.ntmps (V.codeOf Tryz.f28) (impl_copySigned.kt x0) (impl_copySigned.s x0) = impl_copySigned x0 := by kernel_rfl
theorem impl_copySigned.eq (x0 : TSigned) : V.evBody impl_copySigned.E impl_copySigned.con Tryz.f28 (V.fl3 x0) = impl_copySigned x0 := (impl_copySigned.v0 x0).trans (impl_copySigned.v x0)
theorem impl_copySigned.ok : V.Valid Tryz.prog 28 impl_copySigned.con :=
  V.fo (V.tab_cons impl_copyHead.ok (V.tab_cons slices_Clone_impl_Sig.ok V.tab_nil)) Tryz.func28 (by kernel_rfl) (fun x y h => (show V.evBody impl_copySigned.E impl_copySigned.con Tryz.f28 x = _ from impl_copySigned.eq (V.p3_0 x)).trans (V.cfl (by kernel_rfl) h))
noncomputable abbrev impl_copyChain.con : V.Con := ⟨(.cons (.sl V.eSigned) .nil), (.cons (.sl V.eSigned) .nil), fun (x : List TSigned) => impl_copyChain x, [], [(false, 1)], [(false, 1)], [true], []⟩
noncomputable abbrev impl_copyChain.E : V.Env := V.mkE V.tys [(28, impl_copySigned.con)] [(6, [3, 7, 8, 9], [(64000038400192, V.eSigned, true)])] [] [] [] []
noncomputable abbrev impl_copyChain.kt (x0 : List TSigned) : V.Kt (List TSigned) := V.ktOf impl_copyChain.E impl_copyChain.con Tryz.f25 ((x0) : List TSigned)
noncomputable abbrev impl_copyChain.s6 (x0 : List TSigned) (v6_1 : Int) (v6_2 : Int) (v6_3 : List TSigned) : V.St := ⟨[(3, .v false [.ref 64000038400192]), (7, .v false [.val (.sl V.eSigned x0)]), (8, .v false [.val (.int .i64 v6_1)]), (9, .v false [.val (.int .i64 v6_2)])], [(64000038400192, .row V.eSigned true v6_3)]⟩
theorem impl_copyChain.r6 (x0 : List TSigned) (R : V.St → Option (List TSigned)) (v6_1 : Int) (v6_2 : Int) (v6_3 : List TSigned) : V.loopF impl_copyChain.E Tryz.f25.ntmps [1, 1, 0, 1, 0] [] (V.codeOf Tryz.f25) (impl_copyChain.kt x0) R (impl_copyChain.s6 x0 v6_1 v6_2 v6_3) = impl_copyChain.g6 x0 (fun v6_1 v6_2 v6_3 => R (impl_copyChain.s6 x0 v6_1 v6_2 v6_3)) v6_1 v6_2 v6_3 := by kernel_rfl
theorem impl_copyChain.e6 (x0 : List TSigned) : ∀ (n : Nat) (v6_1 : Int) (v6_2 : Int) (v6_3 : List TSigned), V.loopN (V.loopF impl_copyChain.E Tryz.f25.ntmps [1, 1, 0, 1, 0] [] (V.codeOf Tryz.f25) (impl_copyChain.kt x0)) n (impl_copyChain.s6 x0 v6_1 v6_2 v6_3) = impl_copyChain.l6 x0 n v6_1 v6_2 v6_3 := by
  intro n
  induction n with
  | zero => intros; rw [V.loopN_z]; rfl
  | succ n ih =>
    intro v6_1 v6_2 v6_3
    rw [V.loopN_s, impl_copyChain.r6]
    simp only [ih]
    first | exact (impl_copyChain.u6 ..).symm | rfl
theorem impl_copyChain.v (x0 : List TSigned) : V.evBody impl_copyChain.E impl_copyChain.con Tryz.f25 ((x0) : List TSigned) = impl_copyChain.b x0 (fun v6_1 v6_2 v6_3 => V.loopN (V.loopF impl_copyChain.E Tryz.f25.ntmps [1, 1, 0, 1, 0] [] (V.codeOf Tryz.f25) (impl_copyChain.kt x0)) V.KK (impl_copyChain.s6 x0 v6_1 v6_2 v6_3)) := by kernel_rfl
theorem impl_copyChain.eq (x0 : List TSigned) : V.evBody impl_copyChain.E impl_copyChain.con Tryz.f25 ((x0) : List TSigned) = impl_copyChain x0 := by
  rw [impl_copyChain.v]
  simp only [impl_copyChain.e6]
  rfl
theorem impl_copyChain.ok : V.Valid Tryz.prog 25 impl_copyChain.con :=
  V.fo (V.tab_cons impl_copySigned.ok V.tab_nil) Tryz.func25 (by kernel_rfl) (fun x y h => (show V.evBody impl_copyChain.E impl_copyChain.con Tryz.f25 x = _ from impl_copyChain.eq x).trans (V.cfl (by kernel_rfl) h))
noncomputable abbrev impl_InRange.con : V.Con := ⟨(.cons (.int .i64) (.cons (.int .i64) (.cons (.int .i64) .nil))), (.cons .bool .nil), fun (x : Int × Int × Int) => impl_InRange x.1 x.2.1 x.2.2, [], [(false, 1), (false, 1), (false, 1)], [(false, 1)], [false], []⟩
noncomputable abbrev impl_InRange.E : V.Env := V.mkE V.tys [] [] [] [] [] []
theorem impl_InRange.eq (x0 : Int) (x1 : Int) (x2 : Int) : V.evBody impl_InRange.E impl_InRange.con Tryz.f33 ((x0, x1, x2) : Int × Int × Int) = impl_InRange x0 x1 x2 := by kernel_rfl
theorem impl_InRange.ok : V.Valid Tryz.prog 33 impl_InRange.con :=
  V.fo V.tab_nil Tryz.func33 (by kernel_rfl) (fun x y h => (show V.evBody impl_InRange.E impl_InRange.con Tryz.f33 x = _ from impl_InRange.eq x.1 x.2.1 x.2.2).trans (V.cfl (by kernel_rfl) h))
noncomputable abbrev impl_isDigest.con : V.Con := ⟨(.cons (.int .i64) .nil), (.cons .bool .nil), fun (x : Int) => impl_isDigest x, [], [(false, 1)], [(false, 1)], [false], []⟩
noncomputable abbrev impl_isDigest.E : V.Env := V.mkE V.tys [(33, impl_InRange.con)] [] [] [] [] []
theorem impl_isDigest.eq (x0 : Int) : V.evBody impl_isDigest.E impl_isDigest.con Tryz.f88 ((x0) : Int) = impl_isDigest x0 := by kernel_rfl
theorem impl_isDigest.ok : V.Valid Tryz.prog 88 impl_isDigest.con :=
  V.fo (V.tab_cons impl_InRange.ok V.tab_nil) Tryz.func88 (by kernel_rfl) (fun x y h => (show V.evBody impl_isDigest.E impl_isDigest.con Tryz.f88 x = _ from impl_isDigest.eq x).trans (V.cfl (by kernel_rfl) h))
noncomputable abbrev impl_isSpan.con : V.Con := ⟨V.A0, (.cons .bool .nil), fun (x : V.D0) => impl_isSpan (V.p0_0 x), [], [(true, 16)], [(false, 1)], [false], []⟩
noncomputable abbrev impl_isSpan.E : V.Env := V.mkE V.tys [] [] [] [] [] []
noncomputable abbrev impl_isSpan.kt (x0 : THead) : V.Kt Bool := V.ktOf impl_isSpan.E impl_isSpan.con Tryz.f89 (V.fl0 x0)
noncomputable abbrev impl_isSpan.s (x0 : THead) : V.St := ⟨[(0, .v true (V.lsHead x0))], []⟩
theorem impl_isSpan.v0 (x0 : THead) : V.evBody impl_isSpan.E impl_isSpan.con Tryz.f89 (V.fl0 x0) = V.evC impl_isSpan.E Tryz.f89.ntmps (V.codeOf Tryz.f89) (impl_isSpan.kt x0) (impl_isSpan.s x0) := by kernel_rfl
theorem impl_isSpan.v (x0 : THead) : V.evC impl_isSpan.E Tryz.f89.ntmps (V.codeOf Tryz.f89) (impl_isSpan.kt x0) (impl_isSpan.s x0) = impl_isSpan x0 := by kernel_rfl
theorem impl_isSpan.eq (x0 : THead) : V.evBody impl_isSpan.E impl_isSpan.con Tryz.f89 (V.fl0 x0) = impl_isSpan x0 := (impl_isSpan.v0 x0).trans (impl_isSpan.v x0)
theorem impl_isSpan.ok : V.Valid Tryz.prog 89 impl_isSpan.con :=
  V.fo V.tab_nil Tryz.func89 (by kernel_rfl) (fun x y h => (show V.evBody impl_isSpan.E impl_isSpan.con Tryz.f89 x = _ from impl_isSpan.eq (V.p0_0 x)).trans (V.cfl (by kernel_rfl) h))
noncomputable abbrev impl_ascending.con : V.Con := ⟨(.cons (.sl (.cons (.int .i64) .nil)) .nil), (.cons .bool .nil), fun (x : List Int) => impl_ascending x, [], [(false, 1)], [(false, 1)], [false], []⟩
noncomputable abbrev impl_ascending.E : V.Env := V.mkE V.tys [] [(4, [0, 5, 6], [])] [(4, 12)] [] [] []
noncomputable abbrev impl_ascending.kt (x0 : List Int) : V.Kt Bool := V.ktOf impl_ascending.E impl_ascending.con Tryz.f118 ((x0) : List Int)
noncomputable abbrev impl_ascending.s4 (x0 : List Int) (v4_1 : Int) (v4_2 : Int) : V.St := ⟨[(0, .v false [.val (.sl (.cons (.int .i64) .nil) x0)]), (5, .v false [.val (.int .i64 v4_1)]), (6, .v false [.val (.int .i64 v4_2)])], []⟩
theorem impl_ascending.r4 (x0 : List Int) (R : V.St → Option Bool) (v4_1 : Int) (v4_2 : Int) : V.loopF impl_ascending.E Tryz.f118.ntmps [1, 0, 1, 0] [] (V.codeOf Tryz.f118) (impl_ascending.kt x0) R (impl_ascending.s4 x0 v4_1 v4_2) = impl_ascending.g4 x0 (fun v4_1 v4_2 => R (impl_ascending.s4 x0 v4_1 v4_2)) v4_1 v4_2 := by kernel_rfl
theorem impl_ascending.e4 (x0 : List Int) : ∀ (n : Nat) (v4_1 : Int) (v4_2 : Int), V.loopN (V.loopF impl_ascending.E Tryz.f118.ntmps [1, 0, 1, 0] [] (V.codeOf Tryz.f118) (impl_ascending.kt x0)) n (impl_ascending.s4 x0 v4_1 v4_2) = impl_ascending.l4 x0 n v4_1 v4_2 := by
  intro n
  induction n with
  | zero => intros; rw [V.loopN_z]; rfl
  | succ n ih =>
    intro v4_1 v4_2
    rw [V.loopN_s, impl_ascending.r4]
    simp only [ih]
    first | exact (impl_ascending.u4 ..).symm | rfl
theorem impl_ascending.v (x0 : List Int) : V.evBody impl_ascending.E impl_ascending.con Tryz.f118 ((x0) : List Int) = impl_ascending.b x0 (fun v4_1 v4_2 => V.loopN (V.loopF impl_ascending.E Tryz.f118.ntmps [1, 0, 1, 0] [] (V.codeOf Tryz.f118) (impl_ascending.kt x0)) V.KK (impl_ascending.s4 x0 v4_1 v4_2)) := by kernel_rfl
theorem impl_ascending.eq (x0 : List Int) : V.evBody impl_ascending.E impl_ascending.con Tryz.f118 ((x0) : List Int) = impl_ascending x0 := by
  rw [impl_ascending.v]
  simp only [impl_ascending.e4]
  rfl
theorem impl_ascending.ok : V.Valid Tryz.prog 118 impl_ascending.con :=
  V.fo V.tab_nil Tryz.func118 (by kernel_rfl) (fun x y h => (show V.evBody impl_ascending.E impl_ascending.con Tryz.f118 x = _ from impl_ascending.eq x).trans (V.cfl (by kernel_rfl) h))
noncomputable abbrev impl_isKey.con : V.Con := ⟨(.cons (.int .i64) .nil), (.cons .bool .nil), fun (x : Int) => impl_isKey x, [], [(false, 1)], [(false, 1)], [false], []⟩
noncomputable abbrev impl_isKey.E : V.Env := V.mkE V.tys [(33, impl_InRange.con)] [] [] [] [] []
theorem impl_isKey.eq (x0 : Int) : V.evBody impl_isKey.E impl_isKey.con Tryz.f119 ((x0) : Int) = impl_isKey x0 := by kernel_rfl
theorem impl_isKey.ok : V.Valid Tryz.prog 119 impl_isKey.con :=
  V.fo (V.tab_cons impl_InRange.ok V.tab_nil) Tryz.func119 (by kernel_rfl) (fun x y h => (show V.evBody impl_isKey.E impl_isKey.con Tryz.f119 x = _ from impl_isKey.eq x).trans (V.cfl (by kernel_rfl) h))
noncomputable abbrev impl_IsKeys.con : V.Con := ⟨(.cons (.sl (.cons (.int .i64) .nil)) (.cons (.int .i64) .nil)), (.cons .bool .nil), fun (x : List Int × Int) => impl_IsKeys x, [], [(true, 2)], [(false, 1)], [false], []⟩
noncomputable abbrev impl_IsKeys.E : V.Env := V.mkE V.tys [(33, impl_InRange.con), (118, impl_ascending.con), (119, impl_isKey.con)] [] [] [] [] []
theorem impl_IsKeys.eq (x0 : TKeys) : V.evBody impl_IsKeys.E impl_IsKeys.con Tryz.f90 ((x0.1, x0.2) : List Int × Int) = impl_IsKeys x0 := by kernel_rfl
theorem impl_IsKeys.ok : V.Valid Tryz.prog 90 impl_IsKeys.con :=
  V.fo (V.tab_cons impl_InRange.ok (V.tab_cons impl_ascending.ok (V.tab_cons impl_isKey.ok V.tab_nil))) Tryz.func90 (by kernel_rfl) (fun x y h => (show V.evBody impl_IsKeys.E impl_IsKeys.con Tryz.f90 x = _ from impl_IsKeys.eq x).trans (V.cfl (by kernel_rfl) h))
noncomputable abbrev impl_NoKeys.con : V.Con := ⟨(.cons (.sl (.cons (.int .i64) .nil)) (.cons (.int .i64) .nil)), (.cons .bool .nil), fun (x : List Int × Int) => impl_NoKeys x, [], [(true, 2)], [(false, 1)], [false], []⟩
noncomputable abbrev impl_NoKeys.E : V.Env := V.mkE V.tys [] [] [] [] [] []
theorem impl_NoKeys.eq (x0 : TKeys) : V.evBody impl_NoKeys.E impl_NoKeys.con Tryz.f93 ((x0.1, x0.2) : List Int × Int) = impl_NoKeys x0 := by kernel_rfl
theorem impl_NoKeys.ok : V.Valid Tryz.prog 93 impl_NoKeys.con :=
  V.fo V.tab_nil Tryz.func93 (by kernel_rfl) (fun x y h => (show V.evBody impl_NoKeys.E impl_NoKeys.con Tryz.f93 x = _ from impl_NoKeys.eq x).trans (V.cfl (by kernel_rfl) h))
noncomputable abbrev impl_isMaybe.con : V.Con := ⟨(.cons (.sl (.cons (.int .i64) .nil)) (.cons (.int .i64) .nil)), (.cons .bool .nil), fun (x : List Int × Int) => impl_isMaybe x, [], [(true, 2)], [(false, 1)], [false], []⟩
noncomputable abbrev impl_isMaybe.E : V.Env := V.mkE V.tys [(90, impl_IsKeys.con), (93, impl_NoKeys.con)] [] [] [] [] []
theorem impl_isMaybe.eq (x0 : TKeys) : V.evBody impl_isMaybe.E impl_isMaybe.con Tryz.f91 ((x0.1, x0.2) : List Int × Int) = impl_isMaybe x0 := by kernel_rfl
theorem impl_isMaybe.ok : V.Valid Tryz.prog 91 impl_isMaybe.con :=
  V.fo (V.tab_cons impl_IsKeys.ok (V.tab_cons impl_NoKeys.ok V.tab_nil)) Tryz.func91 (by kernel_rfl) (fun x y h => (show V.evBody impl_isMaybe.E impl_isMaybe.con Tryz.f91 x = _ from impl_isMaybe.eq x).trans (V.cfl (by kernel_rfl) h))
noncomputable abbrev impl_isWait.con : V.Con := ⟨(.cons (.int .i64) (.cons (.sl (.cons (.int .i64) .nil)) (.cons (.int .i64) .nil))), (.cons .bool .nil), fun (x : Int × List Int × Int) => impl_isWait x.1 x.2, [], [(false, 1), (true, 2)], [(false, 1)], [false], []⟩
noncomputable abbrev impl_isWait.E : V.Env := V.mkE V.tys [(33, impl_InRange.con), (93, impl_NoKeys.con)] [] [] [] [] []
theorem impl_isWait.eq (x0 : Int) (x1 : TKeys) : V.evBody impl_isWait.E impl_isWait.con Tryz.f92 ((x0, x1.1, x1.2) : Int × List Int × Int) = impl_isWait x0 x1 := by kernel_rfl
theorem impl_isWait.ok : V.Valid Tryz.prog 92 impl_isWait.con :=
  V.fo (V.tab_cons impl_InRange.ok (V.tab_cons impl_NoKeys.ok V.tab_nil)) Tryz.func92 (by kernel_rfl) (fun x y h => (show V.evBody impl_isWait.E impl_isWait.con Tryz.f92 x = _ from impl_isWait.eq x.1 x.2).trans (V.cfl (by kernel_rfl) h))
noncomputable abbrev impl_IsHead.con : V.Con := ⟨V.A0, (.cons .bool .nil), fun (x : V.D0) => impl_IsHead (V.p0_0 x), [], [(true, 16)], [(false, 1)], [false], []⟩
noncomputable abbrev impl_IsHead.E : V.Env := V.mkE V.tys [(33, impl_InRange.con), (88, impl_isDigest.con), (89, impl_isSpan.con), (90, impl_IsKeys.con), (91, impl_isMaybe.con), (92, impl_isWait.con), (93, impl_NoKeys.con)] [] [] [] [] []
noncomputable abbrev impl_IsHead.kt (x0 : THead) : V.Kt Bool := V.ktOf impl_IsHead.E impl_IsHead.con Tryz.f56 (V.fl0 x0)
noncomputable abbrev impl_IsHead.s (x0 : THead) : V.St := ⟨[(0, .v true (V.lsHead x0))], []⟩
theorem impl_IsHead.v0 (x0 : THead) : V.evBody impl_IsHead.E impl_IsHead.con Tryz.f56 (V.fl0 x0) = V.evC impl_IsHead.E Tryz.f56.ntmps (V.codeOf Tryz.f56) (impl_IsHead.kt x0) (impl_IsHead.s x0) := by kernel_rfl
theorem impl_IsHead.v (x0 : THead) : V.evC impl_IsHead.E Tryz.f56.ntmps (V.codeOf Tryz.f56) (impl_IsHead.kt x0) (impl_IsHead.s x0) = impl_IsHead x0 := by kernel_rfl
theorem impl_IsHead.eq (x0 : THead) : V.evBody impl_IsHead.E impl_IsHead.con Tryz.f56 (V.fl0 x0) = impl_IsHead x0 := (impl_IsHead.v0 x0).trans (impl_IsHead.v x0)
theorem impl_IsHead.ok : V.Valid Tryz.prog 56 impl_IsHead.con :=
  V.fo (V.tab_cons impl_InRange.ok (V.tab_cons impl_isDigest.ok (V.tab_cons impl_isSpan.ok (V.tab_cons impl_IsKeys.ok (V.tab_cons impl_isMaybe.ok (V.tab_cons impl_isWait.ok (V.tab_cons impl_NoKeys.ok V.tab_nil))))))) Tryz.func56 (by kernel_rfl) (fun x y h => (show V.evBody impl_IsHead.E impl_IsHead.con Tryz.f56 x = _ from impl_IsHead.eq (V.p0_0 x)).trans (V.cfl (by kernel_rfl) h))
noncomputable abbrev impl_KeysInts.con : V.Con := ⟨(.cons (.sl (.cons (.int .i64) .nil)) (.cons (.int .i64) .nil)), (.cons (.sl (.cons (.int .i64) .nil)) .nil), fun (x : List Int × Int) => impl_KeysInts x, [], [(true, 2)], [(false, 1)], [true], []⟩
noncomputable abbrev impl_KeysInts.E : V.Env := V.mkE V.tys [] [] [] [] [] []
theorem impl_KeysInts.eq (x0 : TKeys) : V.evBody impl_KeysInts.E impl_KeysInts.con Tryz.f73 ((x0.1, x0.2) : List Int × Int) = impl_KeysInts x0 := by kernel_rfl
theorem impl_KeysInts.ok : V.Valid Tryz.prog 73 impl_KeysInts.con :=
  V.fo V.tab_nil Tryz.func73 (by kernel_rfl) (fun x y h => (show V.evBody impl_KeysInts.E impl_KeysInts.con Tryz.f73 x = _ from impl_KeysInts.eq x).trans (V.cfl (by kernel_rfl) h))
noncomputable abbrev impl_Mod.con : V.Con := ⟨(.cons (.int .i64) (.cons (.int .i64) .nil)), (.cons (.int .i64) .nil), fun (x : Int × Int) => impl_Mod x.1 x.2, [], [(false, 1), (false, 1)], [(false, 1)], [false], []⟩
noncomputable abbrev impl_Mod.E : V.Env := V.mkE V.tys [(33, impl_InRange.con)] [] [] [] [] []
theorem impl_Mod.eq (x0 : Int) (x1 : Int) : V.evBody impl_Mod.E impl_Mod.con Tryz.f122 ((x0, x1) : Int × Int) = impl_Mod x0 x1 := by kernel_rfl
theorem impl_Mod.ok : V.Valid Tryz.prog 122 impl_Mod.con :=
  V.fo (V.tab_cons impl_InRange.ok V.tab_nil) Tryz.func122 (by kernel_rfl) (fun x y h => (show V.evBody impl_Mod.E impl_Mod.con Tryz.f122 x = _ from impl_Mod.eq x.1 x.2).trans (V.cfl (by kernel_rfl) h))
noncomputable abbrev impl_Hash.con : V.Con := ⟨(.cons (.sl (.cons (.int .i64) .nil)) .nil), (.cons (.int .i64) .nil), fun (x : List Int) => impl_Hash x, [], [(false, 1)], [(false, 1)], [false], []⟩
noncomputable abbrev impl_Hash.E : V.Env := V.mkE V.tys [(122, impl_Mod.con)] [(6, [3, 6, 7, 8], [])] [] [] [] []
noncomputable abbrev impl_Hash.kt (x0 : List Int) : V.Kt Int := V.ktOf impl_Hash.E impl_Hash.con Tryz.f101 ((x0) : List Int)
noncomputable abbrev impl_Hash.s6 (x0 : List Int) (v6_0 : Int) (v6_2 : Int) (v6_3 : Int) : V.St := ⟨[(3, .v false [.val (.int .i64 v6_0)]), (6, .v false [.val (.sl (.cons (.int .i64) .nil) x0)]), (7, .v false [.val (.int .i64 v6_2)]), (8, .v false [.val (.int .i64 v6_3)])], []⟩
theorem impl_Hash.r6 (x0 : List Int) (R : V.St → Option Int) (v6_0 : Int) (v6_2 : Int) (v6_3 : Int) : V.loopF impl_Hash.E Tryz.f101.ntmps [1, 1, 0, 1, 0] [] (V.codeOf Tryz.f101) (impl_Hash.kt x0) R (impl_Hash.s6 x0 v6_0 v6_2 v6_3) = impl_Hash.g6 x0 (fun v6_0 v6_2 v6_3 => R (impl_Hash.s6 x0 v6_0 v6_2 v6_3)) v6_0 v6_2 v6_3 := by kernel_rfl
theorem impl_Hash.e6 (x0 : List Int) : ∀ (n : Nat) (v6_0 : Int) (v6_2 : Int) (v6_3 : Int), V.loopN (V.loopF impl_Hash.E Tryz.f101.ntmps [1, 1, 0, 1, 0] [] (V.codeOf Tryz.f101) (impl_Hash.kt x0)) n (impl_Hash.s6 x0 v6_0 v6_2 v6_3) = impl_Hash.l6 x0 n v6_0 v6_2 v6_3 := by
  intro n
  induction n with
  | zero => intros; rw [V.loopN_z]; rfl
  | succ n ih =>
    intro v6_0 v6_2 v6_3
    rw [V.loopN_s, impl_Hash.r6]
    simp only [ih]
    first | exact (impl_Hash.u6 ..).symm | rfl
theorem impl_Hash.v (x0 : List Int) : V.evBody impl_Hash.E impl_Hash.con Tryz.f101 ((x0) : List Int) = impl_Hash.b x0 (fun v6_0 v6_2 v6_3 => V.loopN (V.loopF impl_Hash.E Tryz.f101.ntmps [1, 1, 0, 1, 0] [] (V.codeOf Tryz.f101) (impl_Hash.kt x0)) V.KK (impl_Hash.s6 x0 v6_0 v6_2 v6_3)) := by kernel_rfl
theorem impl_Hash.eq (x0 : List Int) : V.evBody impl_Hash.E impl_Hash.con Tryz.f101 ((x0) : List Int) = impl_Hash x0 := by
  rw [impl_Hash.v]
  simp only [impl_Hash.e6]
  rfl
theorem impl_Hash.ok : V.Valid Tryz.prog 101 impl_Hash.con :=
  V.fo (V.tab_cons impl_Mod.ok V.tab_nil) Tryz.func101 (by kernel_rfl) (fun x y h => (show V.evBody impl_Hash.E impl_Hash.con Tryz.f101 x = _ from impl_Hash.eq x).trans (V.cfl (by kernel_rfl) h))
noncomputable abbrev impl_ZoneOf.con : V.Con := ⟨(.cons (.sl (.cons (.int .i64) .nil)) (.cons (.int .i64) (.cons (.int .i64) .nil))), (.cons (.int .i64) .nil), fun (x : List Int × Int × Int) => impl_ZoneOf (x.1, x.2.1) x.2.2, [], [(true, 2), (false, 1)], [(false, 1)], [false], []⟩
noncomputable abbrev impl_ZoneOf.E : V.Env := V.mkE V.tys [(73, impl_KeysInts.con), (101, impl_Hash.con)] [] [] [] [] []
theorem impl_ZoneOf.eq (x0 : TKeys) (x1 : Int) : V.evBody impl_ZoneOf.E impl_ZoneOf.con Tryz.f67 ((x0.1, x0.2, x1) : List Int × Int × Int) = impl_ZoneOf x0 x1 := by kernel_rfl
theorem impl_ZoneOf.ok : V.Valid Tryz.prog 67 impl_ZoneOf.con :=
  V.fo (V.tab_cons impl_KeysInts.ok (V.tab_cons impl_Hash.ok V.tab_nil)) Tryz.func67 (by kernel_rfl) (fun x y h => (show V.evBody impl_ZoneOf.E impl_ZoneOf.con Tryz.f67 x = _ from impl_ZoneOf.eq (x.1, x.2.1) x.2.2).trans (V.cfl (by kernel_rfl) h))
noncomputable abbrev impl_bit.con : V.Con := ⟨(.cons .bool .nil), (.cons (.int .i64) .nil), fun (x : Bool) => impl_bit x, [], [(false, 1)], [(false, 1)], [false], []⟩
noncomputable abbrev impl_bit.E : V.Env := V.mkE V.tys [] [] [] [] [] []
theorem impl_bit.eq (x0 : Bool) : V.evBody impl_bit.E impl_bit.con Tryz.f74 ((x0) : Bool) = impl_bit x0 := by kernel_rfl
theorem impl_bit.ok : V.Valid Tryz.prog 74 impl_bit.con :=
  V.fo V.tab_nil Tryz.func74 (by kernel_rfl) (fun x y h => (show V.evBody impl_bit.E impl_bit.con Tryz.f74 x = _ from impl_bit.eq x).trans (V.cfl (by kernel_rfl) h))
noncomputable abbrev slices_Grow_int.con : V.Con := ⟨(.cons (.sl (.cons (.int .i64) .nil)) (.cons (.int .i64) .nil)), (.cons (.sl (.cons (.int .i64) .nil)) .nil), fun (x : List Int × Int) => slices_Grow_int x.1 x.2, [], [(false, 1), (false, 1)], [(false, 1)], [true], [0]⟩
noncomputable abbrev slices_Grow_int.E : V.Env := V.mkE V.tys [] [(7, [0, 1], [])] [] [] [] []
noncomputable abbrev slices_Grow_int.kt (x0 : List Int) (x1 : Int) : V.Kt (List Int) := V.ktOf slices_Grow_int.E slices_Grow_int.con Tryz.f103 ((x0, x1) : List Int × Int)
noncomputable abbrev slices_Grow_int.s7 (x1 : Int) : V.St := ⟨[(0, .v false [.nil0]), (1, .v false [.val (.int .i64 x1)])], []⟩
theorem slices_Grow_int.r7 (x0 : List Int) (x1 : Int) : V.joinF slices_Grow_int.E Tryz.f103.ntmps [1] [] (V.codeOf Tryz.f103) (slices_Grow_int.kt x0 x1) (slices_Grow_int.s7 x1) = slices_Grow_int.g7 x1 := by kernel_rfl
theorem slices_Grow_int.e7 (x0 : List Int) (x1 : Int) : V.jn (V.joinF slices_Grow_int.E Tryz.f103.ntmps [1] [] (V.codeOf Tryz.f103) (slices_Grow_int.kt x0 x1)) (slices_Grow_int.s7 x1) = slices_Grow_int.l7 x1 := by
  rw [V.jn_eq, slices_Grow_int.r7]
  rfl
theorem slices_Grow_int.v (x0 : List Int) (x1 : Int) : V.evBody slices_Grow_int.E slices_Grow_int.con Tryz.f103 ((x0, x1) : List Int × Int) = slices_Grow_int.b x0 x1 (V.jn (V.joinF slices_Grow_int.E Tryz.f103.ntmps [1] [] (V.codeOf Tryz.f103) (slices_Grow_int.kt x0 x1)) (slices_Grow_int.s7 x1)) := by kernel_rfl
theorem slices_Grow_int.eq (x0 : List Int) (x1 : Int) : V.evBody slices_Grow_int.E slices_Grow_int.con Tryz.f103 ((x0, x1) : List Int × Int) = slices_Grow_int x0 x1 := by
  rw [slices_Grow_int.v]
  simp only [slices_Grow_int.e7]
  rfl
theorem slices_Grow_int.ok : V.Valid Tryz.prog 103 slices_Grow_int.con :=
  V.fo V.tab_nil Tryz.func103 (by kernel_rfl) (fun x y h => (show V.evBody slices_Grow_int.E slices_Grow_int.con Tryz.f103 x = _ from slices_Grow_int.eq x.1 x.2).trans (V.cfl (by kernel_rfl) h))
noncomputable abbrev slices_Concat_int.con : V.Con := ⟨(.cons (.sl (.cons (.sl (.cons (.int .i64) .nil)) .nil)) .nil), (.cons (.sl (.cons (.int .i64) .nil)) .nil), fun (x : List (List Int)) => slices_Concat_int x, [], [(false, 1)], [(false, 1)], [true], []⟩
noncomputable abbrev slices_Concat_int.E : V.Env := V.mkE V.tys [(103, slices_Grow_int.con)] [(6, [0, 3, 9, 10, 11], []), (22, [6, 25, 26, 27], [])] [] [] [] []
noncomputable abbrev slices_Concat_int.kt (x0 : List (List Int)) : V.Kt (List Int) := V.ktOf slices_Concat_int.E slices_Concat_int.con Tryz.f72 ((x0) : List (List Int))
noncomputable abbrev slices_Concat_int.s22 (x0 : List (List Int)) (v22_1 : Int) (v22_2 : Int) (v22_3 : List Int) : V.St := ⟨[(6, .v false [.ref 64000140800384]), (25, .v false [.val (.sl (.cons (.sl (.cons (.int .i64) .nil)) .nil) x0)]), (26, .v false [.val (.int .i64 v22_1)]), (27, .v false [.val (.int .i64 v22_2)])], [(64000140800384, .row (.cons (.int .i64) .nil) true v22_3)]⟩
noncomputable abbrev slices_Concat_int.s6 (x0 : List (List Int)) (v6_1 : Int) (v6_3 : Int) (v6_4 : Int) : V.St := ⟨[(0, .v false [.val (.sl (.cons (.sl (.cons (.int .i64) .nil)) .nil) x0)]), (3, .v false [.val (.int .i64 v6_1)]), (9, .v false [.val (.sl (.cons (.sl (.cons (.int .i64) .nil)) .nil) x0)]), (10, .v false [.val (.int .i64 v6_3)]), (11, .v false [.val (.int .i64 v6_4)])], []⟩
theorem slices_Concat_int.r22 (x0 : List (List Int)) (R : V.St → Option (List Int)) (v22_1 : Int) (v22_2 : Int) (v22_3 : List Int) : V.loopF slices_Concat_int.E Tryz.f72.ntmps [1, 1, 1, 1, 0, 1, 0] [] (V.codeOf Tryz.f72) (slices_Concat_int.kt x0) R (slices_Concat_int.s22 x0 v22_1 v22_2 v22_3) = slices_Concat_int.g22 x0 (fun v22_1 v22_2 v22_3 => R (slices_Concat_int.s22 x0 v22_1 v22_2 v22_3)) v22_1 v22_2 v22_3 := by kernel_rfl
theorem slices_Concat_int.e22 (x0 : List (List Int)) : ∀ (n : Nat) (v22_1 : Int) (v22_2 : Int) (v22_3 : List Int), V.loopN (V.loopF slices_Concat_int.E Tryz.f72.ntmps [1, 1, 1, 1, 0, 1, 0] [] (V.codeOf Tryz.f72) (slices_Concat_int.kt x0)) n (slices_Concat_int.s22 x0 v22_1 v22_2 v22_3) = slices_Concat_int.l22 x0 n v22_1 v22_2 v22_3 := by
  intro n
  induction n with
  | zero => intros; rw [V.loopN_z]; rfl
  | succ n ih =>
    intro v22_1 v22_2 v22_3
    rw [V.loopN_s, slices_Concat_int.r22]
    simp only [ih]
    first | exact (slices_Concat_int.u22 ..).symm | rfl
theorem slices_Concat_int.r6 (x0 : List (List Int)) (R : V.St → Option (List Int)) (v6_1 : Int) (v6_3 : Int) (v6_4 : Int) : V.loopF slices_Concat_int.E Tryz.f72.ntmps [1, 1, 0, 1, 0] [] (V.codeOf Tryz.f72) (slices_Concat_int.kt x0) R (slices_Concat_int.s6 x0 v6_1 v6_3 v6_4) = slices_Concat_int.g6 x0 (fun v6_1 v6_3 v6_4 => R (slices_Concat_int.s6 x0 v6_1 v6_3 v6_4)) (fun v22_1 v22_2 v22_3 => V.loopN (V.loopF slices_Concat_int.E Tryz.f72.ntmps [1, 1, 1, 1, 0, 1, 0] [] (V.codeOf Tryz.f72) (slices_Concat_int.kt x0)) V.KK (slices_Concat_int.s22 x0 v22_1 v22_2 v22_3)) v6_1 v6_3 v6_4 := by kernel_rfl
theorem slices_Concat_int.e6 (x0 : List (List Int)) : ∀ (n : Nat) (v6_1 : Int) (v6_3 : Int) (v6_4 : Int), V.loopN (V.loopF slices_Concat_int.E Tryz.f72.ntmps [1, 1, 0, 1, 0] [] (V.codeOf Tryz.f72) (slices_Concat_int.kt x0)) n (slices_Concat_int.s6 x0 v6_1 v6_3 v6_4) = slices_Concat_int.l6 x0 n v6_1 v6_3 v6_4 := by
  intro n
  induction n with
  | zero => intros; rw [V.loopN_z]; rfl
  | succ n ih =>
    intro v6_1 v6_3 v6_4
    rw [V.loopN_s, slices_Concat_int.r6]
    simp only [slices_Concat_int.e22, ih]
    first | exact (slices_Concat_int.u6 ..).symm | rfl
theorem slices_Concat_int.v (x0 : List (List Int)) : V.evBody slices_Concat_int.E slices_Concat_int.con Tryz.f72 ((x0) : List (List Int)) = slices_Concat_int.b x0 (fun v6_1 v6_3 v6_4 => V.loopN (V.loopF slices_Concat_int.E Tryz.f72.ntmps [1, 1, 0, 1, 0] [] (V.codeOf Tryz.f72) (slices_Concat_int.kt x0)) V.KK (slices_Concat_int.s6 x0 v6_1 v6_3 v6_4)) := by kernel_rfl
theorem slices_Concat_int.eq (x0 : List (List Int)) : V.evBody slices_Concat_int.E slices_Concat_int.con Tryz.f72 ((x0) : List (List Int)) = slices_Concat_int x0 := by
  rw [slices_Concat_int.v]
  simp only [slices_Concat_int.e6]
  rfl
theorem slices_Concat_int.ok : V.Valid Tryz.prog 72 slices_Concat_int.con :=
  V.fo (V.tab_cons slices_Grow_int.ok V.tab_nil) Tryz.func72 (by kernel_rfl) (fun x y h => (show V.evBody slices_Concat_int.E slices_Concat_int.con Tryz.f72 x = _ from slices_Concat_int.eq x).trans (V.cfl (by kernel_rfl) h))
noncomputable abbrev impl_HeadInts.con : V.Con := ⟨V.A0, (.cons (.sl (.cons (.int .i64) .nil)) .nil), fun (x : V.D0) => impl_HeadInts (V.p0_0 x), [], [(true, 16)], [(false, 1)], [true], []⟩
noncomputable abbrev impl_HeadInts.E : V.Env := V.mkE V.tys [(72, slices_Concat_int.con), (73, impl_KeysInts.con), (74, impl_bit.con)] [] [(1, 33)] [] [] []
noncomputable abbrev impl_HeadInts.kt (x0 : THead) : V.Kt (List Int) := V.ktOf impl_HeadInts.E impl_HeadInts.con Tryz.f44 (V.fl0 x0)
noncomputable abbrev impl_HeadInts.s (x0 : THead) : V.St := ⟨[(0, .v true (V.lsHead x0))], []⟩
theorem impl_HeadInts.v0 (x0 : THead) : V.evBody impl_HeadInts.E impl_HeadInts.con Tryz.f44 (V.fl0 x0) = V.evC impl_HeadInts.E Tryz.f44.ntmps (V.codeOf Tryz.f44) (impl_HeadInts.kt x0) (impl_HeadInts.s x0) := by kernel_rfl
theorem impl_HeadInts.v (x0 : THead) : V.evC impl_HeadInts.E Tryz.f44.ntmps (V.codeOf Tryz.f44) (impl_HeadInts.kt x0) (impl_HeadInts.s x0) = impl_HeadInts x0 := by kernel_rfl
theorem impl_HeadInts.eq (x0 : THead) : V.evBody impl_HeadInts.E impl_HeadInts.con Tryz.f44 (V.fl0 x0) = impl_HeadInts x0 := (impl_HeadInts.v0 x0).trans (impl_HeadInts.v x0)
theorem impl_HeadInts.ok : V.Valid Tryz.prog 44 impl_HeadInts.con :=
  V.fo (V.tab_cons slices_Concat_int.ok (V.tab_cons impl_KeysInts.ok (V.tab_cons impl_bit.ok V.tab_nil))) Tryz.func44 (by kernel_rfl) (fun x y h => (show V.evBody impl_HeadInts.E impl_HeadInts.con Tryz.f44 x = _ from impl_HeadInts.eq (V.p0_0 x)).trans (V.cfl (by kernel_rfl) h))
noncomputable abbrev impl_KeyedHash.con : V.Con := ⟨(.cons (.int .i64) (.cons (.sl (.cons (.int .i64) .nil)) .nil)), (.cons (.int .i64) .nil), fun (x : Int × List Int) => impl_KeyedHash x.1 x.2, [], [(false, 1), (false, 1)], [(false, 1)], [false], []⟩
noncomputable abbrev impl_KeyedHash.E : V.Env := V.mkE V.tys [(72, slices_Concat_int.con), (101, impl_Hash.con)] [] [] [128320] [] []
theorem impl_KeyedHash.eq (x0 : Int) (x1 : List Int) : V.evBody impl_KeyedHash.E impl_KeyedHash.con Tryz.f139 ((x0, x1) : Int × List Int) = impl_KeyedHash x0 x1 := by kernel_rfl
theorem impl_KeyedHash.ok : V.Valid Tryz.prog 139 impl_KeyedHash.con :=
  V.fo (V.tab_cons slices_Concat_int.ok (V.tab_cons impl_Hash.ok V.tab_nil)) Tryz.func139 (by kernel_rfl) (fun x y h => (show V.evBody impl_KeyedHash.E impl_KeyedHash.con Tryz.f139 x = _ from impl_KeyedHash.eq x.1 x.2).trans (V.cfl (by kernel_rfl) h))
noncomputable abbrev impl_TagOf.con : V.Con := ⟨(.cons (.int .i64) (.cons (.sl (.cons (.int .i64) .nil)) .nil)), (.cons (.int .i64) .nil), fun (x : Int × List Int) => impl_TagOf x.1 x.2, [], [(false, 1), (false, 1)], [(false, 1)], [false], []⟩
noncomputable abbrev impl_TagOf.E : V.Env := V.mkE V.tys [(139, impl_KeyedHash.con)] [] [] [] [] []
theorem impl_TagOf.eq (x0 : Int) (x1 : List Int) : V.evBody impl_TagOf.E impl_TagOf.con Tryz.f137 ((x0, x1) : Int × List Int) = impl_TagOf x0 x1 := by kernel_rfl
theorem impl_TagOf.ok : V.Valid Tryz.prog 137 impl_TagOf.con :=
  V.fo (V.tab_cons impl_KeyedHash.ok V.tab_nil) Tryz.func137 (by kernel_rfl) (fun x y h => (show V.evBody impl_TagOf.E impl_TagOf.con Tryz.f137 x = _ from impl_TagOf.eq x.1 x.2).trans (V.cfl (by kernel_rfl) h))
noncomputable abbrev impl_IsSigBy.con : V.Con := ⟨(.cons (.int .i64) (.cons (.int .i64) (.cons (.sl (.cons (.int .i64) .nil)) .nil))), (.cons .bool .nil), fun (x : Int × Int × List Int) => impl_IsSigBy (x.1, x.2.1) x.2.2, [], [(true, 2), (false, 1)], [(false, 1)], [false], []⟩
noncomputable abbrev impl_IsSigBy.E : V.Env := V.mkE V.tys [(119, impl_isKey.con), (137, impl_TagOf.con)] [] [(1, 10)] [] [] []
theorem impl_IsSigBy.eq (x0 : TSig) (x1 : List Int) : V.evBody impl_IsSigBy.E impl_IsSigBy.con Tryz.f132 ((x0.1, x0.2, x1) : Int × Int × List Int) = impl_IsSigBy x0 x1 := by kernel_rfl
theorem impl_IsSigBy.ok : V.Valid Tryz.prog 132 impl_IsSigBy.con :=
  V.fo (V.tab_cons impl_isKey.ok (V.tab_cons impl_TagOf.ok V.tab_nil)) Tryz.func132 (by kernel_rfl) (fun x y h => (show V.evBody impl_IsSigBy.E impl_IsSigBy.con Tryz.f132 x = _ from impl_IsSigBy.eq (x.1, x.2.1) x.2.2).trans (V.cfl (by kernel_rfl) h))
noncomputable abbrev impl_CountSigs_1.con : V.Con := ⟨(.cons (.int .i64) (.cons (.int .i64) (.cons (.ptr (.cons (.int .i64) .nil)) (.cons (.ptr (.cons (.sl (.cons (.int .i64) .nil)) .nil)) .nil)))), (.cons .bool .nil), fun (x : Int × Int × Int × List Int) => impl_CountSigs_1 (x.1, x.2.1) x.2.2.1 x.2.2.2, [], [(true, 2), (false, 1), (false, 1)], [(false, 1)], [false], []⟩
noncomputable abbrev impl_CountSigs_1.E : V.Env := V.mkE V.tys [(132, impl_IsSigBy.con)] [] [] [] [] []
theorem impl_CountSigs_1.eq (x0 : TSig) (x1 : Int) (x2 : List Int) : V.evBody impl_CountSigs_1.E impl_CountSigs_1.con Tryz.f131 ((x0.1, x0.2, x1, x2) : Int × Int × Int × List Int) = impl_CountSigs_1 x0 x1 x2 := by kernel_rfl
theorem impl_CountSigs_1.ok : V.Valid Tryz.prog 131 impl_CountSigs_1.con :=
  V.fo (V.tab_cons impl_IsSigBy.ok V.tab_nil) Tryz.func131 (by kernel_rfl) (fun x y h => (show V.evBody impl_CountSigs_1.E impl_CountSigs_1.con Tryz.f131 x = _ from impl_CountSigs_1.eq (x.1, x.2.1) x.2.2.1 x.2.2.2).trans (V.cfl (by kernel_rfl) h))
noncomputable abbrev slices_IndexFunc_impl_Sig__CountSigs_1.con : V.Con := ⟨(.cons (.sl (.cons (.int .i64) (.cons (.int .i64) .nil))) (.cons (.fn 131 false .nil (.cons (.ptr (.cons (.int .i64) .nil)) (.cons (.ptr (.cons (.sl (.cons (.int .i64) .nil)) .nil)) .nil))) .nil)), (.cons (.int .i64) .nil), fun (x : List TSig × (Unit) × (Int × List Int)) => slices_IndexFunc_impl_Sig__CountSigs_1 x.1 x.2, [], [(false, 1), (false, 1)], [(false, 1)], [false], []⟩
noncomputable abbrev slices_IndexFunc_impl_Sig__CountSigs_1.E : V.Env := V.mkE V.tys [(131, impl_CountSigs_1.con)] [(4, [0, 1, 7, 8], [])] [] [] [] []
noncomputable abbrev slices_IndexFunc_impl_Sig__CountSigs_1.kt (x0 : List TSig) (x1 : (Unit) × (Int × List Int)) : V.Kt Int := V.ktOf slices_IndexFunc_impl_Sig__CountSigs_1.E slices_IndexFunc_impl_Sig__CountSigs_1.con Tryz.f136 ((x0, x1) : List TSig × (Unit) × (Int × List Int))
noncomputable abbrev slices_IndexFunc_impl_Sig__CountSigs_1.s4 (x0 : List TSig) (x1 : (Unit) × (Int × List Int)) (v4_2 : Int) (v4_3 : Int) : V.St := ⟨[(0, .v false [.val (.sl (.cons (.int .i64) (.cons (.int .i64) .nil)) x0)]), (1, .v false [.val (.fn 131 false .nil (.cons (.ptr (.cons (.int .i64) .nil)) (.cons (.ptr (.cons (.sl (.cons (.int .i64) .nil)) .nil)) .nil)) () x1.2)]), (7, .v false [.val (.int .i64 v4_2)]), (8, .v false [.val (.int .i64 v4_3)])], []⟩
theorem slices_IndexFunc_impl_Sig__CountSigs_1.r4 (x0 : List TSig) (x1 : (Unit) × (Int × List Int)) (R : V.St → Option Int) (v4_2 : Int) (v4_3 : Int) : V.loopF slices_IndexFunc_impl_Sig__CountSigs_1.E Tryz.f136.ntmps [1, 0, 1, 0] [] (V.codeOf Tryz.f136) (slices_IndexFunc_impl_Sig__CountSigs_1.kt x0 x1) R (slices_IndexFunc_impl_Sig__CountSigs_1.s4 x0 x1 v4_2 v4_3) = slices_IndexFunc_impl_Sig__CountSigs_1.g4 x0 x1 (fun v4_2 v4_3 => R (slices_IndexFunc_impl_Sig__CountSigs_1.s4 x0 x1 v4_2 v4_3)) v4_2 v4_3 := by kernel_rfl
theorem slices_IndexFunc_impl_Sig__CountSigs_1.e4 (x0 : List TSig) (x1 : (Unit) × (Int × List Int)) : ∀ (n : Nat) (v4_2 : Int) (v4_3 : Int), V.loopN (V.loopF slices_IndexFunc_impl_Sig__CountSigs_1.E Tryz.f136.ntmps [1, 0, 1, 0] [] (V.codeOf Tryz.f136) (slices_IndexFunc_impl_Sig__CountSigs_1.kt x0 x1)) n (slices_IndexFunc_impl_Sig__CountSigs_1.s4 x0 x1 v4_2 v4_3) = slices_IndexFunc_impl_Sig__CountSigs_1.l4 x0 x1 n v4_2 v4_3 := by
  intro n
  induction n with
  | zero => intros; rw [V.loopN_z]; rfl
  | succ n ih =>
    intro v4_2 v4_3
    rw [V.loopN_s, slices_IndexFunc_impl_Sig__CountSigs_1.r4]
    simp only [ih]
    first | exact (slices_IndexFunc_impl_Sig__CountSigs_1.u4 ..).symm | rfl
theorem slices_IndexFunc_impl_Sig__CountSigs_1.v (x0 : List TSig) (x1 : (Unit) × (Int × List Int)) : V.evBody slices_IndexFunc_impl_Sig__CountSigs_1.E slices_IndexFunc_impl_Sig__CountSigs_1.con Tryz.f136 ((x0, x1) : List TSig × (Unit) × (Int × List Int)) = slices_IndexFunc_impl_Sig__CountSigs_1.b x0 x1 (fun v4_2 v4_3 => V.loopN (V.loopF slices_IndexFunc_impl_Sig__CountSigs_1.E Tryz.f136.ntmps [1, 0, 1, 0] [] (V.codeOf Tryz.f136) (slices_IndexFunc_impl_Sig__CountSigs_1.kt x0 x1)) V.KK (slices_IndexFunc_impl_Sig__CountSigs_1.s4 x0 x1 v4_2 v4_3)) := by kernel_rfl
theorem slices_IndexFunc_impl_Sig__CountSigs_1.eq (x0 : List TSig) (x1 : (Unit) × (Int × List Int)) : V.evBody slices_IndexFunc_impl_Sig__CountSigs_1.E slices_IndexFunc_impl_Sig__CountSigs_1.con Tryz.f136 ((x0, x1) : List TSig × (Unit) × (Int × List Int)) = slices_IndexFunc_impl_Sig__CountSigs_1 x0 x1 := by
  rw [slices_IndexFunc_impl_Sig__CountSigs_1.v]
  simp only [slices_IndexFunc_impl_Sig__CountSigs_1.e4]
  rfl
theorem slices_IndexFunc_impl_Sig__CountSigs_1.ok : V.Valid Tryz.prog 136 slices_IndexFunc_impl_Sig__CountSigs_1.con :=
  V.fo (V.tab_cons impl_CountSigs_1.ok V.tab_nil) Tryz.func136 (by kernel_rfl) (fun x y h => (show V.evBody slices_IndexFunc_impl_Sig__CountSigs_1.E slices_IndexFunc_impl_Sig__CountSigs_1.con Tryz.f136 x = _ from slices_IndexFunc_impl_Sig__CountSigs_1.eq x.1 x.2).trans (V.cfl (by kernel_rfl) h))
noncomputable abbrev slices_ContainsFunc_impl_Sig__CountSigs_1.con : V.Con := ⟨(.cons (.sl (.cons (.int .i64) (.cons (.int .i64) .nil))) (.cons (.fn 131 false .nil (.cons (.ptr (.cons (.int .i64) .nil)) (.cons (.ptr (.cons (.sl (.cons (.int .i64) .nil)) .nil)) .nil))) .nil)), (.cons .bool .nil), fun (x : List TSig × (Unit) × (Int × List Int)) => slices_ContainsFunc_impl_Sig__CountSigs_1 x.1 x.2, [], [(false, 1), (false, 1)], [(false, 1)], [false], []⟩
noncomputable abbrev slices_ContainsFunc_impl_Sig__CountSigs_1.E : V.Env := V.mkE V.tys [(136, slices_IndexFunc_impl_Sig__CountSigs_1.con)] [] [] [] [] []
theorem slices_ContainsFunc_impl_Sig__CountSigs_1.eq (x0 : List TSig) (x1 : (Unit) × (Int × List Int)) : V.evBody slices_ContainsFunc_impl_Sig__CountSigs_1.E slices_ContainsFunc_impl_Sig__CountSigs_1.con Tryz.f130 ((x0, x1) : List TSig × (Unit) × (Int × List Int)) = slices_ContainsFunc_impl_Sig__CountSigs_1 x0 x1 := by kernel_rfl
theorem slices_ContainsFunc_impl_Sig__CountSigs_1.ok : V.Valid Tryz.prog 130 slices_ContainsFunc_impl_Sig__CountSigs_1.con :=
  V.fo (V.tab_cons slices_IndexFunc_impl_Sig__CountSigs_1.ok V.tab_nil) Tryz.func130 (by kernel_rfl) (fun x y h => (show V.evBody slices_ContainsFunc_impl_Sig__CountSigs_1.E slices_ContainsFunc_impl_Sig__CountSigs_1.con Tryz.f130 x = _ from slices_ContainsFunc_impl_Sig__CountSigs_1.eq x.1 x.2).trans (V.cfl (by kernel_rfl) h))
noncomputable abbrev impl_CountSigs.con : V.Con := ⟨(.cons (.sl (.cons (.int .i64) .nil)) (.cons (.int .i64) (.cons (.sl (.cons (.int .i64) .nil)) (.cons (.sl (.cons (.int .i64) (.cons (.int .i64) .nil))) .nil)))), (.cons (.int .i64) .nil), fun (x : List Int × Int × List Int × List TSig) => impl_CountSigs (x.1, x.2.1) x.2.2.1 x.2.2.2, [], [(true, 2), (false, 1), (false, 1)], [(false, 1)], [false], []⟩
noncomputable abbrev impl_CountSigs.E : V.Env := V.mkE V.tys [(130, slices_ContainsFunc_impl_Sig__CountSigs_1.con)] [(6, [2, 4, 7, 11, 12, 13], [])] [] [] [] []
noncomputable abbrev impl_CountSigs.kt (x0 : TKeys) (x1 : List Int) (x2 : List TSig) : V.Kt Int := V.ktOf impl_CountSigs.E impl_CountSigs.con Tryz.f123 ((x0.1, x0.2, x1, x2) : List Int × Int × List Int × List TSig)
noncomputable abbrev impl_CountSigs.s6 (x0 : TKeys) (x1 : List Int) (x2 : List TSig) (v6_1 : Int) (v6_3 : Int) (v6_4 : Int) : V.St := ⟨[(2, .v false [.val (.sl (.cons (.int .i64) (.cons (.int .i64) .nil)) x2)]), (4, .v false [.ptr 64064 0]), (7, .v false [.val (.int .i64 v6_1)]), (11, .v false [.val (.sl (.cons (.int .i64) .nil) x0.1)]), (12, .v false [.val (.int .i64 v6_3)]), (13, .v false [.val (.int .i64 v6_4)])], [(64064, .box [.val (.sl (.cons (.int .i64) .nil) x1)])]⟩
theorem impl_CountSigs.r6 (x0 : TKeys) (x1 : List Int) (x2 : List TSig) (R : V.St → Option Int) (v6_1 : Int) (v6_3 : Int) (v6_4 : Int) : V.loopF impl_CountSigs.E Tryz.f123.ntmps [1, 1, 0, 1, 0] [] (V.codeOf Tryz.f123) (impl_CountSigs.kt x0 x1 x2) R (impl_CountSigs.s6 x0 x1 x2 v6_1 v6_3 v6_4) = impl_CountSigs.g6 x0 x1 x2 (fun v6_1 v6_3 v6_4 => R (impl_CountSigs.s6 x0 x1 x2 v6_1 v6_3 v6_4)) v6_1 v6_3 v6_4 := by kernel_rfl
theorem impl_CountSigs.e6 (x0 : TKeys) (x1 : List Int) (x2 : List TSig) : ∀ (n : Nat) (v6_1 : Int) (v6_3 : Int) (v6_4 : Int), V.loopN (V.loopF impl_CountSigs.E Tryz.f123.ntmps [1, 1, 0, 1, 0] [] (V.codeOf Tryz.f123) (impl_CountSigs.kt x0 x1 x2)) n (impl_CountSigs.s6 x0 x1 x2 v6_1 v6_3 v6_4) = impl_CountSigs.l6 x0 x1 x2 n v6_1 v6_3 v6_4 := by
  intro n
  induction n with
  | zero => intros; rw [V.loopN_z]; rfl
  | succ n ih =>
    intro v6_1 v6_3 v6_4
    rw [V.loopN_s, impl_CountSigs.r6]
    simp only [ih]
    first | exact (impl_CountSigs.u6 ..).symm | rfl
theorem impl_CountSigs.v (x0 : TKeys) (x1 : List Int) (x2 : List TSig) : V.evBody impl_CountSigs.E impl_CountSigs.con Tryz.f123 ((x0.1, x0.2, x1, x2) : List Int × Int × List Int × List TSig) = impl_CountSigs.b x0 x1 x2 (fun v6_1 v6_3 v6_4 => V.loopN (V.loopF impl_CountSigs.E Tryz.f123.ntmps [1, 1, 0, 1, 0] [] (V.codeOf Tryz.f123) (impl_CountSigs.kt x0 x1 x2)) V.KK (impl_CountSigs.s6 x0 x1 x2 v6_1 v6_3 v6_4)) := by kernel_rfl
theorem impl_CountSigs.eq (x0 : TKeys) (x1 : List Int) (x2 : List TSig) : V.evBody impl_CountSigs.E impl_CountSigs.con Tryz.f123 ((x0.1, x0.2, x1, x2) : List Int × Int × List Int × List TSig) = impl_CountSigs x0 x1 x2 := by
  rw [impl_CountSigs.v]
  simp only [impl_CountSigs.e6]
  rfl
theorem impl_CountSigs.ok : V.Valid Tryz.prog 123 impl_CountSigs.con :=
  V.fo (V.tab_cons slices_ContainsFunc_impl_Sig__CountSigs_1.ok V.tab_nil) Tryz.func123 (by kernel_rfl) (fun x y h => (show V.evBody impl_CountSigs.E impl_CountSigs.con Tryz.f123 x = _ from impl_CountSigs.eq (x.1, x.2.1) x.2.2.1 x.2.2.2).trans (V.cfl (by kernel_rfl) h))
noncomputable abbrev impl_IsSigned.con : V.Con := ⟨(.cons (.sl (.cons (.int .i64) .nil)) (.cons (.int .i64) (.cons (.sl (.cons (.int .i64) .nil)) (.cons (.sl (.cons (.int .i64) (.cons (.int .i64) .nil))) .nil)))), (.cons .bool .nil), fun (x : List Int × Int × List Int × List TSig) => impl_IsSigned (x.1, x.2.1) x.2.2.1 x.2.2.2, [], [(true, 2), (false, 1), (false, 1)], [(false, 1)], [false], []⟩
noncomputable abbrev impl_IsSigned.E : V.Env := V.mkE V.tys [(90, impl_IsKeys.con), (123, impl_CountSigs.con)] [] [(1, 9)] [] [] []
theorem impl_IsSigned.eq (x0 : TKeys) (x1 : List Int) (x2 : List TSig) : V.evBody impl_IsSigned.E impl_IsSigned.con Tryz.f102 ((x0.1, x0.2, x1, x2) : List Int × Int × List Int × List TSig) = impl_IsSigned x0 x1 x2 := by kernel_rfl
theorem impl_IsSigned.ok : V.Valid Tryz.prog 102 impl_IsSigned.con :=
  V.fo (V.tab_cons impl_IsKeys.ok (V.tab_cons impl_CountSigs.ok V.tab_nil)) Tryz.func102 (by kernel_rfl) (fun x y h => (show V.evBody impl_IsSigned.E impl_IsSigned.con Tryz.f102 x = _ from impl_IsSigned.eq (x.1, x.2.1) x.2.2.1 x.2.2.2).trans (V.cfl (by kernel_rfl) h))
noncomputable abbrev impl_Signed_isSignedBy.con : V.Con := ⟨V.A7, (.cons .bool .nil), fun (x : V.D7) => impl_Signed_isSignedBy (V.p7_0 x) (V.p7_1 x), [], [(true, 17), (true, 2)], [(false, 1)], [false], []⟩
noncomputable abbrev impl_Signed_isSignedBy.E : V.Env := V.mkE V.tys [(44, impl_HeadInts.con), (102, impl_IsSigned.con)] [] [(1, 6)] [] [] []
noncomputable abbrev impl_Signed_isSignedBy.kt (x0 : TSigned) (x1 : TKeys) : V.Kt Bool := V.ktOf impl_Signed_isSignedBy.E impl_Signed_isSignedBy.con Tryz.f68 (V.fl7 x0 x1)
noncomputable abbrev impl_Signed_isSignedBy.s (x0 : TSigned) (x1 : TKeys) : V.St := ⟨[(0, .v true (V.lsSigned x0)), (1, .v true [.val (.sl (.cons (.int .i64) .nil) x1.1), .val (.int .i64 x1.2)])], []⟩
theorem impl_Signed_isSignedBy.v0 (x0 : TSigned) (x1 : TKeys) : V.evBody impl_Signed_isSignedBy.E impl_Signed_isSignedBy.con Tryz.f68 (V.fl7 x0 x1) = V.evC impl_Signed_isSignedBy.E Tryz.f68.ntmps (V.codeOf Tryz.f68) (impl_Signed_isSignedBy.kt x0 x1) (impl_Signed_isSignedBy.s x0 x1) := by kernel_rfl
theorem impl_Signed_isSignedBy.v (x0 : TSigned) (x1 : TKeys) : V.evC impl_Signed_isSignedBy.E Tryz.f68.ntmps (V.codeOf Tryz.f68) (impl_Signed_isSignedBy.kt x0 x1) (impl_Signed_isSignedBy.s x0 x1) = impl_Signed_isSignedBy x0 x1 := by kernel_rfl
theorem impl_Signed_isSignedBy.eq (x0 : TSigned) (x1 : TKeys) : V.evBody impl_Signed_isSignedBy.E impl_Signed_isSignedBy.con Tryz.f68 (V.fl7 x0 x1) = impl_Signed_isSignedBy x0 x1 := (impl_Signed_isSignedBy.v0 x0 x1).trans (impl_Signed_isSignedBy.v x0 x1)
theorem impl_Signed_isSignedBy.ok : V.Valid Tryz.prog 68 impl_Signed_isSignedBy.con :=
  V.fo (V.tab_cons impl_HeadInts.ok (V.tab_cons impl_IsSigned.ok V.tab_nil)) Tryz.func68 (by kernel_rfl) (fun x y h => (show V.evBody impl_Signed_isSignedBy.E impl_Signed_isSignedBy.con Tryz.f68 x = _ from impl_Signed_isSignedBy.eq (V.p7_0 x) (V.p7_1 x)).trans (V.cfl (by kernel_rfl) h))
noncomputable abbrev impl_IsFirst.con : V.Con := ⟨V.A3, (.cons .bool .nil), fun (x : V.D3) => impl_IsFirst (V.p3_0 x), [], [(true, 17)], [(false, 1)], [false], []⟩
noncomputable abbrev impl_IsFirst.E : V.Env := V.mkE V.tys [(56, impl_IsHead.con), (67, impl_ZoneOf.con), (68, impl_Signed_isSignedBy.con)] [] [(2, 31)] [] [] []
noncomputable abbrev impl_IsFirst.kt (x0 : TSigned) : V.Kt Bool := V.ktOf impl_IsFirst.E impl_IsFirst.con Tryz.f35 (V.fl3 x0)
noncomputable abbrev impl_IsFirst.s (x0 : TSigned) : V.St := ⟨[(0, .v true (V.lsSigned x0))], []⟩
theorem impl_IsFirst.v0 (x0 : TSigned) : V.evBody impl_IsFirst.E impl_IsFirst.con Tryz.f35 (V.fl3 x0) = V.evC impl_IsFirst.E Tryz.f35.ntmps (V.codeOf Tryz.f35) (impl_IsFirst.kt x0) (impl_IsFirst.s x0) := by kernel_rfl
theorem impl_IsFirst.v (x0 : TSigned) : V.evC impl_IsFirst.E Tryz.f35.ntmps (V.codeOf Tryz.f35) (impl_IsFirst.kt x0) (impl_IsFirst.s x0) = impl_IsFirst x0 := by kernel_rfl
theorem impl_IsFirst.eq (x0 : TSigned) : V.evBody impl_IsFirst.E impl_IsFirst.con Tryz.f35 (V.fl3 x0) = impl_IsFirst x0 := (impl_IsFirst.v0 x0).trans (impl_IsFirst.v x0)
theorem impl_IsFirst.ok : V.Valid Tryz.prog 35 impl_IsFirst.con :=
  V.fo (V.tab_cons impl_IsHead.ok (V.tab_cons impl_ZoneOf.ok (V.tab_cons impl_Signed_isSignedBy.ok V.tab_nil))) Tryz.func35 (by kernel_rfl) (fun x y h => (show V.evBody impl_IsFirst.E impl_IsFirst.con Tryz.f35 x = _ from impl_IsFirst.eq (V.p3_0 x)).trans (V.cfl (by kernel_rfl) h))
noncomputable abbrev impl_HeadDigest.con : V.Con := ⟨V.A0, (.cons (.int .i64) .nil), fun (x : V.D0) => impl_HeadDigest (V.p0_0 x), [], [(true, 16)], [(false, 1)], [false], []⟩
noncomputable abbrev impl_HeadDigest.E : V.Env := V.mkE V.tys [(44, impl_HeadInts.con), (101, impl_Hash.con)] [] [] [] [] []
noncomputable abbrev impl_HeadDigest.kt (x0 : THead) : V.Kt Int := V.ktOf impl_HeadDigest.E impl_HeadDigest.con Tryz.f94 (V.fl0 x0)
noncomputable abbrev impl_HeadDigest.s (x0 : THead) : V.St := ⟨[(0, .v true (V.lsHead x0))], []⟩
theorem impl_HeadDigest.v0 (x0 : THead) : V.evBody impl_HeadDigest.E impl_HeadDigest.con Tryz.f94 (V.fl0 x0) = V.evC impl_HeadDigest.E Tryz.f94.ntmps (V.codeOf Tryz.f94) (impl_HeadDigest.kt x0) (impl_HeadDigest.s x0) := by kernel_rfl
theorem impl_HeadDigest.v (x0 : THead) : V.evC impl_HeadDigest.E Tryz.f94.ntmps (V.codeOf Tryz.f94) (impl_HeadDigest.kt x0) (impl_HeadDigest.s x0) = impl_HeadDigest x0 := by kernel_rfl
theorem impl_HeadDigest.eq (x0 : THead) : V.evBody impl_HeadDigest.E impl_HeadDigest.con Tryz.f94 (V.fl0 x0) = impl_HeadDigest x0 := (impl_HeadDigest.v0 x0).trans (impl_HeadDigest.v x0)
theorem impl_HeadDigest.ok : V.Valid Tryz.prog 94 impl_HeadDigest.con :=
  V.fo (V.tab_cons impl_HeadInts.ok (V.tab_cons impl_Hash.ok V.tab_nil)) Tryz.func94 (by kernel_rfl) (fun x y h => (show V.evBody impl_HeadDigest.E impl_HeadDigest.con Tryz.f94 x = _ from impl_HeadDigest.eq (V.p0_0 x)).trans (V.cfl (by kernel_rfl) h))
noncomputable abbrev impl_isNext.con : V.Con := ⟨V.A4, (.cons .bool .nil), fun (x : V.D4) => impl_isNext (V.p4_0 x) (V.p4_1 x), [], [(true, 16), (true, 16)], [(false, 1)], [false], []⟩
noncomputable abbrev impl_isNext.E : V.Env := V.mkE V.tys [(94, impl_HeadDigest.con)] [] [(1, 25)] [] [] []
noncomputable abbrev impl_isNext.kt (x0 : THead) (x1 : THead) : V.Kt Bool := V.ktOf impl_isNext.E impl_isNext.con Tryz.f57 (V.fl4 x0 x1)
noncomputable abbrev impl_isNext.s (x0 : THead) (x1 : THead) : V.St := ⟨[(0, .v true (V.lsHead x0)), (1, .v true (V.lsHead x1))], []⟩
theorem impl_isNext.v0 (x0 : THead) (x1 : THead) : V.evBody impl_isNext.E impl_isNext.con Tryz.f57 (V.fl4 x0 x1) = V.evC impl_isNext.E Tryz.f57.ntmps (V.codeOf Tryz.f57) (impl_isNext.kt x0 x1) (impl_isNext.s x0 x1) := by kernel_rfl
theorem impl_isNext.v (x0 : THead) (x1 : THead) : V.evC impl_isNext.E Tryz.f57.ntmps (V.codeOf Tryz.f57) (impl_isNext.kt x0 x1) (impl_isNext.s x0 x1) = impl_isNext x0 x1 := by kernel_rfl
theorem impl_isNext.eq (x0 : THead) (x1 : THead) : V.evBody impl_isNext.E impl_isNext.con Tryz.f57 (V.fl4 x0 x1) = impl_isNext x0 x1 := (impl_isNext.v0 x0 x1).trans (impl_isNext.v x0 x1)
theorem impl_isNext.ok : V.Valid Tryz.prog 57 impl_isNext.con :=
  V.fo (V.tab_cons impl_HeadDigest.ok V.tab_nil) Tryz.func57 (by kernel_rfl) (fun x y h => (show V.evBody impl_isNext.E impl_isNext.con Tryz.f57 x = _ from impl_isNext.eq (V.p4_0 x) (V.p4_1 x)).trans (V.cfl (by kernel_rfl) h))
noncomputable abbrev impl_ownerCode.con : V.Con := ⟨V.A5, (.cons (.int .i64) .nil), fun (x : V.D5) => impl_ownerCode (V.p5_0 x) (V.p5_1 x), [], [(true, 16), (true, 17)], [(false, 1)], [false], []⟩
noncomputable abbrev impl_ownerCode.E : V.Env := V.mkE V.tys [(68, impl_Signed_isSignedBy.con)] [] [] [] [] []
noncomputable abbrev impl_ownerCode.kt (x0 : THead) (x1 : TSigned) : V.Kt Int := V.ktOf impl_ownerCode.E impl_ownerCode.con Tryz.f58 (V.fl5 x0 x1)
noncomputable abbrev impl_ownerCode.s (x0 : THead) (x1 : TSigned) : V.St := ⟨[(0, .v true (V.lsHead x0)), (1, .v true (V.lsSigned x1))], []⟩
theorem impl_ownerCode.v0 (x0 : THead) (x1 : TSigned) : V.evBody impl_ownerCode.E impl_ownerCode.con Tryz.f58 (V.fl5 x0 x1) = V.evC impl_ownerCode.E Tryz.f58.ntmps (V.codeOf Tryz.f58) (impl_ownerCode.kt x0 x1) (impl_ownerCode.s x0 x1) := by kernel_rfl
theorem impl_ownerCode.v (x0 : THead) (x1 : TSigned) : V.evC impl_ownerCode.E Tryz.f58.ntmps (V.codeOf Tryz.f58) (impl_ownerCode.kt x0 x1) (impl_ownerCode.s x0 x1) = impl_ownerCode x0 x1 := by kernel_rfl
theorem impl_ownerCode.eq (x0 : THead) (x1 : TSigned) : V.evBody impl_ownerCode.E impl_ownerCode.con Tryz.f58 (V.fl5 x0 x1) = impl_ownerCode x0 x1 := (impl_ownerCode.v0 x0 x1).trans (impl_ownerCode.v x0 x1)
theorem impl_ownerCode.ok : V.Valid Tryz.prog 58 impl_ownerCode.con :=
  V.fo (V.tab_cons impl_Signed_isSignedBy.ok V.tab_nil) Tryz.func58 (by kernel_rfl) (fun x y h => (show V.evBody impl_ownerCode.E impl_ownerCode.con Tryz.f58 x = _ from impl_ownerCode.eq (V.p5_0 x) (V.p5_1 x)).trans (V.cfl (by kernel_rfl) h))
noncomputable abbrev slices_Equal_int.con : V.Con := ⟨(.cons (.sl (.cons (.int .i64) .nil)) (.cons (.sl (.cons (.int .i64) .nil)) .nil)), (.cons .bool .nil), fun (x : List Int × List Int) => slices_Equal_int x.1 x.2, [], [(false, 1), (false, 1)], [(false, 1)], [false], []⟩
noncomputable abbrev slices_Equal_int.E : V.Env := V.mkE V.tys [] [(8, [0, 1, 12, 13], [])] [(6, 8)] [] [] []
noncomputable abbrev slices_Equal_int.kt (x0 : List Int) (x1 : List Int) : V.Kt Bool := V.ktOf slices_Equal_int.E slices_Equal_int.con Tryz.f43 ((x0, x1) : List Int × List Int)
noncomputable abbrev slices_Equal_int.s8 (x0 : List Int) (x1 : List Int) (v8_2 : Int) (v8_3 : Int) : V.St := ⟨[(0, .v false [.val (.sl (.cons (.int .i64) .nil) x0)]), (1, .v false [.val (.sl (.cons (.int .i64) .nil) x1)]), (12, .v false [.val (.int .i64 v8_2)]), (13, .v false [.val (.int .i64 v8_3)])], []⟩
theorem slices_Equal_int.r8 (x0 : List Int) (x1 : List Int) (R : V.St → Option Bool) (v8_2 : Int) (v8_3 : Int) : V.loopF slices_Equal_int.E Tryz.f43.ntmps [1, 1, 0, 1, 0] [] (V.codeOf Tryz.f43) (slices_Equal_int.kt x0 x1) R (slices_Equal_int.s8 x0 x1 v8_2 v8_3) = slices_Equal_int.g8 x0 x1 (fun v8_2 v8_3 => R (slices_Equal_int.s8 x0 x1 v8_2 v8_3)) v8_2 v8_3 := by kernel_rfl
theorem slices_Equal_int.e8 (x0 : List Int) (x1 : List Int) : ∀ (n : Nat) (v8_2 : Int) (v8_3 : Int), V.loopN (V.loopF slices_Equal_int.E Tryz.f43.ntmps [1, 1, 0, 1, 0] [] (V.codeOf Tryz.f43) (slices_Equal_int.kt x0 x1)) n (slices_Equal_int.s8 x0 x1 v8_2 v8_3) = slices_Equal_int.l8 x0 x1 n v8_2 v8_3 := by
  intro n
  induction n with
  | zero => intros; rw [V.loopN_z]; rfl
  | succ n ih =>
    intro v8_2 v8_3
    rw [V.loopN_s, slices_Equal_int.r8]
    simp only [ih]
    first | exact (slices_Equal_int.u8 ..).symm | rfl
theorem slices_Equal_int.v (x0 : List Int) (x1 : List Int) : V.evBody slices_Equal_int.E slices_Equal_int.con Tryz.f43 ((x0, x1) : List Int × List Int) = slices_Equal_int.b x0 x1 (fun v8_2 v8_3 => V.loopN (V.loopF slices_Equal_int.E Tryz.f43.ntmps [1, 1, 0, 1, 0] [] (V.codeOf Tryz.f43) (slices_Equal_int.kt x0 x1)) V.KK (slices_Equal_int.s8 x0 x1 v8_2 v8_3)) := by kernel_rfl
theorem slices_Equal_int.eq (x0 : List Int) (x1 : List Int) : V.evBody slices_Equal_int.E slices_Equal_int.con Tryz.f43 ((x0, x1) : List Int × List Int) = slices_Equal_int x0 x1 := by
  rw [slices_Equal_int.v]
  simp only [slices_Equal_int.e8]
  rfl
theorem slices_Equal_int.ok : V.Valid Tryz.prog 43 slices_Equal_int.con :=
  V.fo V.tab_nil Tryz.func43 (by kernel_rfl) (fun x y h => (show V.evBody slices_Equal_int.E slices_Equal_int.con Tryz.f43 x = _ from slices_Equal_int.eq x.1 x.2).trans (V.cfl (by kernel_rfl) h))
noncomputable abbrev impl_EqualKeys.con : V.Con := ⟨(.cons (.sl (.cons (.int .i64) .nil)) (.cons (.int .i64) (.cons (.sl (.cons (.int .i64) .nil)) (.cons (.int .i64) .nil)))), (.cons .bool .nil), fun (x : List Int × Int × List Int × Int) => impl_EqualKeys (x.1, x.2.1) x.2.2, [], [(true, 2), (true, 2)], [(false, 1)], [false], []⟩
noncomputable abbrev impl_EqualKeys.E : V.Env := V.mkE V.tys [(43, slices_Equal_int.con)] [] [] [] [] []
theorem impl_EqualKeys.eq (x0 : TKeys) (x1 : TKeys) : V.evBody impl_EqualKeys.E impl_EqualKeys.con Tryz.f19 ((x0.1, x0.2, x1.1, x1.2) : List Int × Int × List Int × Int) = impl_EqualKeys x0 x1 := by kernel_rfl
theorem impl_EqualKeys.ok : V.Valid Tryz.prog 19 impl_EqualKeys.con :=
  V.fo (V.tab_cons slices_Equal_int.ok V.tab_nil) Tryz.func19 (by kernel_rfl) (fun x y h => (show V.evBody impl_EqualKeys.E impl_EqualKeys.con Tryz.f19 x = _ from impl_EqualKeys.eq (x.1, x.2.1) x.2.2).trans (V.cfl (by kernel_rfl) h))
noncomputable abbrev impl_SameContents.con : V.Con := ⟨V.A4, (.cons .bool .nil), fun (x : V.D4) => impl_SameContents (V.p4_0 x) (V.p4_1 x), [], [(true, 16), (true, 16)], [(false, 1)], [false], []⟩
noncomputable abbrev impl_SameContents.E : V.Env := V.mkE V.tys [] [] [] [] [] []
noncomputable abbrev impl_SameContents.kt (x0 : THead) (x1 : THead) : V.Kt Bool := V.ktOf impl_SameContents.E impl_SameContents.con Tryz.f95 (V.fl4 x0 x1)
noncomputable abbrev impl_SameContents.s (x0 : THead) (x1 : THead) : V.St := ⟨[(0, .v true (V.lsHead x0)), (1, .v true (V.lsHead x1))], []⟩
theorem impl_SameContents.v0 (x0 : THead) (x1 : THead) : V.evBody impl_SameContents.E impl_SameContents.con Tryz.f95 (V.fl4 x0 x1) = V.evC impl_SameContents.E Tryz.f95.ntmps (V.codeOf Tryz.f95) (impl_SameContents.kt x0 x1) (impl_SameContents.s x0 x1) := by kernel_rfl
theorem impl_SameContents.v (x0 : THead) (x1 : THead) : V.evC impl_SameContents.E Tryz.f95.ntmps (V.codeOf Tryz.f95) (impl_SameContents.kt x0 x1) (impl_SameContents.s x0 x1) = impl_SameContents x0 x1 := by kernel_rfl
theorem impl_SameContents.eq (x0 : THead) (x1 : THead) : V.evBody impl_SameContents.E impl_SameContents.con Tryz.f95 (V.fl4 x0 x1) = impl_SameContents x0 x1 := (impl_SameContents.v0 x0 x1).trans (impl_SameContents.v x0 x1)
theorem impl_SameContents.ok : V.Valid Tryz.prog 95 impl_SameContents.con :=
  V.fo V.tab_nil Tryz.func95 (by kernel_rfl) (fun x y h => (show V.evBody impl_SameContents.E impl_SameContents.con Tryz.f95 x = _ from impl_SameContents.eq (V.p4_0 x) (V.p4_1 x)).trans (V.cfl (by kernel_rfl) h))
noncomputable abbrev impl_heirCode.con : V.Con := ⟨V.A5, (.cons (.int .i64) .nil), fun (x : V.D5) => impl_heirCode (V.p5_0 x) (V.p5_1 x), [], [(true, 16), (true, 17)], [(false, 1)], [false], []⟩
noncomputable abbrev impl_heirCode.E : V.Env := V.mkE V.tys [(19, impl_EqualKeys.con), (68, impl_Signed_isSignedBy.con), (93, impl_NoKeys.con), (95, impl_SameContents.con)] [(11, [2, 3, 5, 11], []), (15, [2, 3, 25], [])] [] [] [] []
noncomputable abbrev impl_heirCode.kt (x0 : THead) (x1 : TSigned) : V.Kt Int := V.ktOf impl_heirCode.E impl_heirCode.con Tryz.f59 (V.fl5 x0 x1)
noncomputable abbrev impl_heirCode.s15 (x0 : THead) (x1 : TSigned) (v15_0 : Bool) : V.St := ⟨[(2, .v false [.ptr 64000 0]), (3, .v false [.ptr 64064 0]), (25, .v false [.val (.bool v15_0)])], [(64000, .box (V.lsHead x0)), (64064, .box (V.lsSigned x1))]⟩
noncomputable abbrev impl_heirCode.s11 (x0 : THead) (x1 : TSigned) (v11_0 : Bool) : V.St := ⟨[(2, .v false [.ptr 64000 0]), (3, .v false [.ptr 64064 0]), (5, .v false [.ptr 128128 0]), (11, .v false [.val (.bool v11_0)])], [(64000, .box (V.lsHead x0)), (64064, .box (V.lsSigned x1)), (128128, .box [.val (.int .i64 x1.1), .val (.int .i64 x1.2.1), .val (.int .i64 x1.2.2.1), .val (.int .i64 x1.2.2.2.1), .val (.int .i64 x1.2.2.2.2.1), .val (.int .i64 x1.2.2.2.2.2.1), .val (.int .i64 x1.2.2.2.2.2.2.1), .val (.int .i64 x1.2.2.2.2.2.2.2.1), .val (.sl (.cons (.int .i64) .nil) x1.2.2.2.2.2.2.2.2.1), .val (.int .i64 x1.2.2.2.2.2.2.2.2.2.1), .val (.sl (.cons (.int .i64) .nil) x1.2.2.2.2.2.2.2.2.2.2.1), .val (.int .i64 x1.2.2.2.2.2.2.2.2.2.2.2.1), .val (.int .i64 x1.2.2.2.2.2.2.2.2.2.2.2.2.1), .val (.sl (.cons (.int .i64) .nil) x1.2.2.2.2.2.2.2.2.2.2.2.2.2.1), .val (.int .i64 x1.2.2.2.2.2.2.2.2.2.2.2.2.2.2.1), .val (.bool x1.2.2.2.2.2.2.2.2.2.2.2.2.2.2.2.1)])]⟩
theorem impl_heirCode.r15 (x0 : THead) (x1 : TSigned) (v15_0 : Bool) : V.joinF impl_heirCode.E Tryz.f59.ntmps [1, 1, 0, 0, 1, 1, 1, 1] [] (V.codeOf Tryz.f59) (impl_heirCode.kt x0 x1) (impl_heirCode.s15 x0 x1 v15_0) = impl_heirCode.g15 x0 x1 v15_0 := by kernel_rfl
theorem impl_heirCode.e15 (x0 : THead) (x1 : TSigned) (v15_0 : Bool) : V.jn (V.joinF impl_heirCode.E Tryz.f59.ntmps [1, 1, 0, 0, 1, 1, 1, 1] [] (V.codeOf Tryz.f59) (impl_heirCode.kt x0 x1)) (impl_heirCode.s15 x0 x1 v15_0) = impl_heirCode.l15 x0 x1 v15_0 := by
  rw [V.jn_eq, impl_heirCode.r15]
  rfl
theorem impl_heirCode.r11 (x0 : THead) (x1 : TSigned) (v11_0 : Bool) : V.joinF impl_heirCode.E Tryz.f59.ntmps [1, 1, 0, 0, 1, 1] [] (V.codeOf Tryz.f59) (impl_heirCode.kt x0 x1) (impl_heirCode.s11 x0 x1 v11_0) = impl_heirCode.g11 x0 x1 (fun v15_0 => V.jn (V.joinF impl_heirCode.E Tryz.f59.ntmps [1, 1, 0, 0, 1, 1, 1, 1] [] (V.codeOf Tryz.f59) (impl_heirCode.kt x0 x1)) (impl_heirCode.s15 x0 x1 v15_0)) v11_0 := by kernel_rfl
theorem impl_heirCode.e11 (x0 : THead) (x1 : TSigned) (v11_0 : Bool) : V.jn (V.joinF impl_heirCode.E Tryz.f59.ntmps [1, 1, 0, 0, 1, 1] [] (V.codeOf Tryz.f59) (impl_heirCode.kt x0 x1)) (impl_heirCode.s11 x0 x1 v11_0) = impl_heirCode.l11 x0 x1 v11_0 := by
  rw [V.jn_eq, impl_heirCode.r11]
  simp only [impl_heirCode.e15]
  rfl
noncomputable abbrev impl_heirCode.s (x0 : THead) (x1 : TSigned) : V.St := ⟨[(0, .v true (V.lsHead x0)), (1, .v true (V.lsSigned x1))], []⟩
theorem impl_heirCode.v0 (x0 : THead) (x1 : TSigned) : V.evBody impl_heirCode.E impl_heirCode.con Tryz.f59 (V.fl5 x0 x1) = V.evC impl_heirCode.E Tryz.f59.ntmps (V.codeOf Tryz.f59) (impl_heirCode.kt x0 x1) (impl_heirCode.s x0 x1) := by kernel_rfl
theorem impl_heirCode.v (x0 : THead) (x1 : TSigned) : V.evC impl_heirCode.E Tryz.f59.ntmps (V.codeOf Tryz.f59) (impl_heirCode.kt x0 x1) (impl_heirCode.s x0 x1) = impl_heirCode.b x0 x1 (fun v11_0 => V.jn (V.joinF impl_heirCode.E Tryz.f59.ntmps [1, 1, 0, 0, 1, 1] [] (V.codeOf Tryz.f59) (impl_heirCode.kt x0 x1)) (impl_heirCode.s11 x0 x1 v11_0)) := by kernel_rfl
theorem impl_heirCode.eq (x0 : THead) (x1 : TSigned) : V.evBody impl_heirCode.E impl_heirCode.con Tryz.f59 (V.fl5 x0 x1) = impl_heirCode x0 x1 := by
  rw [impl_heirCode.v0, impl_heirCode.v]
  simp only [impl_heirCode.e11]
  rfl
theorem impl_heirCode.ok : V.Valid Tryz.prog 59 impl_heirCode.con :=
  V.fo (V.tab_cons impl_EqualKeys.ok (V.tab_cons impl_Signed_isSignedBy.ok (V.tab_cons impl_NoKeys.ok (V.tab_cons impl_SameContents.ok V.tab_nil)))) Tryz.func59 (by kernel_rfl) (fun x y h => (show V.evBody impl_heirCode.E impl_heirCode.con Tryz.f59 x = _ from impl_heirCode.eq (V.p5_0 x) (V.p5_1 x)).trans (V.cfl (by kernel_rfl) h))
noncomputable abbrev impl_judgeCode.con : V.Con := ⟨V.A5, (.cons (.int .i64) .nil), fun (x : V.D5) => impl_judgeCode (V.p5_0 x) (V.p5_1 x), [], [(true, 16), (true, 17)], [(false, 1)], [false], []⟩
noncomputable abbrev impl_judgeCode.E : V.Env := V.mkE V.tys [(19, impl_EqualKeys.con), (68, impl_Signed_isSignedBy.con), (93, impl_NoKeys.con), (95, impl_SameContents.con)] [(7, [2, 3, 5, 6], []), (13, [2, 3, 37], [])] [] [] [] []
noncomputable abbrev impl_judgeCode.kt (x0 : THead) (x1 : TSigned) : V.Kt Int := V.ktOf impl_judgeCode.E impl_judgeCode.con Tryz.f60 (V.fl5 x0 x1)
noncomputable abbrev impl_judgeCode.s13 (x0 : THead) (x1 : TSigned) (v13_0 : Bool) : V.St := ⟨[(2, .v false [.ptr 64000 0]), (3, .v false [.ptr 64064 0]), (37, .v false [.val (.bool v13_0)])], [(64000, .box (V.lsHead x0)), (64064, .box (V.lsSigned x1))]⟩
noncomputable abbrev impl_judgeCode.s7 (x0 : THead) (x1 : TSigned) (v7_0 : Bool) : V.St := ⟨[(2, .v false [.ptr 64000 0]), (3, .v false [.ptr 64064 0]), (5, .v false [.ptr 128128 0]), (6, .v false [.val (.bool v7_0)])], [(64000, .box (V.lsHead x0)), (64064, .box (V.lsSigned x1)), (128128, .box [.val (.int .i64 x1.1), .val (.int .i64 x1.2.1), .val (.int .i64 x1.2.2.1), .val (.int .i64 x1.2.2.2.1), .val (.int .i64 x1.2.2.2.2.1), .val (.int .i64 x1.2.2.2.2.2.1), .val (.int .i64 x1.2.2.2.2.2.2.1), .val (.int .i64 x1.2.2.2.2.2.2.2.1), .val (.sl (.cons (.int .i64) .nil) x1.2.2.2.2.2.2.2.2.1), .val (.int .i64 x1.2.2.2.2.2.2.2.2.2.1), .val (.sl (.cons (.int .i64) .nil) x1.2.2.2.2.2.2.2.2.2.2.1), .val (.int .i64 x1.2.2.2.2.2.2.2.2.2.2.2.1), .val (.int .i64 x1.2.2.2.2.2.2.2.2.2.2.2.2.1), .val (.sl (.cons (.int .i64) .nil) x1.2.2.2.2.2.2.2.2.2.2.2.2.2.1), .val (.int .i64 x1.2.2.2.2.2.2.2.2.2.2.2.2.2.2.1), .val (.bool x1.2.2.2.2.2.2.2.2.2.2.2.2.2.2.2.1)])]⟩
theorem impl_judgeCode.r13 (x0 : THead) (x1 : TSigned) (v13_0 : Bool) : V.joinF impl_judgeCode.E Tryz.f60.ntmps [1, 1, 1, 0, 0, 1, 1] [] (V.codeOf Tryz.f60) (impl_judgeCode.kt x0 x1) (impl_judgeCode.s13 x0 x1 v13_0) = impl_judgeCode.g13 x0 x1 v13_0 := by kernel_rfl
theorem impl_judgeCode.e13 (x0 : THead) (x1 : TSigned) (v13_0 : Bool) : V.jn (V.joinF impl_judgeCode.E Tryz.f60.ntmps [1, 1, 1, 0, 0, 1, 1] [] (V.codeOf Tryz.f60) (impl_judgeCode.kt x0 x1)) (impl_judgeCode.s13 x0 x1 v13_0) = impl_judgeCode.l13 x0 x1 v13_0 := by
  rw [V.jn_eq, impl_judgeCode.r13]
  rfl
theorem impl_judgeCode.r7 (x0 : THead) (x1 : TSigned) (v7_0 : Bool) : V.joinF impl_judgeCode.E Tryz.f60.ntmps [1, 1] [] (V.codeOf Tryz.f60) (impl_judgeCode.kt x0 x1) (impl_judgeCode.s7 x0 x1 v7_0) = impl_judgeCode.g7 x0 x1 (fun v13_0 => V.jn (V.joinF impl_judgeCode.E Tryz.f60.ntmps [1, 1, 1, 0, 0, 1, 1] [] (V.codeOf Tryz.f60) (impl_judgeCode.kt x0 x1)) (impl_judgeCode.s13 x0 x1 v13_0)) v7_0 := by kernel_rfl
theorem impl_judgeCode.e7 (x0 : THead) (x1 : TSigned) (v7_0 : Bool) : V.jn (V.joinF impl_judgeCode.E Tryz.f60.ntmps [1, 1] [] (V.codeOf Tryz.f60) (impl_judgeCode.kt x0 x1)) (impl_judgeCode.s7 x0 x1 v7_0) = impl_judgeCode.l7 x0 x1 v7_0 := by
  rw [V.jn_eq, impl_judgeCode.r7]
  simp only [impl_judgeCode.e13]
  rfl
noncomputable abbrev impl_judgeCode.s (x0 : THead) (x1 : TSigned) : V.St := ⟨[(0, .v true (V.lsHead x0)), (1, .v true (V.lsSigned x1))], []⟩
theorem impl_judgeCode.v0 (x0 : THead) (x1 : TSigned) : V.evBody impl_judgeCode.E impl_judgeCode.con Tryz.f60 (V.fl5 x0 x1) = V.evC impl_judgeCode.E Tryz.f60.ntmps (V.codeOf Tryz.f60) (impl_judgeCode.kt x0 x1) (impl_judgeCode.s x0 x1) := by kernel_rfl
theorem impl_judgeCode.v (x0 : THead) (x1 : TSigned) : V.evC impl_judgeCode.E Tryz.f60.ntmps (V.codeOf Tryz.f60) (impl_judgeCode.kt x0 x1) (impl_judgeCode.s x0 x1) = impl_judgeCode.b x0 x1 (fun v7_0 => V.jn (V.joinF impl_judgeCode.E Tryz.f60.ntmps [1, 1] [] (V.codeOf Tryz.f60) (impl_judgeCode.kt x0 x1)) (impl_judgeCode.s7 x0 x1 v7_0)) := by kernel_rfl
theorem impl_judgeCode.eq (x0 : THead) (x1 : TSigned) : V.evBody impl_judgeCode.E impl_judgeCode.con Tryz.f60 (V.fl5 x0 x1) = impl_judgeCode x0 x1 := by
  rw [impl_judgeCode.v0, impl_judgeCode.v]
  simp only [impl_judgeCode.e7]
  rfl
theorem impl_judgeCode.ok : V.Valid Tryz.prog 60 impl_judgeCode.con :=
  V.fo (V.tab_cons impl_EqualKeys.ok (V.tab_cons impl_Signed_isSignedBy.ok (V.tab_cons impl_NoKeys.ok (V.tab_cons impl_SameContents.ok V.tab_nil)))) Tryz.func60 (by kernel_rfl) (fun x y h => (show V.evBody impl_judgeCode.E impl_judgeCode.con Tryz.f60 x = _ from impl_judgeCode.eq (V.p5_0 x) (V.p5_1 x)).trans (V.cfl (by kernel_rfl) h))
noncomputable abbrev impl_NextCode.con : V.Con := ⟨V.A5, (.cons (.int .i64) .nil), fun (x : V.D5) => impl_NextCode (V.p5_0 x) (V.p5_1 x), [], [(true, 16), (true, 17)], [(false, 1)], [false], []⟩
noncomputable abbrev impl_NextCode.E : V.Env := V.mkE V.tys [(56, impl_IsHead.con), (57, impl_isNext.con), (58, impl_ownerCode.con), (59, impl_heirCode.con), (60, impl_judgeCode.con)] [(5, [2, 3, 5], [])] [] [] [] []
noncomputable abbrev impl_NextCode.kt (x0 : THead) (x1 : TSigned) : V.Kt Int := V.ktOf impl_NextCode.E impl_NextCode.con Tryz.f26 (V.fl5 x0 x1)
noncomputable abbrev impl_NextCode.s5 (x0 : THead) (x1 : TSigned) (v5_0 : Bool) : V.St := ⟨[(2, .v false [.ptr 64000 0]), (3, .v false [.ptr 64064 0]), (5, .v false [.val (.bool v5_0)])], [(64000, .box (V.lsHead x0)), (64064, .box (V.lsSigned x1))]⟩
theorem impl_NextCode.r5 (x0 : THead) (x1 : TSigned) (v5_0 : Bool) : V.joinF impl_NextCode.E Tryz.f26.ntmps [1, 0, 0] [] (V.codeOf Tryz.f26) (impl_NextCode.kt x0 x1) (impl_NextCode.s5 x0 x1 v5_0) = impl_NextCode.g5 x0 x1 v5_0 := by kernel_rfl
theorem impl_NextCode.e5 (x0 : THead) (x1 : TSigned) (v5_0 : Bool) : V.jn (V.joinF impl_NextCode.E Tryz.f26.ntmps [1, 0, 0] [] (V.codeOf Tryz.f26) (impl_NextCode.kt x0 x1)) (impl_NextCode.s5 x0 x1 v5_0) = impl_NextCode.l5 x0 x1 v5_0 := by
  rw [V.jn_eq, impl_NextCode.r5]
  rfl
noncomputable abbrev impl_NextCode.s (x0 : THead) (x1 : TSigned) : V.St := ⟨[(0, .v true (V.lsHead x0)), (1, .v true (V.lsSigned x1))], []⟩
theorem impl_NextCode.v0 (x0 : THead) (x1 : TSigned) : V.evBody impl_NextCode.E impl_NextCode.con Tryz.f26 (V.fl5 x0 x1) = V.evC impl_NextCode.E Tryz.f26.ntmps (V.codeOf Tryz.f26) (impl_NextCode.kt x0 x1) (impl_NextCode.s x0 x1) := by kernel_rfl
theorem impl_NextCode.v (x0 : THead) (x1 : TSigned) : V.evC impl_NextCode.E Tryz.f26.ntmps (V.codeOf Tryz.f26) (impl_NextCode.kt x0 x1) (impl_NextCode.s x0 x1) = impl_NextCode.b x0 x1 (fun v5_0 => V.jn (V.joinF impl_NextCode.E Tryz.f26.ntmps [1, 0, 0] [] (V.codeOf Tryz.f26) (impl_NextCode.kt x0 x1)) (impl_NextCode.s5 x0 x1 v5_0)) := by kernel_rfl
theorem impl_NextCode.eq (x0 : THead) (x1 : TSigned) : V.evBody impl_NextCode.E impl_NextCode.con Tryz.f26 (V.fl5 x0 x1) = impl_NextCode x0 x1 := by
  rw [impl_NextCode.v0, impl_NextCode.v]
  simp only [impl_NextCode.e5]
  rfl
theorem impl_NextCode.ok : V.Valid Tryz.prog 26 impl_NextCode.con :=
  V.fo (V.tab_cons impl_IsHead.ok (V.tab_cons impl_isNext.ok (V.tab_cons impl_ownerCode.ok (V.tab_cons impl_heirCode.ok (V.tab_cons impl_judgeCode.ok V.tab_nil))))) Tryz.func26 (by kernel_rfl) (fun x y h => (show V.evBody impl_NextCode.E impl_NextCode.con Tryz.f26 x = _ from impl_NextCode.eq (V.p5_0 x) (V.p5_1 x)).trans (V.cfl (by kernel_rfl) h))
noncomputable abbrev impl_MayFollow.con : V.Con := ⟨V.A5, (.cons .bool .nil), fun (x : V.D5) => impl_MayFollow (V.p5_0 x) (V.p5_1 x), [], [(true, 16), (true, 17)], [(false, 1)], [false], []⟩
noncomputable abbrev impl_MayFollow.E : V.Env := V.mkE V.tys [(26, impl_NextCode.con)] [] [] [] [] []
noncomputable abbrev impl_MayFollow.kt (x0 : THead) (x1 : TSigned) : V.Kt Bool := V.ktOf impl_MayFollow.E impl_MayFollow.con Tryz.f36 (V.fl5 x0 x1)
noncomputable abbrev impl_MayFollow.s (x0 : THead) (x1 : TSigned) : V.St := ⟨[(0, .v true (V.lsHead x0)), (1, .v true (V.lsSigned x1))], []⟩
theorem impl_MayFollow.v0 (x0 : THead) (x1 : TSigned) : V.evBody impl_MayFollow.E impl_MayFollow.con Tryz.f36 (V.fl5 x0 x1) = V.evC impl_MayFollow.E Tryz.f36.ntmps (V.codeOf Tryz.f36) (impl_MayFollow.kt x0 x1) (impl_MayFollow.s x0 x1) := by kernel_rfl
theorem impl_MayFollow.v (x0 : THead) (x1 : TSigned) : V.evC impl_MayFollow.E Tryz.f36.ntmps (V.codeOf Tryz.f36) (impl_MayFollow.kt x0 x1) (impl_MayFollow.s x0 x1) = impl_MayFollow x0 x1 := by kernel_rfl
theorem impl_MayFollow.eq (x0 : THead) (x1 : TSigned) : V.evBody impl_MayFollow.E impl_MayFollow.con Tryz.f36 (V.fl5 x0 x1) = impl_MayFollow x0 x1 := (impl_MayFollow.v0 x0 x1).trans (impl_MayFollow.v x0 x1)
theorem impl_MayFollow.ok : V.Valid Tryz.prog 36 impl_MayFollow.con :=
  V.fo (V.tab_cons impl_NextCode.ok V.tab_nil) Tryz.func36 (by kernel_rfl) (fun x y h => (show V.evBody impl_MayFollow.E impl_MayFollow.con Tryz.f36 x = _ from impl_MayFollow.eq (V.p5_0 x) (V.p5_1 x)).trans (V.cfl (by kernel_rfl) h))
end Go.Proofs.YtpiabcaiccnciaaGreat
