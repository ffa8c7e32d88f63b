/- That the functions compute it. -/
import Derived.Test.YtddgjofdkdmmmaaGreatXAskAllPure0
import Derived.Test.YtddgjofdkdmmmaaGreatProg
namespace Go.Proofs.YtddgjofdkdmmmaaGreat
set_option linter.unusedVariables false
set_option maxRecDepth 100000
namespace V
abbrev eSigned : ETy := (.cons (.int .i64) (.cons (.int .i64) (.cons (.int .i64) (.cons (.int .i64) (.cons (.int .i64) (.cons (.int .i64) (.cons (.int .i64) (.cons (.int .i64) (.cons (.sl (.cons (.int .i64) .nil)) (.cons (.int .i64) (.cons (.sl (.cons (.int .i64) .nil)) (.cons (.int .i64) (.cons (.int .i64) (.cons (.sl (.cons (.int .i64) .nil)) (.cons (.int .i64) (.cons .bool (.cons (.sl (.cons (.int .i64) (.cons (.int .i64) .nil))) .nil)))))))))))))))))
abbrev eAnswer : ETy := (.cons (.sl eSigned) (.cons .bool (.cons .str (.cons (.int .i64) (.cons (.int .i64) (.cons (.sl (.cons .str .nil)) (.cons (.int .i64) (.cons (.sl (.cons (.int .i64) .nil)) (.cons (.int .i64) (.cons .str (.cons (.int .i64) (.cons (.int .i64) (.cons (.sl (.cons .str .nil)) (.cons .str (.cons (.int .i64) (.cons (.int .i64) (.cons (.sl (.cons .str .nil)) (.cons (.int .i64) (.cons (.sl (.cons (.int .i64) .nil)) (.cons (.int .i64) (.cons (.sl (.cons (.int .i64) .nil)) .nil)))))))))))))))))))))
abbrev eEntry : ETy := (.cons .str (.cons (.int .i64) (.cons (.int .i64) (.cons (.sl (.cons .str .nil)) .nil))))
abbrev eGap : ETy := (.cons (.int .i64) (.cons .str (.cons (.int .i64) (.cons (.int .i64) (.cons (.sl (.cons .str .nil)) (.cons .str (.cons (.int .i64) (.cons (.int .i64) (.cons (.sl (.cons .str .nil)) (.cons (.int .i64) (.cons (.sl (.cons (.int .i64) .nil)) (.cons (.int .i64) (.cons (.sl (.cons (.int .i64) .nil)) .nil)))))))))))))
abbrev eHead : ETy := (.cons (.int .i64) (.cons (.int .i64) (.cons (.int .i64) (.cons (.int .i64) (.cons (.int .i64) (.cons (.int .i64) (.cons (.int .i64) (.cons (.int .i64) (.cons (.sl (.cons (.int .i64) .nil)) (.cons (.int .i64) (.cons (.sl (.cons (.int .i64) .nil)) (.cons (.int .i64) (.cons (.int .i64) (.cons (.sl (.cons (.int .i64) .nil)) (.cons (.int .i64) (.cons .bool .nil))))))))))))))))
abbrev eRGapBool : ETy := (.cons (.int .i64) (.cons .str (.cons (.int .i64) (.cons (.int .i64) (.cons (.sl (.cons .str .nil)) (.cons .str (.cons (.int .i64) (.cons (.int .i64) (.cons (.sl (.cons .str .nil)) (.cons (.int .i64) (.cons (.sl (.cons (.int .i64) .nil)) (.cons (.int .i64) (.cons (.sl (.cons (.int .i64) .nil)) (.cons .bool .nil))))))))))))))
abbrev eRHeadBool : ETy := (.cons (.int .i64) (.cons (.int .i64) (.cons (.int .i64) (.cons (.int .i64) (.cons (.int .i64) (.cons (.int .i64) (.cons (.int .i64) (.cons (.int .i64) (.cons (.sl (.cons (.int .i64) .nil)) (.cons (.int .i64) (.cons (.sl (.cons (.int .i64) .nil)) (.cons (.int .i64) (.cons (.int .i64) (.cons (.sl (.cons (.int .i64) .nil)) (.cons (.int .i64) (.cons .bool (.cons .bool .nil)))))))))))))))))
abbrev D0 : Type := Int × Int × Int × Int × Int × Int × Int × Int × List Int × Int × List Int × Int × Int × List Int × Int × Bool × Int
abbrev A0 : ETy := (.cons (.int .i64) (.cons (.int .i64) (.cons (.int .i64) (.cons (.int .i64) (.cons (.int .i64) (.cons (.int .i64) (.cons (.int .i64) (.cons (.int .i64) (.cons (.sl (.cons (.int .i64) .nil)) (.cons (.int .i64) (.cons (.sl (.cons (.int .i64) .nil)) (.cons (.int .i64) (.cons (.int .i64) (.cons (.sl (.cons (.int .i64) .nil)) (.cons (.int .i64) (.cons .bool (.cons (.int .i64) .nil)))))))))))))))))
abbrev fl0 (x0 : THead) (x1 : Int) : D0 := (x0.1, x0.2.1, x0.2.2.1, x0.2.2.2.1, x0.2.2.2.2.1, x0.2.2.2.2.2.1, x0.2.2.2.2.2.2.1, x0.2.2.2.2.2.2.2.1, x0.2.2.2.2.2.2.2.2.1, x0.2.2.2.2.2.2.2.2.2.1, x0.2.2.2.2.2.2.2.2.2.2.1, x0.2.2.2.2.2.2.2.2.2.2.2.1, x0.2.2.2.2.2.2.2.2.2.2.2.2.1, x0.2.2.2.2.2.2.2.2.2.2.2.2.2.1, x0.2.2.2.2.2.2.2.2.2.2.2.2.2.2.1, x0.2.2.2.2.2.2.2.2.2.2.2.2.2.2.2, x1)
abbrev p0_0 (x : D0) : THead := (x.1, x.2.1, x.2.2.1, x.2.2.2.1, x.2.2.2.2.1, x.2.2.2.2.2.1, x.2.2.2.2.2.2.1, x.2.2.2.2.2.2.2.1, x.2.2.2.2.2.2.2.2.1, x.2.2.2.2.2.2.2.2.2.1, x.2.2.2.2.2.2.2.2.2.2.1, x.2.2.2.2.2.2.2.2.2.2.2.1, x.2.2.2.2.2.2.2.2.2.2.2.2.1, x.2.2.2.2.2.2.2.2.2.2.2.2.2.1, x.2.2.2.2.2.2.2.2.2.2.2.2.2.2.1, x.2.2.2.2.2.2.2.2.2.2.2.2.2.2.2.1)
abbrev p0_1 (x : D0) : Int := x.2.2.2.2.2.2.2.2.2.2.2.2.2.2.2.2
abbrev D1 : Type := Int × Int × Int × Int × Int × Int × Int × Int × List Int × Int × List Int × Int × Int × List Int × Int × Bool × List TSig × Int
abbrev A1 : ETy := (.cons (.int .i64) (.cons (.int .i64) (.cons (.int .i64) (.cons (.int .i64) (.cons (.int .i64) (.cons (.int .i64) (.cons (.int .i64) (.cons (.int .i64) (.cons (.sl (.cons (.int .i64) .nil)) (.cons (.int .i64) (.cons (.sl (.cons (.int .i64) .nil)) (.cons (.int .i64) (.cons (.int .i64) (.cons (.sl (.cons (.int .i64) .nil)) (.cons (.int .i64) (.cons .bool (.cons (.sl (.cons (.int .i64) (.cons (.int .i64) .nil))) (.cons (.int .i64) .nil))))))))))))))))))
abbrev fl1 (x0 : TSigned) (x1 : Int) : D1 := (x0.1, x0.2.1, x0.2.2.1, x0.2.2.2.1, x0.2.2.2.2.1, x0.2.2.2.2.2.1, x0.2.2.2.2.2.2.1, x0.2.2.2.2.2.2.2.1, x0.2.2.2.2.2.2.2.2.1, x0.2.2.2.2.2.2.2.2.2.1, x0.2.2.2.2.2.2.2.2.2.2.1, x0.2.2.2.2.2.2.2.2.2.2.2.1, x0.2.2.2.2.2.2.2.2.2.2.2.2.1, x0.2.2.2.2.2.2.2.2.2.2.2.2.2.1, x0.2.2.2.2.2.2.2.2.2.2.2.2.2.2.1, x0.2.2.2.2.2.2.2.2.2.2.2.2.2.2.2.1, x0.2.2.2.2.2.2.2.2.2.2.2.2.2.2.2.2, x1)
abbrev p1_0 (x : D1) : TSigned := (x.1, x.2.1, x.2.2.1, x.2.2.2.1, x.2.2.2.2.1, x.2.2.2.2.2.1, x.2.2.2.2.2.2.1, x.2.2.2.2.2.2.2.1, x.2.2.2.2.2.2.2.2.1, x.2.2.2.2.2.2.2.2.2.1, x.2.2.2.2.2.2.2.2.2.2.1, x.2.2.2.2.2.2.2.2.2.2.2.1, x.2.2.2.2.2.2.2.2.2.2.2.2.1, x.2.2.2.2.2.2.2.2.2.2.2.2.2.1, x.2.2.2.2.2.2.2.2.2.2.2.2.2.2.1, x.2.2.2.2.2.2.2.2.2.2.2.2.2.2.2.1, x.2.2.2.2.2.2.2.2.2.2.2.2.2.2.2.2.1)
abbrev p1_1 (x : D1) : Int := x.2.2.2.2.2.2.2.2.2.2.2.2.2.2.2.2.2
abbrev D2 : Type := Int × Int × Int × Int × Int × Int × Int × Int × List Int × Int × List Int × Int × Int × List Int × Int × Bool
abbrev A2 : ETy := eHead
abbrev fl2 (x0 : THead) : D2 := (x0.1, x0.2.1, x0.2.2.1, x0.2.2.2.1, x0.2.2.2.2.1, x0.2.2.2.2.2.1, x0.2.2.2.2.2.2.1, x0.2.2.2.2.2.2.2.1, x0.2.2.2.2.2.2.2.2.1, x0.2.2.2.2.2.2.2.2.2.1, x0.2.2.2.2.2.2.2.2.2.2.1, x0.2.2.2.2.2.2.2.2.2.2.2.1, x0.2.2.2.2.2.2.2.2.2.2.2.2.1, x0.2.2.2.2.2.2.2.2.2.2.2.2.2.1, x0.2.2.2.2.2.2.2.2.2.2.2.2.2.2.1, x0.2.2.2.2.2.2.2.2.2.2.2.2.2.2.2)
abbrev p2_0 (x : D2) : THead := x
abbrev D3 : Type := Int × Int × Int × Int × Int × Int × Int × Int × List Int × Int × List Int × Int × Int × List Int × Int × Bool × List TSig
abbrev A3 : ETy := eSigned
abbrev fl3 (x0 : TSigned) : D3 := (x0.1, x0.2.1, x0.2.2.1, x0.2.2.2.1, x0.2.2.2.2.1, x0.2.2.2.2.2.1, x0.2.2.2.2.2.2.1, x0.2.2.2.2.2.2.2.1, x0.2.2.2.2.2.2.2.2.1, x0.2.2.2.2.2.2.2.2.2.1, x0.2.2.2.2.2.2.2.2.2.2.1, x0.2.2.2.2.2.2.2.2.2.2.2.1, x0.2.2.2.2.2.2.2.2.2.2.2.2.1, x0.2.2.2.2.2.2.2.2.2.2.2.2.2.1, x0.2.2.2.2.2.2.2.2.2.2.2.2.2.2.1, x0.2.2.2.2.2.2.2.2.2.2.2.2.2.2.2.1, x0.2.2.2.2.2.2.2.2.2.2.2.2.2.2.2.2)
abbrev p3_0 (x : D3) : TSigned := x
abbrev D4 : Type := Int × Int × Int × Int × Int × Int × Int × Int × List Int × Int × List Int × Int × Int × List Int × Int × Bool × Int × Int × Int × Int × Int × Int × Int × Int × List Int × Int × List Int × Int × Int × List Int × Int × Bool
abbrev A4 : ETy := (.cons (.int .i64) (.cons (.int .i64) (.cons (.int .i64) (.cons (.int .i64) (.cons (.int .i64) (.cons (.int .i64) (.cons (.int .i64) (.cons (.int .i64) (.cons (.sl (.cons (.int .i64) .nil)) (.cons (.int .i64) (.cons (.sl (.cons (.int .i64) .nil)) (.cons (.int .i64) (.cons (.int .i64) (.cons (.sl (.cons (.int .i64) .nil)) (.cons (.int .i64) (.cons .bool (.cons (.int .i64) (.cons (.int .i64) (.cons (.int .i64) (.cons (.int .i64) (.cons (.int .i64) (.cons (.int .i64) (.cons (.int .i64) (.cons (.int .i64) (.cons (.sl (.cons (.int .i64) .nil)) (.cons (.int .i64) (.cons (.sl (.cons (.int .i64) .nil)) (.cons (.int .i64) (.cons (.int .i64) (.cons (.sl (.cons (.int .i64) .nil)) (.cons (.int .i64) (.cons .bool .nil))))))))))))))))))))))))))))))))
abbrev fl4 (x0 : THead) (x1 : THead) : D4 := (x0.1, x0.2.1, x0.2.2.1, x0.2.2.2.1, x0.2.2.2.2.1, x0.2.2.2.2.2.1, x0.2.2.2.2.2.2.1, x0.2.2.2.2.2.2.2.1, x0.2.2.2.2.2.2.2.2.1, x0.2.2.2.2.2.2.2.2.2.1, x0.2.2.2.2.2.2.2.2.2.2.1, x0.2.2.2.2.2.2.2.2.2.2.2.1, x0.2.2.2.2.2.2.2.2.2.2.2.2.1, x0.2.2.2.2.2.2.2.2.2.2.2.2.2.1, x0.2.2.2.2.2.2.2.2.2.2.2.2.2.2.1, x0.2.2.2.2.2.2.2.2.2.2.2.2.2.2.2, x1.1, x1.2.1, x1.2.2.1, x1.2.2.2.1, x1.2.2.2.2.1, x1.2.2.2.2.2.1, x1.2.2.2.2.2.2.1, x1.2.2.2.2.2.2.2.1, x1.2.2.2.2.2.2.2.2.1, x1.2.2.2.2.2.2.2.2.2.1, x1.2.2.2.2.2.2.2.2.2.2.1, x1.2.2.2.2.2.2.2.2.2.2.2.1, x1.2.2.2.2.2.2.2.2.2.2.2.2.1, x1.2.2.2.2.2.2.2.2.2.2.2.2.2.1, x1.2.2.2.2.2.2.2.2.2.2.2.2.2.2.1, x1.2.2.2.2.2.2.2.2.2.2.2.2.2.2.2)
abbrev p4_0 (x : D4) : THead := (x.1, x.2.1, x.2.2.1, x.2.2.2.1, x.2.2.2.2.1, x.2.2.2.2.2.1, x.2.2.2.2.2.2.1, x.2.2.2.2.2.2.2.1, x.2.2.2.2.2.2.2.2.1, x.2.2.2.2.2.2.2.2.2.1, x.2.2.2.2.2.2.2.2.2.2.1, x.2.2.2.2.2.2.2.2.2.2.2.1, x.2.2.2.2.2.2.2.2.2.2.2.2.1, x.2.2.2.2.2.2.2.2.2.2.2.2.2.1, x.2.2.2.2.2.2.2.2.2.2.2.2.2.2.1, x.2.2.2.2.2.2.2.2.2.2.2.2.2.2.2.1)
abbrev p4_1 (x : D4) : THead := x.2.2.2.2.2.2.2.2.2.2.2.2.2.2.2.2
abbrev D5 : Type := Int × Int × Int × Int × Int × Int × Int × Int × List Int × Int × List Int × Int × Int × List Int × Int × Bool × Int × Int × Int × Int × Int × Int × Int × Int × List Int × Int × List Int × Int × Int × List Int × Int × Bool × List TSig
abbrev A5 : ETy := (.cons (.int .i64) (.cons (.int .i64) (.cons (.int .i64) (.cons (.int .i64) (.cons (.int .i64) (.cons (.int .i64) (.cons (.int .i64) (.cons (.int .i64) (.cons (.sl (.cons (.int .i64) .nil)) (.cons (.int .i64) (.cons (.sl (.cons (.int .i64) .nil)) (.cons (.int .i64) (.cons (.int .i64) (.cons (.sl (.cons (.int .i64) .nil)) (.cons (.int .i64) (.cons .bool (.cons (.int .i64) (.cons (.int .i64) (.cons (.int .i64) (.cons (.int .i64) (.cons (.int .i64) (.cons (.int .i64) (.cons (.int .i64) (.cons (.int .i64) (.cons (.sl (.cons (.int .i64) .nil)) (.cons (.int .i64) (.cons (.sl (.cons (.int .i64) .nil)) (.cons (.int .i64) (.cons (.int .i64) (.cons (.sl (.cons (.int .i64) .nil)) (.cons (.int .i64) (.cons .bool (.cons (.sl (.cons (.int .i64) (.cons (.int .i64) .nil))) .nil)))))))))))))))))))))))))))))))))
abbrev fl5 (x0 : THead) (x1 : TSigned) : D5 := (x0.1, x0.2.1, x0.2.2.1, x0.2.2.2.1, x0.2.2.2.2.1, x0.2.2.2.2.2.1, x0.2.2.2.2.2.2.1, x0.2.2.2.2.2.2.2.1, x0.2.2.2.2.2.2.2.2.1, x0.2.2.2.2.2.2.2.2.2.1, x0.2.2.2.2.2.2.2.2.2.2.1, x0.2.2.2.2.2.2.2.2.2.2.2.1, x0.2.2.2.2.2.2.2.2.2.2.2.2.1, x0.2.2.2.2.2.2.2.2.2.2.2.2.2.1, x0.2.2.2.2.2.2.2.2.2.2.2.2.2.2.1, x0.2.2.2.2.2.2.2.2.2.2.2.2.2.2.2, x1.1, x1.2.1, x1.2.2.1, x1.2.2.2.1, x1.2.2.2.2.1, x1.2.2.2.2.2.1, x1.2.2.2.2.2.2.1, x1.2.2.2.2.2.2.2.1, x1.2.2.2.2.2.2.2.2.1, x1.2.2.2.2.2.2.2.2.2.1, x1.2.2.2.2.2.2.2.2.2.2.1, x1.2.2.2.2.2.2.2.2.2.2.2.1, x1.2.2.2.2.2.2.2.2.2.2.2.2.1, x1.2.2.2.2.2.2.2.2.2.2.2.2.2.1, x1.2.2.2.2.2.2.2.2.2.2.2.2.2.2.1, x1.2.2.2.2.2.2.2.2.2.2.2.2.2.2.2.1, x1.2.2.2.2.2.2.2.2.2.2.2.2.2.2.2.2)
abbrev p5_0 (x : D5) : THead := (x.1, x.2.1, x.2.2.1, x.2.2.2.1, x.2.2.2.2.1, x.2.2.2.2.2.1, x.2.2.2.2.2.2.1, x.2.2.2.2.2.2.2.1, x.2.2.2.2.2.2.2.2.1, x.2.2.2.2.2.2.2.2.2.1, x.2.2.2.2.2.2.2.2.2.2.1, x.2.2.2.2.2.2.2.2.2.2.2.1, x.2.2.2.2.2.2.2.2.2.2.2.2.1, x.2.2.2.2.2.2.2.2.2.2.2.2.2.1, x.2.2.2.2.2.2.2.2.2.2.2.2.2.2.1, x.2.2.2.2.2.2.2.2.2.2.2.2.2.2.2.1)
abbrev p5_1 (x : D5) : TSigned := x.2.2.2.2.2.2.2.2.2.2.2.2.2.2.2.2
abbrev D6 : Type := Int × Int × Int × Int × Int × Int × Int × Int × List Int × Int × List Int × Int × Int × List Int × Int × Bool × List TSig × List Int × Int
abbrev A6 : ETy := (.cons (.int .i64) (.cons (.int .i64) (.cons (.int .i64) (.cons (.int .i64) (.cons (.int .i64) (.cons (.int .i64) (.cons (.int .i64) (.cons (.int .i64) (.cons (.sl (.cons (.int .i64) .nil)) (.cons (.int .i64) (.cons (.sl (.cons (.int .i64) .nil)) (.cons (.int .i64) (.cons (.int .i64) (.cons (.sl (.cons (.int .i64) .nil)) (.cons (.int .i64) (.cons .bool (.cons (.sl (.cons (.int .i64) (.cons (.int .i64) .nil))) (.cons (.sl (.cons (.int .i64) .nil)) (.cons (.int .i64) .nil)))))))))))))))))))
abbrev fl6 (x0 : TSigned) (x1 : TKeys) : D6 := (x0.1, x0.2.1, x0.2.2.1, x0.2.2.2.1, x0.2.2.2.2.1, x0.2.2.2.2.2.1, x0.2.2.2.2.2.2.1, x0.2.2.2.2.2.2.2.1, x0.2.2.2.2.2.2.2.2.1, x0.2.2.2.2.2.2.2.2.2.1, x0.2.2.2.2.2.2.2.2.2.2.1, x0.2.2.2.2.2.2.2.2.2.2.2.1, x0.2.2.2.2.2.2.2.2.2.2.2.2.1, x0.2.2.2.2.2.2.2.2.2.2.2.2.2.1, x0.2.2.2.2.2.2.2.2.2.2.2.2.2.2.1, x0.2.2.2.2.2.2.2.2.2.2.2.2.2.2.2.1, x0.2.2.2.2.2.2.2.2.2.2.2.2.2.2.2.2, x1.1, x1.2)
abbrev p6_0 (x : D6) : TSigned := (x.1, x.2.1, x.2.2.1, x.2.2.2.1, x.2.2.2.2.1, x.2.2.2.2.2.1, x.2.2.2.2.2.2.1, x.2.2.2.2.2.2.2.1, x.2.2.2.2.2.2.2.2.1, x.2.2.2.2.2.2.2.2.2.1, x.2.2.2.2.2.2.2.2.2.2.1, x.2.2.2.2.2.2.2.2.2.2.2.1, x.2.2.2.2.2.2.2.2.2.2.2.2.1, x.2.2.2.2.2.2.2.2.2.2.2.2.2.1, x.2.2.2.2.2.2.2.2.2.2.2.2.2.2.1, x.2.2.2.2.2.2.2.2.2.2.2.2.2.2.2.1, x.2.2.2.2.2.2.2.2.2.2.2.2.2.2.2.2.1)
abbrev p6_1 (x : D6) : TKeys := x.2.2.2.2.2.2.2.2.2.2.2.2.2.2.2.2.2
abbrev D7 : Type := Int × Int × Int × Int × Int × Int × Int × Int × List Int × Int × List Int × Int × Int × List Int × Int × Bool × List TSig × Int × Int × Int × Int × Int × Int × Int × Int × List Int × Int × List Int × Int × Int × List Int × Int × Bool × List TSig
abbrev A7 : ETy := (.cons (.int .i64) (.cons (.int .i64) (.cons (.int .i64) (.cons (.int .i64) (.cons (.int .i64) (.cons (.int .i64) (.cons (.int .i64) (.cons (.int .i64) (.cons (.sl (.cons (.int .i64) .nil)) (.cons (.int .i64) (.cons (.sl (.cons (.int .i64) .nil)) (.cons (.int .i64) (.cons (.int .i64) (.cons (.sl (.cons (.int .i64) .nil)) (.cons (.int .i64) (.cons .bool (.cons (.sl (.cons (.int .i64) (.cons (.int .i64) .nil))) (.cons (.int .i64) (.cons (.int .i64) (.cons (.int .i64) (.cons (.int .i64) (.cons (.int .i64) (.cons (.int .i64) (.cons (.int .i64) (.cons (.int .i64) (.cons (.sl (.cons (.int .i64) .nil)) (.cons (.int .i64) (.cons (.sl (.cons (.int .i64) .nil)) (.cons (.int .i64) (.cons (.int .i64) (.cons (.sl (.cons (.int .i64) .nil)) (.cons (.int .i64) (.cons .bool (.cons (.sl (.cons (.int .i64) (.cons (.int .i64) .nil))) .nil))))))))))))))))))))))))))))))))))
abbrev fl7 (x0 : TSigned) (x1 : TSigned) : D7 := (x0.1, x0.2.1, x0.2.2.1, x0.2.2.2.1, x0.2.2.2.2.1, x0.2.2.2.2.2.1, x0.2.2.2.2.2.2.1, x0.2.2.2.2.2.2.2.1, x0.2.2.2.2.2.2.2.2.1, x0.2.2.2.2.2.2.2.2.2.1, x0.2.2.2.2.2.2.2.2.2.2.1, x0.2.2.2.2.2.2.2.2.2.2.2.1, x0.2.2.2.2.2.2.2.2.2.2.2.2.1, x0.2.2.2.2.2.2.2.2.2.2.2.2.2.1, x0.2.2.2.2.2.2.2.2.2.2.2.2.2.2.1, x0.2.2.2.2.2.2.2.2.2.2.2.2.2.2.2.1, x0.2.2.2.2.2.2.2.2.2.2.2.2.2.2.2.2, x1.1, x1.2.1, x1.2.2.1, x1.2.2.2.1, x1.2.2.2.2.1, x1.2.2.2.2.2.1, x1.2.2.2.2.2.2.1, x1.2.2.2.2.2.2.2.1, x1.2.2.2.2.2.2.2.2.1, x1.2.2.2.2.2.2.2.2.2.1, x1.2.2.2.2.2.2.2.2.2.2.1, x1.2.2.2.2.2.2.2.2.2.2.2.1, x1.2.2.2.2.2.2.2.2.2.2.2.2.1, x1.2.2.2.2.2.2.2.2.2.2.2.2.2.1, x1.2.2.2.2.2.2.2.2.2.2.2.2.2.2.1, x1.2.2.2.2.2.2.2.2.2.2.2.2.2.2.2.1, x1.2.2.2.2.2.2.2.2.2.2.2.2.2.2.2.2)
abbrev p7_0 (x : D7) : TSigned := (x.1, x.2.1, x.2.2.1, x.2.2.2.1, x.2.2.2.2.1, x.2.2.2.2.2.1, x.2.2.2.2.2.2.1, x.2.2.2.2.2.2.2.1, x.2.2.2.2.2.2.2.2.1, x.2.2.2.2.2.2.2.2.2.1, x.2.2.2.2.2.2.2.2.2.2.1, x.2.2.2.2.2.2.2.2.2.2.2.1, x.2.2.2.2.2.2.2.2.2.2.2.2.1, x.2.2.2.2.2.2.2.2.2.2.2.2.2.1, x.2.2.2.2.2.2.2.2.2.2.2.2.2.2.1, x.2.2.2.2.2.2.2.2.2.2.2.2.2.2.2.1, x.2.2.2.2.2.2.2.2.2.2.2.2.2.2.2.2.1)
abbrev p7_1 (x : D7) : TSigned := x.2.2.2.2.2.2.2.2.2.2.2.2.2.2.2.2.2
abbrev D8 : Type := Int × ByteArray × Int × Int × List ByteArray × ByteArray × Int × Int × List ByteArray × Int × List Int × Int × List Int × Int × ByteArray × Int × Int × List ByteArray × ByteArray × Int × Int × List ByteArray × Int × List Int × Int × List Int
abbrev A8 : ETy := (.cons (.int .i64) (.cons .str (.cons (.int .i64) (.cons (.int .i64) (.cons (.sl (.cons .str .nil)) (.cons .str (.cons (.int .i64) (.cons (.int .i64) (.cons (.sl (.cons .str .nil)) (.cons (.int .i64) (.cons (.sl (.cons (.int .i64) .nil)) (.cons (.int .i64) (.cons (.sl (.cons (.int .i64) .nil)) (.cons (.int .i64) (.cons .str (.cons (.int .i64) (.cons (.int .i64) (.cons (.sl (.cons .str .nil)) (.cons .str (.cons (.int .i64) (.cons (.int .i64) (.cons (.sl (.cons .str .nil)) (.cons (.int .i64) (.cons (.sl (.cons (.int .i64) .nil)) (.cons (.int .i64) (.cons (.sl (.cons (.int .i64) .nil)) .nil))))))))))))))))))))))))))
abbrev fl8 (x0 : TGap) (x1 : TGap) : D8 := (x0.1, x0.2.1, x0.2.2.1, x0.2.2.2.1, x0.2.2.2.2.1, x0.2.2.2.2.2.1, x0.2.2.2.2.2.2.1, x0.2.2.2.2.2.2.2.1, x0.2.2.2.2.2.2.2.2.1, x0.2.2.2.2.2.2.2.2.2.1, x0.2.2.2.2.2.2.2.2.2.2.1, x0.2.2.2.2.2.2.2.2.2.2.2.1, x0.2.2.2.2.2.2.2.2.2.2.2.2, x1.1, x1.2.1, x1.2.2.1, x1.2.2.2.1, x1.2.2.2.2.1, x1.2.2.2.2.2.1, x1.2.2.2.2.2.2.1, x1.2.2.2.2.2.2.2.1, x1.2.2.2.2.2.2.2.2.1, x1.2.2.2.2.2.2.2.2.2.1, x1.2.2.2.2.2.2.2.2.2.2.1, x1.2.2.2.2.2.2.2.2.2.2.2.1, x1.2.2.2.2.2.2.2.2.2.2.2.2)
abbrev p8_0 (x : D8) : TGap := (x.1, x.2.1, x.2.2.1, x.2.2.2.1, x.2.2.2.2.1, x.2.2.2.2.2.1, x.2.2.2.2.2.2.1, x.2.2.2.2.2.2.2.1, x.2.2.2.2.2.2.2.2.1, x.2.2.2.2.2.2.2.2.2.1, x.2.2.2.2.2.2.2.2.2.2.1, x.2.2.2.2.2.2.2.2.2.2.2.1, x.2.2.2.2.2.2.2.2.2.2.2.2.1)
abbrev p8_1 (x : D8) : TGap := x.2.2.2.2.2.2.2.2.2.2.2.2.2
abbrev D9 : Type := List TSigned × Bool × ByteArray × Int × Int × List ByteArray × Int × List Int × Int × ByteArray × Int × Int × List ByteArray × ByteArray × Int × Int × List ByteArray × Int × List Int × Int × List Int × List TSigned × Bool × ByteArray × Int × Int × List ByteArray × Int × List Int × Int × ByteArray × Int × Int × List ByteArray × ByteArray × Int × Int × List ByteArray × Int × List Int × Int × List Int
abbrev A9 : ETy := (.cons (.sl eSigned) (.cons .bool (.cons .str (.cons (.int .i64) (.cons (.int .i64) (.cons (.sl (.cons .str .nil)) (.cons (.int .i64) (.cons (.sl (.cons (.int .i64) .nil)) (.cons (.int .i64) (.cons .str (.cons (.int .i64) (.cons (.int .i64) (.cons (.sl (.cons .str .nil)) (.cons .str (.cons (.int .i64) (.cons (.int .i64) (.cons (.sl (.cons .str .nil)) (.cons (.int .i64) (.cons (.sl (.cons (.int .i64) .nil)) (.cons (.int .i64) (.cons (.sl (.cons (.int .i64) .nil)) (.cons (.sl eSigned) (.cons .bool (.cons .str (.cons (.int .i64) (.cons (.int .i64) (.cons (.sl (.cons .str .nil)) (.cons (.int .i64) (.cons (.sl (.cons (.int .i64) .nil)) (.cons (.int .i64) (.cons .str (.cons (.int .i64) (.cons (.int .i64) (.cons (.sl (.cons .str .nil)) (.cons .str (.cons (.int .i64) (.cons (.int .i64) (.cons (.sl (.cons .str .nil)) (.cons (.int .i64) (.cons (.sl (.cons (.int .i64) .nil)) (.cons (.int .i64) (.cons (.sl (.cons (.int .i64) .nil)) .nil))))))))))))))))))))))))))))))))))))))))))
abbrev fl9 (x0 : TAnswer) (x1 : TAnswer) : D9 := (x0.1, x0.2.1, x0.2.2.1, x0.2.2.2.1, x0.2.2.2.2.1, x0.2.2.2.2.2.1, x0.2.2.2.2.2.2.1, x0.2.2.2.2.2.2.2.1, x0.2.2.2.2.2.2.2.2.1, x0.2.2.2.2.2.2.2.2.2.1, x0.2.2.2.2.2.2.2.2.2.2.1, x0.2.2.2.2.2.2.2.2.2.2.2.1, x0.2.2.2.2.2.2.2.2.2.2.2.2.1, x0.2.2.2.2.2.2.2.2.2.2.2.2.2.1, x0.2.2.2.2.2.2.2.2.2.2.2.2.2.2.1, x0.2.2.2.2.2.2.2.2.2.2.2.2.2.2.2.1, x0.2.2.2.2.2.2.2.2.2.2.2.2.2.2.2.2.1, x0.2.2.2.2.2.2.2.2.2.2.2.2.2.2.2.2.2.1, x0.2.2.2.2.2.2.2.2.2.2.2.2.2.2.2.2.2.2.1, x0.2.2.2.2.2.2.2.2.2.2.2.2.2.2.2.2.2.2.2.1, x0.2.2.2.2.2.2.2.2.2.2.2.2.2.2.2.2.2.2.2.2, x1.1, x1.2.1, x1.2.2.1, x1.2.2.2.1, x1.2.2.2.2.1, x1.2.2.2.2.2.1, x1.2.2.2.2.2.2.1, x1.2.2.2.2.2.2.2.1, x1.2.2.2.2.2.2.2.2.1, x1.2.2.2.2.2.2.2.2.2.1, x1.2.2.2.2.2.2.2.2.2.2.1, x1.2.2.2.2.2.2.2.2.2.2.2.1, x1.2.2.2.2.2.2.2.2.2.2.2.2.1, x1.2.2.2.2.2.2.2.2.2.2.2.2.2.1, x1.2.2.2.2.2.2.2.2.2.2.2.2.2.2.1, x1.2.2.2.2.2.2.2.2.2.2.2.2.2.2.2.1, x1.2.2.2.2.2.2.2.2.2.2.2.2.2.2.2.2.1, x1.2.2.2.2.2.2.2.2.2.2.2.2.2.2.2.2.2.1, x1.2.2.2.2.2.2.2.2.2.2.2.2.2.2.2.2.2.2.1, x1.2.2.2.2.2.2.2.2.2.2.2.2.2.2.2.2.2.2.2.1, x1.2.2.2.2.2.2.2.2.2.2.2.2.2.2.2.2.2.2.2.2)
abbrev p9_0 (x : D9) : TAnswer := (x.1, x.2.1, x.2.2.1, x.2.2.2.1, x.2.2.2.2.1, x.2.2.2.2.2.1, x.2.2.2.2.2.2.1, x.2.2.2.2.2.2.2.1, x.2.2.2.2.2.2.2.2.1, x.2.2.2.2.2.2.2.2.2.1, x.2.2.2.2.2.2.2.2.2.2.1, x.2.2.2.2.2.2.2.2.2.2.2.1, x.2.2.2.2.2.2.2.2.2.2.2.2.1, x.2.2.2.2.2.2.2.2.2.2.2.2.2.1, x.2.2.2.2.2.2.2.2.2.2.2.2.2.2.1, x.2.2.2.2.2.2.2.2.2.2.2.2.2.2.2.1, x.2.2.2.2.2.2.2.2.2.2.2.2.2.2.2.2.1, x.2.2.2.2.2.2.2.2.2.2.2.2.2.2.2.2.2.1, x.2.2.2.2.2.2.2.2.2.2.2.2.2.2.2.2.2.2.1, x.2.2.2.2.2.2.2.2.2.2.2.2.2.2.2.2.2.2.2.1, x.2.2.2.2.2.2.2.2.2.2.2.2.2.2.2.2.2.2.2.2.1)
abbrev p9_1 (x : D9) : TAnswer := x.2.2.2.2.2.2.2.2.2.2.2.2.2.2.2.2.2.2.2.2.2
noncomputable abbrev lsHead (x : THead) : List Lf := [.val (.int .i64 x.1), .val (.int .i64 x.2.1), .val (.int .i64 x.2.2.1), .val (.int .i64 x.2.2.2.1), .val (.int .i64 x.2.2.2.2.1), .val (.int .i64 x.2.2.2.2.2.1), .val (.int .i64 x.2.2.2.2.2.2.1), .val (.int .i64 x.2.2.2.2.2.2.2.1), .val (.sl (.cons (.int .i64) .nil) x.2.2.2.2.2.2.2.2.1), .val (.int .i64 x.2.2.2.2.2.2.2.2.2.1), .val (.sl (.cons (.int .i64) .nil) x.2.2.2.2.2.2.2.2.2.2.1), .val (.int .i64 x.2.2.2.2.2.2.2.2.2.2.2.1), .val (.int .i64 x.2.2.2.2.2.2.2.2.2.2.2.2.1), .val (.sl (.cons (.int .i64) .nil) x.2.2.2.2.2.2.2.2.2.2.2.2.2.1), .val (.int .i64 x.2.2.2.2.2.2.2.2.2.2.2.2.2.2.1), .val (.bool x.2.2.2.2.2.2.2.2.2.2.2.2.2.2.2)]
noncomputable abbrev lsSigned (x : TSigned) : List Lf := [.val (.int .i64 x.1), .val (.int .i64 x.2.1), .val (.int .i64 x.2.2.1), .val (.int .i64 x.2.2.2.1), .val (.int .i64 x.2.2.2.2.1), .val (.int .i64 x.2.2.2.2.2.1), .val (.int .i64 x.2.2.2.2.2.2.1), .val (.int .i64 x.2.2.2.2.2.2.2.1), .val (.sl (.cons (.int .i64) .nil) x.2.2.2.2.2.2.2.2.1), .val (.int .i64 x.2.2.2.2.2.2.2.2.2.1), .val (.sl (.cons (.int .i64) .nil) x.2.2.2.2.2.2.2.2.2.2.1), .val (.int .i64 x.2.2.2.2.2.2.2.2.2.2.2.1), .val (.int .i64 x.2.2.2.2.2.2.2.2.2.2.2.2.1), .val (.sl (.cons (.int .i64) .nil) x.2.2.2.2.2.2.2.2.2.2.2.2.2.1), .val (.int .i64 x.2.2.2.2.2.2.2.2.2.2.2.2.2.2.1), .val (.bool x.2.2.2.2.2.2.2.2.2.2.2.2.2.2.2.1), .val (.sl (.cons (.int .i64) (.cons (.int .i64) .nil)) x.2.2.2.2.2.2.2.2.2.2.2.2.2.2.2.2)]
noncomputable abbrev lsGap (x : TGap) : List Lf := [.val (.int .i64 x.1), .val (.str x.2.1), .val (.int .i64 x.2.2.1), .val (.int .i64 x.2.2.2.1), .val (.sl (.cons .str .nil) x.2.2.2.2.1), .val (.str x.2.2.2.2.2.1), .val (.int .i64 x.2.2.2.2.2.2.1), .val (.int .i64 x.2.2.2.2.2.2.2.1), .val (.sl (.cons .str .nil) x.2.2.2.2.2.2.2.2.1), .val (.int .i64 x.2.2.2.2.2.2.2.2.2.1), .val (.sl (.cons (.int .i64) .nil) x.2.2.2.2.2.2.2.2.2.2.1), .val (.int .i64 x.2.2.2.2.2.2.2.2.2.2.2.1), .val (.sl (.cons (.int .i64) .nil) x.2.2.2.2.2.2.2.2.2.2.2.2)]
noncomputable abbrev lsAnswer (x : TAnswer) : List Lf := [.val (.sl eSigned x.1), .val (.bool x.2.1), .val (.str x.2.2.1), .val (.int .i64 x.2.2.2.1), .val (.int .i64 x.2.2.2.2.1), .val (.sl (.cons .str .nil) x.2.2.2.2.2.1), .val (.int .i64 x.2.2.2.2.2.2.1), .val (.sl (.cons (.int .i64) .nil) x.2.2.2.2.2.2.2.1), .val (.int .i64 x.2.2.2.2.2.2.2.2.1), .val (.str x.2.2.2.2.2.2.2.2.2.1), .val (.int .i64 x.2.2.2.2.2.2.2.2.2.2.1), .val (.int .i64 x.2.2.2.2.2.2.2.2.2.2.2.1), .val (.sl (.cons .str .nil) x.2.2.2.2.2.2.2.2.2.2.2.2.1), .val (.str x.2.2.2.2.2.2.2.2.2.2.2.2.2.1), .val (.int .i64 x.2.2.2.2.2.2.2.2.2.2.2.2.2.2.1), .val (.int .i64 x.2.2.2.2.2.2.2.2.2.2.2.2.2.2.2.1), .val (.sl (.cons .str .nil) x.2.2.2.2.2.2.2.2.2.2.2.2.2.2.2.2.1), .val (.int .i64 x.2.2.2.2.2.2.2.2.2.2.2.2.2.2.2.2.2.1), .val (.sl (.cons (.int .i64) .nil) x.2.2.2.2.2.2.2.2.2.2.2.2.2.2.2.2.2.2.1), .val (.int .i64 x.2.2.2.2.2.2.2.2.2.2.2.2.2.2.2.2.2.2.2.1), .val (.sl (.cons (.int .i64) .nil) x.2.2.2.2.2.2.2.2.2.2.2.2.2.2.2.2.2.2.2.2)]
abbrev tys : List (Nat × TI) := [(3, ⟨.int .i64, false, [.val (.int .i64 (0 : Int))], 8, [], (.cons (.int .i64) .nil)⟩),
  (4, ⟨.bool, false, [.val (.bool false)], 1, [], (.cons .bool .nil)⟩),
  (5, ⟨.int .u8, false, [.val (.int .u8 (0 : Int))], 1, [], (.cons (.int .u8) .nil)⟩),
  (9, ⟨.str, false, [.val (.str (⟨#[]⟩ : ByteArray))], 16, [], (.cons .str .nil)⟩),
  (22, ⟨.sl 36, false, [.nil0], 24, [], (.cons (.sl (.cons (.sl (.cons (.sl V.eSigned) (.cons (.sl V.eEntry) .nil))) (.cons (.int .i64) .nil))) .nil)⟩),
  (24, ⟨.sl 47, false, [.nil0], 24, [], (.cons (.sl V.eAnswer) .nil)⟩),
  (26, ⟨.sl 51, false, [.nil0], 24, [], (.cons (.sl (.cons (.sl (.cons (.sl V.eSigned) (.cons (.sl V.eEntry) .nil))) (.cons (.int .i64) .nil))) .nil)⟩),
  (34, ⟨.sl 86, false, [.nil0], 24, [], (.cons (.sl (.cons (.sl V.eSigned) (.cons (.sl V.eEntry) .nil))) .nil)⟩),
  (36, ⟨.st, false, [.nil0, .val (.int .i64 (0 : Int))], 32, [(0, 1, false), (1, 1, false)], (.cons (.sl (.cons (.sl V.eSigned) (.cons (.sl V.eEntry) .nil))) (.cons (.int .i64) .nil))⟩),
  (37, ⟨.sl 79, false, [.nil0], 24, [], (.cons (.sl V.eSigned) .nil)⟩),
  (38, ⟨.sl 9, false, [.nil0], 24, [], (.cons (.sl (.cons .str .nil)) .nil)⟩),
  (40, ⟨.st, false, [.val (.str (⟨#[]⟩ : ByteArray)), .val (.int .i64 (0 : Int)), .val (.int .i64 (0 : Int)), .nil0], 56, [(0, 1, false), (1, 1, false), (2, 1, false), (3, 1, false)], V.eEntry⟩),
  (41, ⟨.sl 3, false, [.nil0], 24, [], (.cons (.sl (.cons (.int .i64) .nil)) .nil)⟩),
  (43, ⟨.st, false, [.val (.int .i64 (0 : Int)), .nil0], 32, [(0, 1, false), (1, 1, false)], (.cons (.int .i64) (.cons (.sl (.cons (.int .i64) .nil)) .nil))⟩),
  (45, ⟨.st, false, [.val (.int .i64 (0 : Int)), .val (.str (⟨#[]⟩ : ByteArray)), .val (.int .i64 (0 : Int)), .val (.int .i64 (0 : Int)), .nil0, .val (.str (⟨#[]⟩ : ByteArray)), .val (.int .i64 (0 : Int)), .val (.int .i64 (0 : Int)), .nil0, .val (.int .i64 (0 : Int)), .nil0, .val (.int .i64 (0 : Int)), .nil0], 184, [(0, 1, false), (1, 4, true), (5, 4, true), (9, 2, true), (11, 2, true)], V.eGap⟩),
  (47, ⟨.st, false, [.nil0, .val (.bool false), .val (.str (⟨#[]⟩ : ByteArray)), .val (.int .i64 (0 : Int)), .val (.int .i64 (0 : Int)), .nil0, .val (.int .i64 (0 : Int)), .nil0, .val (.int .i64 (0 : Int)), .val (.str (⟨#[]⟩ : ByteArray)), .val (.int .i64 (0 : Int)), .val (.int .i64 (0 : Int)), .nil0, .val (.str (⟨#[]⟩ : ByteArray)), .val (.int .i64 (0 : Int)), .val (.int .i64 (0 : Int)), .nil0, .val (.int .i64 (0 : Int)), .nil0, .val (.int .i64 (0 : Int)), .nil0], 304, [(0, 1, false), (1, 1, false), (2, 4, true), (6, 2, true), (8, 13, true)], V.eAnswer⟩),
  (49, ⟨.sl 65, false, [.nil0], 24, [], (.cons (.sl (.cons (.sl V.eSigned) (.cons (.sl V.eEntry) .nil))) .nil)⟩),
  (51, ⟨.st, false, [.nil0, .val (.int .i64 (0 : Int))], 32, [(0, 1, false), (1, 1, false)], (.cons (.sl (.cons (.sl V.eSigned) (.cons (.sl V.eEntry) .nil))) (.cons (.int .i64) .nil))⟩),
  (63, ⟨.sl 40, false, [.nil0], 24, [], (.cons (.sl V.eEntry) .nil)⟩),
  (65, ⟨.st, false, [.nil0, .nil0], 48, [(0, 1, false), (1, 1, false)], (.cons (.sl V.eSigned) (.cons (.sl V.eEntry) .nil))⟩),
  (74, ⟨.st, false, [.nil0, .val (.int .i64 (0 : Int))], 32, [(0, 1, false), (1, 1, false)], (.cons (.sl (.cons (.int .i64) .nil)) (.cons (.int .i64) .nil))⟩),
  (76, ⟨.st, false, [.val (.int .i64 (0 : Int)), .val (.int .i64 (0 : Int)), .val (.int .i64 (0 : Int)), .val (.int .i64 (0 : Int)), .val (.int .i64 (0 : Int)), .val (.int .i64 (0 : Int)), .val (.int .i64 (0 : Int)), .val (.int .i64 (0 : Int)), .nil0, .val (.int .i64 (0 : Int)), .nil0, .val (.int .i64 (0 : Int)), .val (.int .i64 (0 : Int)), .nil0, .val (.int .i64 (0 : Int)), .val (.bool false)], 176, [(0, 1, false), (1, 1, false), (2, 1, false), (3, 1, false), (4, 1, false), (5, 1, false), (6, 1, false), (7, 1, false), (8, 2, true), (10, 2, true), (12, 1, false), (13, 2, true), (15, 1, false)], V.eHead⟩),
  (77, ⟨.sl 104, false, [.nil0], 24, [], (.cons (.sl (.cons (.int .i64) (.cons (.int .i64) .nil))) .nil)⟩),
  (79, ⟨.st, false, [.val (.int .i64 (0 : Int)), .val (.int .i64 (0 : Int)), .val (.int .i64 (0 : Int)), .val (.int .i64 (0 : Int)), .val (.int .i64 (0 : Int)), .val (.int .i64 (0 : Int)), .val (.int .i64 (0 : Int)), .val (.int .i64 (0 : Int)), .nil0, .val (.int .i64 (0 : Int)), .nil0, .val (.int .i64 (0 : Int)), .val (.int .i64 (0 : Int)), .nil0, .val (.int .i64 (0 : Int)), .val (.bool false), .nil0], 200, [(0, 16, true), (16, 1, false)], V.eSigned⟩),
  (81, ⟨.sl 5, false, [.nil0], 24, [], (.cons (.sl (.cons (.int .u8) .nil)) .nil)⟩),
  (83, ⟨.sl 131, false, [.nil0], 24, [], (.cons (.sl V.eSigned) .nil)⟩),
  (84, ⟨.sl 133, false, [.nil0], 24, [], (.cons (.sl V.eEntry) .nil)⟩),
  (86, ⟨.st, false, [.nil0, .nil0], 48, [(0, 1, false), (1, 1, false)], (.cons (.sl V.eSigned) (.cons (.sl V.eEntry) .nil))⟩),
  (104, ⟨.st, true, [.val (.int .i64 (0 : Int)), .val (.int .i64 (0 : Int))], 16, [(0, 1, false), (1, 1, false)], (.cons (.int .i64) (.cons (.int .i64) .nil))⟩),
  (126, ⟨.st, false, [.nil0, .val (.int .i64 (0 : Int))], 32, [(0, 1, false), (1, 1, false)], (.cons (.sl (.cons (.int .i64) .nil)) (.cons (.int .i64) .nil))⟩),
  (128, ⟨.st, false, [.val (.int .i64 (0 : Int)), .val (.int .i64 (0 : Int)), .val (.int .i64 (0 : Int)), .val (.int .i64 (0 : Int)), .val (.int .i64 (0 : Int)), .val (.int .i64 (0 : Int)), .val (.int .i64 (0 : Int)), .val (.int .i64 (0 : Int)), .nil0, .val (.int .i64 (0 : Int)), .nil0, .val (.int .i64 (0 : Int)), .val (.int .i64 (0 : Int)), .nil0, .val (.int .i64 (0 : Int)), .val (.bool false)], 176, [(0, 1, false), (1, 1, false), (2, 1, false), (3, 1, false), (4, 1, false), (5, 1, false), (6, 1, false), (7, 1, false), (8, 2, true), (10, 2, true), (12, 1, false), (13, 2, true), (15, 1, false)], V.eHead⟩),
  (129, ⟨.sl 161, false, [.nil0], 24, [], (.cons (.sl (.cons (.int .i64) (.cons (.int .i64) .nil))) .nil)⟩),
  (131, ⟨.st, false, [.val (.int .i64 (0 : Int)), .val (.int .i64 (0 : Int)), .val (.int .i64 (0 : Int)), .val (.int .i64 (0 : Int)), .val (.int .i64 (0 : Int)), .val (.int .i64 (0 : Int)), .val (.int .i64 (0 : Int)), .val (.int .i64 (0 : Int)), .nil0, .val (.int .i64 (0 : Int)), .nil0, .val (.int .i64 (0 : Int)), .val (.int .i64 (0 : Int)), .nil0, .val (.int .i64 (0 : Int)), .val (.bool false), .nil0], 200, [(0, 16, true), (16, 1, false)], V.eSigned⟩),
  (133, ⟨.st, false, [.val (.str (⟨#[]⟩ : ByteArray)), .val (.int .i64 (0 : Int)), .val (.int .i64 (0 : Int)), .nil0], 56, [(0, 1, false), (1, 1, false), (2, 1, false), (3, 1, false)], V.eEntry⟩),
  (161, ⟨.st, true, [.val (.int .i64 (0 : Int)), .val (.int .i64 (0 : Int))], 16, [(0, 1, false), (1, 1, false)], (.cons (.int .i64) (.cons (.int .i64) .nil))⟩),
  (183, ⟨.sl 41, false, [.nil0], 24, [], (.cons (.sl (.cons (.sl (.cons (.int .i64) .nil)) .nil)) .nil)⟩)]
theorem tysOk : tyAll Tryz.prog tys = true := by kernel_rfl
theorem mixed : Tryz.prog.follows .mixedOrders = true := by kernel_rfl
theorem cfl {α : Type} {a b c : α} (e : a = b) (h : a = c) : b = c := e.symm.trans h
theorem fo {g : Nat} {fn : Func} {con : Con} {tab : List (Nat × Con)} {heads : List (Nat × List Nat × Cv)} {pre : List (Nat × Nat)} {shallow : List Nat} {movs flts : List (Nat × List Nat)} (h : TabOk Tryz.prog tab) (hf : Tryz.prog.funcs[g]? = some fn) (hq : (!(fn.name == "runtime.NumGoroutine") && (!fn.body.isNone && conOk con fn.ntmps)) = true) (hev : ∀ x y, con.f x = some y → evBody (mkE tys tab heads pre shallow movs flts) con fn x = some y) : Valid Tryz.prog g con := by
  simp only [Bool.and_eq_true, Bool.not_eq_true'] at hq
  exact body_ok (env_ok mixed tysOk h) hf hq.1 hq.2.1 hq.2.2 hev
theorem fo2 {g : Nat} {fn : Func} {con : Con} {tab tab2 : List (Nat × Con)} {sites : List Nat} {heads : List (Nat × List Nat × Cv)} {pre : List (Nat × Nat)} {shallow : List Nat} {movs flts : List (Nat × List Nat)} (h : TabOk Tryz.prog tab) (h2 : TabOk Tryz.prog tab2) (hf : Tryz.prog.funcs[g]? = some fn) (hq : (!(fn.name == "runtime.NumGoroutine") && (!fn.body.isNone && conOk con fn.ntmps)) = true) (hev : ∀ x y, con.f x = some y → evBody (mkE2 tys tab sites tab2 heads pre shallow movs flts) con fn x = some y) : Valid Tryz.prog g con := by
  simp only [Bool.and_eq_true, Bool.not_eq_true'] at hq
  exact body_ok (env_ok2 mixed tysOk h h2) hf hq.1 hq.2.1 hq.2.2 hev
end V
noncomputable abbrev Z177.con : V.Con := ⟨(.cons (.sl (.cons (.int .i64) .nil)) (.cons (.int .i64) .nil)), (.cons (.int .i64) .nil), fun (x : List Int × Int) => Z177 x.1 x.2, [], [(false, 1), (false, 1)], [(false, 1)], [false], []⟩
noncomputable abbrev Z177.E : V.Env := V.mkE V.tys [] [] [] [] [] []
theorem Z177.eq (x0 : List Int) (x1 : Int) : V.evBody Z177.E Z177.con Tryz.f157 ((x0, x1) : List Int × Int) = Z177 x0 x1 := by kernel_rfl
theorem Z177.ok : V.Valid Tryz.prog 157 Z177.con :=
  V.fo V.tab_nil Tryz.func157 (by kernel_rfl) (fun x y h => (show V.evBody Z177.E Z177.con Tryz.f157 x = _ from Z177.eq x.1 x.2).trans (V.cfl (by kernel_rfl) h))
noncomputable abbrev Z147.con : V.Con := ⟨(.cons (.sl (.cons (.int .i64) .nil)) (.cons (.int .i64) (.cons (.int .i64) .nil))), (.cons (.int .i64) .nil), fun (x : List Int × Int × Int) => Z147 (x.1, x.2.1) x.2.2, [], [(true, 2), (false, 1)], [(false, 1)], [false], []⟩
noncomputable abbrev Z147.E : V.Env := V.mkE V.tys [(157, Z177.con)] [] [] [] [] []
theorem Z147.eq (x0 : TKeys) (x1 : Int) : V.evBody Z147.E Z147.con Tryz.f139 ((x0.1, x0.2, x1) : List Int × Int × Int) = Z147 x0 x1 := by kernel_rfl
theorem Z147.ok : V.Valid Tryz.prog 139 Z147.con :=
  V.fo (V.tab_cons Z177.ok V.tab_nil) Tryz.func139 (by kernel_rfl) (fun x y h => (show V.evBody Z147.E Z147.con Tryz.f139 x = _ from Z147.eq (x.1, x.2.1) x.2.2).trans (V.cfl (by kernel_rfl) h))
noncomputable abbrev Z112.con : V.Con := ⟨V.A0, (.cons (.int .i64) .nil), fun (x : V.D0) => Z112 (V.p0_0 x) (V.p0_1 x), [], [(true, 16), (false, 1)], [(false, 1)], [false], []⟩
noncomputable abbrev Z112.E : V.Env := V.mkE V.tys [(139, Z147.con)] [] [] [] [] []
noncomputable abbrev Z112.kt (x0 : THead) (x1 : Int) : V.Kt Int := V.ktOf Z112.E Z112.con Tryz.f114 (V.fl0 x0 x1)
noncomputable abbrev Z112.s (x0 : THead) (x1 : Int) : V.St := ⟨[(0, .v true (V.lsHead x0)), (1, .v false [.val (.int .i64 x1)])], []⟩
theorem Z112.v0 (x0 : THead) (x1 : Int) : V.evBody Z112.E Z112.con Tryz.f114 (V.fl0 x0 x1) = V.evC Z112.E Tryz.f114.ntmps (V.codeOf Tryz.f114) (Z112.kt x0 x1) (Z112.s x0 x1) := by kernel_rfl
theorem Z112.v (x0 : THead) (x1 : Int) : V.evC Z112.E Tryz.f114.ntmps (V.codeOf Tryz.f114) (Z112.kt x0 x1) (Z112.s x0 x1) = Z112 x0 x1 := by kernel_rfl
theorem Z112.eq (x0 : THead) (x1 : Int) : V.evBody Z112.E Z112.con Tryz.f114 (V.fl0 x0 x1) = Z112 x0 x1 := (Z112.v0 x0 x1).trans (Z112.v x0 x1)
theorem Z112.ok : V.Valid Tryz.prog 114 Z112.con :=
  V.fo (V.tab_cons Z147.ok V.tab_nil) Tryz.func114 (by kernel_rfl) (fun x y h => (show V.evBody Z112.E Z112.con Tryz.f114 x = _ from Z112.eq (V.p0_0 x) (V.p0_1 x)).trans (V.cfl (by kernel_rfl) h))
noncomputable abbrev Z178.con : V.Con := ⟨(.cons (.sl (.cons (.int .i64) (.cons (.int .i64) .nil))) (.cons (.int .i64) .nil)), (.cons (.int .i64) .nil), fun (x : List TSig × Int) => Z178 x.1 x.2, [], [(false, 1), (false, 1)], [(false, 1)], [false], []⟩
noncomputable abbrev Z178.E : V.Env := V.mkE V.tys [] [] [] [] [] []
theorem Z178.eq (x0 : List TSig) (x1 : Int) : V.evBody Z178.E Z178.con Tryz.f115 ((x0, x1) : List TSig × Int) = Z178 x0 x1 := by kernel_rfl
theorem Z178.ok : V.Valid Tryz.prog 115 Z178.con :=
  V.fo V.tab_nil Tryz.func115 (by kernel_rfl) (fun x y h => (show V.evBody Z178.E Z178.con Tryz.f115 x = _ from Z178.eq x.1 x.2).trans (V.cfl (by kernel_rfl) h))
noncomputable abbrev Z101.con : V.Con := ⟨V.A1, (.cons (.int .i64) .nil), fun (x : V.D1) => Z101 (V.p1_0 x) (V.p1_1 x), [], [(true, 17), (false, 1)], [(false, 1)], [false], []⟩
noncomputable abbrev Z101.E : V.Env := V.mkE V.tys [(114, Z112.con), (115, Z178.con)] [] [] [] [] []
noncomputable abbrev Z101.kt (x0 : TSigned) (x1 : Int) : V.Kt Int := V.ktOf Z101.E Z101.con Tryz.f93 (V.fl1 x0 x1)
noncomputable abbrev Z101.s (x0 : TSigned) (x1 : Int) : V.St := ⟨[(0, .v true (V.lsSigned x0)), (1, .v false [.val (.int .i64 x1)])], []⟩
theorem Z101.v0 (x0 : TSigned) (x1 : Int) : V.evBody Z101.E Z101.con Tryz.f93 (V.fl1 x0 x1) = V.evC Z101.E Tryz.f93.ntmps (V.codeOf Tryz.f93) (Z101.kt x0 x1) (Z101.s x0 x1) := by kernel_rfl
theorem Z101.v (x0 : TSigned) (x1 : Int) : V.evC Z101.E Tryz.f93.ntmps (V.codeOf Tryz.f93) (Z101.kt x0 x1) (Z101.s x0 x1) = Z101 x0 x1 := by kernel_rfl
theorem Z101.eq (x0 : TSigned) (x1 : Int) : V.evBody Z101.E Z101.con Tryz.f93 (V.fl1 x0 x1) = Z101 x0 x1 := (Z101.v0 x0 x1).trans (Z101.v x0 x1)
theorem Z101.ok : V.Valid Tryz.prog 93 Z101.con :=
  V.fo (V.tab_cons Z112.ok (V.tab_cons Z178.ok V.tab_nil)) Tryz.func93 (by kernel_rfl) (fun x y h => (show V.evBody Z101.E Z101.con Tryz.f93 x = _ from Z101.eq (V.p1_0 x) (V.p1_1 x)).trans (V.cfl (by kernel_rfl) h))
noncomputable abbrev Z68.con : V.Con := ⟨(.cons (.sl V.eSigned) (.cons (.int .i64) .nil)), (.cons (.int .i64) .nil), fun (x : List TSigned × Int) => Z68 x.1 x.2, [], [(false, 1), (false, 1)], [(false, 1)], [false], []⟩
noncomputable abbrev Z68.E : V.Env := V.mkE V.tys [(93, Z101.con)] [(10, [0, 1, 5], [])] [] [] [] []
noncomputable abbrev Z68.kt (x0 : List TSigned) (x1 : Int) : V.Kt Int := V.ktOf Z68.E Z68.con Tryz.f65 ((x0, x1) : List TSigned × Int)
noncomputable abbrev Z68.s10 (x0 : List TSigned) (v10_1 : Int) (v10_2 : Int) : V.St := ⟨[(0, .v false [.val (.sl V.eSigned x0)]), (1, .v false [.val (.int .i64 v10_1)]), (5, .v false [.val (.int .i64 v10_2)])], []⟩
theorem Z68.r10 (x0 : List TSigned) (x1 : Int) (R : V.St → Option Int) (v10_1 : Int) (v10_2 : Int) : V.loopF Z68.E Tryz.f65.ntmps [1, 1, 1, 0, 1, 0] [] (V.codeOf Tryz.f65) (Z68.kt x0 x1) R (Z68.s10 x0 v10_1 v10_2) = Z68.g10 x0 (fun v10_1 v10_2 => R (Z68.s10 x0 v10_1 v10_2)) v10_1 v10_2 := by kernel_rfl
theorem Z68.e10 (x0 : List TSigned) (x1 : Int) : ∀ (n : Nat) (v10_1 : Int) (v10_2 : Int), V.loopN (V.loopF Z68.E Tryz.f65.ntmps [1, 1, 1, 0, 1, 0] [] (V.codeOf Tryz.f65) (Z68.kt x0 x1)) n (Z68.s10 x0 v10_1 v10_2) = Z68.l10 x0 n v10_1 v10_2 := by
  intro n
  induction n with
  | zero => intros; rw [V.loopN_z]; rfl
  | succ n ih =>
    intro v10_1 v10_2
    rw [V.loopN_s, Z68.r10]
    simp only [ih]
    first | exact (Z68.u10 ..).symm | rfl
theorem Z68.v (x0 : List TSigned) (x1 : Int) : V.evBody Z68.E Z68.con Tryz.f65 ((x0, x1) : List TSigned × Int) = Z68.b x0 x1 (fun v10_1 v10_2 => V.loopN (V.loopF Z68.E Tryz.f65.ntmps [1, 1, 1, 0, 1, 0] [] (V.codeOf Tryz.f65) (Z68.kt x0 x1)) V.KK (Z68.s10 x0 v10_1 v10_2)) := by kernel_rfl
theorem Z68.eq (x0 : List TSigned) (x1 : Int) : V.evBody Z68.E Z68.con Tryz.f65 ((x0, x1) : List TSigned × Int) = Z68 x0 x1 := by
  rw [Z68.v]
  simp only [Z68.e10]
  rfl
theorem Z68.ok : V.Valid Tryz.prog 65 Z68.con :=
  V.fo (V.tab_cons Z101.ok V.tab_nil) Tryz.func65 (by kernel_rfl) (fun x y h => (show V.evBody Z68.E Z68.con Tryz.f65 x = _ from Z68.eq x.1 x.2).trans (V.cfl (by kernel_rfl) h))
noncomputable abbrev Z54.con : V.Con := ⟨(.cons (.sl (.cons .str .nil)) (.cons (.int .i64) .nil)), (.cons (.int .i64) .nil), fun (x : List ByteArray × Int) => Z54 x.1 x.2, [], [(false, 1), (false, 1)], [(false, 1)], [false], []⟩
noncomputable abbrev Z54.E : V.Env := V.mkE V.tys [] [(10, [0, 1, 5], [])] [] [] [] []
noncomputable abbrev Z54.kt (x0 : List ByteArray) (x1 : Int) : V.Kt Int := V.ktOf Z54.E Z54.con Tryz.f116 ((x0, x1) : List ByteArray × Int)
noncomputable abbrev Z54.s10 (x0 : List ByteArray) (v10_1 : Int) (v10_2 : Int) : V.St := ⟨[(0, .v false [.val (.sl (.cons .str .nil) x0)]), (1, .v false [.val (.int .i64 v10_1)]), (5, .v false [.val (.int .i64 v10_2)])], []⟩
theorem Z54.r10 (x0 : List ByteArray) (x1 : Int) (R : V.St → Option Int) (v10_1 : Int) (v10_2 : Int) : V.loopF Z54.E Tryz.f116.ntmps [1, 1, 1, 0, 1, 0] [] (V.codeOf Tryz.f116) (Z54.kt x0 x1) R (Z54.s10 x0 v10_1 v10_2) = Z54.g10 x0 (fun v10_1 v10_2 => R (Z54.s10 x0 v10_1 v10_2)) v10_1 v10_2 := by kernel_rfl
theorem Z54.e10 (x0 : List ByteArray) (x1 : Int) : ∀ (n : Nat) (v10_1 : Int) (v10_2 : Int), V.loopN (V.loopF Z54.E Tryz.f116.ntmps [1, 1, 1, 0, 1, 0] [] (V.codeOf Tryz.f116) (Z54.kt x0 x1)) n (Z54.s10 x0 v10_1 v10_2) = Z54.l10 x0 n v10_1 v10_2 := by
  intro n
  induction n with
  | zero => intros; rw [V.loopN_z]; rfl
  | succ n ih =>
    intro v10_1 v10_2
    rw [V.loopN_s, Z54.r10]
    simp only [ih]
    first | exact (Z54.u10 ..).symm | rfl
theorem Z54.v (x0 : List ByteArray) (x1 : Int) : V.evBody Z54.E Z54.con Tryz.f116 ((x0, x1) : List ByteArray × Int) = Z54.b x0 x1 (fun v10_1 v10_2 => V.loopN (V.loopF Z54.E Tryz.f116.ntmps [1, 1, 1, 0, 1, 0] [] (V.codeOf Tryz.f116) (Z54.kt x0 x1)) V.KK (Z54.s10 x0 v10_1 v10_2)) := by kernel_rfl
theorem Z54.eq (x0 : List ByteArray) (x1 : Int) : V.evBody Z54.E Z54.con Tryz.f116 ((x0, x1) : List ByteArray × Int) = Z54 x0 x1 := by
  rw [Z54.v]
  simp only [Z54.e10]
  rfl
theorem Z54.ok : V.Valid Tryz.prog 116 Z54.con :=
  V.fo V.tab_nil Tryz.func116 (by kernel_rfl) (fun x y h => (show V.evBody Z54.E Z54.con Tryz.f116 x = _ from Z54.eq x.1 x.2).trans (V.cfl (by kernel_rfl) h))
noncomputable abbrev Z156.con : V.Con := ⟨(.cons .str (.cons (.int .i64) (.cons (.int .i64) (.cons (.sl (.cons .str .nil)) (.cons (.int .i64) .nil))))), (.cons (.int .i64) .nil), fun (x : ByteArray × Int × Int × List ByteArray × Int) => Z156 (x.1, x.2.1, x.2.2.1, x.2.2.2.1) x.2.2.2.2, [], [(true, 4), (false, 1)], [(false, 1)], [false], []⟩
noncomputable abbrev Z156.E : V.Env := V.mkE V.tys [(116, Z54.con)] [] [] [] [] []
theorem Z156.eq (x0 : TEntry) (x1 : Int) : V.evBody Z156.E Z156.con Tryz.f94 ((x0.1, x0.2.1, x0.2.2.1, x0.2.2.2, x1) : ByteArray × Int × Int × List ByteArray × Int) = Z156 x0 x1 := by kernel_rfl
theorem Z156.ok : V.Valid Tryz.prog 94 Z156.con :=
  V.fo (V.tab_cons Z54.ok V.tab_nil) Tryz.func94 (by kernel_rfl) (fun x y h => (show V.evBody Z156.E Z156.con Tryz.f94 x = _ from Z156.eq (x.1, x.2.1, x.2.2.1, x.2.2.2.1) x.2.2.2.2).trans (V.cfl (by kernel_rfl) h))
noncomputable abbrev Z66.con : V.Con := ⟨(.cons (.sl V.eEntry) (.cons (.int .i64) .nil)), (.cons (.int .i64) .nil), fun (x : List TEntry × Int) => Z66 x.1 x.2, [], [(false, 1), (false, 1)], [(false, 1)], [false], []⟩
noncomputable abbrev Z66.E : V.Env := V.mkE V.tys [(94, Z156.con)] [(10, [0, 1, 5], [])] [] [] [] []
noncomputable abbrev Z66.kt (x0 : List TEntry) (x1 : Int) : V.Kt Int := V.ktOf Z66.E Z66.con Tryz.f66 ((x0, x1) : List TEntry × Int)
noncomputable abbrev Z66.s10 (x0 : List TEntry) (v10_1 : Int) (v10_2 : Int) : V.St := ⟨[(0, .v false [.val (.sl V.eEntry x0)]), (1, .v false [.val (.int .i64 v10_1)]), (5, .v false [.val (.int .i64 v10_2)])], []⟩
theorem Z66.r10 (x0 : List TEntry) (x1 : Int) (R : V.St → Option Int) (v10_1 : Int) (v10_2 : Int) : V.loopF Z66.E Tryz.f66.ntmps [1, 1, 1, 0, 1, 0] [] (V.codeOf Tryz.f66) (Z66.kt x0 x1) R (Z66.s10 x0 v10_1 v10_2) = Z66.g10 x0 (fun v10_1 v10_2 => R (Z66.s10 x0 v10_1 v10_2)) v10_1 v10_2 := by kernel_rfl
theorem Z66.e10 (x0 : List TEntry) (x1 : Int) : ∀ (n : Nat) (v10_1 : Int) (v10_2 : Int), V.loopN (V.loopF Z66.E Tryz.f66.ntmps [1, 1, 1, 0, 1, 0] [] (V.codeOf Tryz.f66) (Z66.kt x0 x1)) n (Z66.s10 x0 v10_1 v10_2) = Z66.l10 x0 n v10_1 v10_2 := by
  intro n
  induction n with
  | zero => intros; rw [V.loopN_z]; rfl
  | succ n ih =>
    intro v10_1 v10_2
    rw [V.loopN_s, Z66.r10]
    simp only [ih]
    first | exact (Z66.u10 ..).symm | rfl
theorem Z66.v (x0 : List TEntry) (x1 : Int) : V.evBody Z66.E Z66.con Tryz.f66 ((x0, x1) : List TEntry × Int) = Z66.b x0 x1 (fun v10_1 v10_2 => V.loopN (V.loopF Z66.E Tryz.f66.ntmps [1, 1, 1, 0, 1, 0] [] (V.codeOf Tryz.f66) (Z66.kt x0 x1)) V.KK (Z66.s10 x0 v10_1 v10_2)) := by kernel_rfl
theorem Z66.eq (x0 : List TEntry) (x1 : Int) : V.evBody Z66.E Z66.con Tryz.f66 ((x0, x1) : List TEntry × Int) = Z66 x0 x1 := by
  rw [Z66.v]
  simp only [Z66.e10]
  rfl
theorem Z66.ok : V.Valid Tryz.prog 66 Z66.con :=
  V.fo (V.tab_cons Z156.ok V.tab_nil) Tryz.func66 (by kernel_rfl) (fun x y h => (show V.evBody Z66.E Z66.con Tryz.f66 x = _ from Z66.eq x.1 x.2).trans (V.cfl (by kernel_rfl) h))
noncomputable abbrev Z158.con : V.Con := ⟨(.cons (.sl V.eSigned) (.cons (.sl V.eEntry) (.cons (.int .i64) .nil))), (.cons (.int .i64) .nil), fun (x : List TSigned × List TEntry × Int) => Z158 (x.1, x.2.1) x.2.2, [], [(true, 2), (false, 1)], [(false, 1)], [false], []⟩
noncomputable abbrev Z158.E : V.Env := V.mkE V.tys [(65, Z68.con), (66, Z66.con)] [] [] [] [] []
theorem Z158.eq (x0 : TZone) (x1 : Int) : V.evBody Z158.E Z158.con Tryz.f41 ((x0.1, x0.2, x1) : List TSigned × List TEntry × Int) = Z158 x0 x1 := by kernel_rfl
theorem Z158.ok : V.Valid Tryz.prog 41 Z158.con :=
  V.fo (V.tab_cons Z68.ok (V.tab_cons Z66.ok V.tab_nil)) Tryz.func41 (by kernel_rfl) (fun x y h => (show V.evBody Z158.E Z158.con Tryz.f41 x = _ from Z158.eq (x.1, x.2.1) x.2.2).trans (V.cfl (by kernel_rfl) h))
noncomputable abbrev Z69.con : V.Con := ⟨(.cons (.sl (.cons (.sl V.eSigned) (.cons (.sl V.eEntry) .nil))) (.cons (.int .i64) .nil)), (.cons (.int .i64) .nil), fun (x : List TZone × Int) => Z69 x.1 x.2, [], [(false, 1), (false, 1)], [(false, 1)], [false], []⟩
noncomputable abbrev Z69.E : V.Env := V.mkE V.tys [(41, Z158.con)] [(10, [0, 1, 5], [])] [] [] [] []
noncomputable abbrev Z69.kt (x0 : List TZone) (x1 : Int) : V.Kt Int := V.ktOf Z69.E Z69.con Tryz.f27 ((x0, x1) : List TZone × Int)
noncomputable abbrev Z69.s10 (x0 : List TZone) (v10_1 : Int) (v10_2 : Int) : V.St := ⟨[(0, .v false [.val (.sl (.cons (.sl V.eSigned) (.cons (.sl V.eEntry) .nil)) x0)]), (1, .v false [.val (.int .i64 v10_1)]), (5, .v false [.val (.int .i64 v10_2)])], []⟩
theorem Z69.r10 (x0 : List TZone) (x1 : Int) (R : V.St → Option Int) (v10_1 : Int) (v10_2 : Int) : V.loopF Z69.E Tryz.f27.ntmps [1, 1, 1, 0, 1, 0] [] (V.codeOf Tryz.f27) (Z69.kt x0 x1) R (Z69.s10 x0 v10_1 v10_2) = Z69.g10 x0 (fun v10_1 v10_2 => R (Z69.s10 x0 v10_1 v10_2)) v10_1 v10_2 := by kernel_rfl
theorem Z69.e10 (x0 : List TZone) (x1 : Int) : ∀ (n : Nat) (v10_1 : Int) (v10_2 : Int), V.loopN (V.loopF Z69.E Tryz.f27.ntmps [1, 1, 1, 0, 1, 0] [] (V.codeOf Tryz.f27) (Z69.kt x0 x1)) n (Z69.s10 x0 v10_1 v10_2) = Z69.l10 x0 n v10_1 v10_2 := by
  intro n
  induction n with
  | zero => intros; rw [V.loopN_z]; rfl
  | succ n ih =>
    intro v10_1 v10_2
    rw [V.loopN_s, Z69.r10]
    simp only [ih]
    first | exact (Z69.u10 ..).symm | rfl
theorem Z69.v (x0 : List TZone) (x1 : Int) : V.evBody Z69.E Z69.con Tryz.f27 ((x0, x1) : List TZone × Int) = Z69.b x0 x1 (fun v10_1 v10_2 => V.loopN (V.loopF Z69.E Tryz.f27.ntmps [1, 1, 1, 0, 1, 0] [] (V.codeOf Tryz.f27) (Z69.kt x0 x1)) V.KK (Z69.s10 x0 v10_1 v10_2)) := by kernel_rfl
theorem Z69.eq (x0 : List TZone) (x1 : Int) : V.evBody Z69.E Z69.con Tryz.f27 ((x0, x1) : List TZone × Int) = Z69 x0 x1 := by
  rw [Z69.v]
  simp only [Z69.e10]
  rfl
theorem Z69.ok : V.Valid Tryz.prog 27 Z69.con :=
  V.fo (V.tab_cons Z158.ok V.tab_nil) Tryz.func27 (by kernel_rfl) (fun x y h => (show V.evBody Z69.E Z69.con Tryz.f27 x = _ from Z69.eq x.1 x.2).trans (V.cfl (by kernel_rfl) h))
noncomputable abbrev Z157.con : V.Con := ⟨(.cons (.sl (.cons (.sl V.eSigned) (.cons (.sl V.eEntry) .nil))) (.cons (.int .i64) (.cons (.int .i64) .nil))), (.cons (.int .i64) .nil), fun (x : List TZone × Int × Int) => Z157 (x.1, x.2.1) x.2.2, [], [(true, 2), (false, 1)], [(false, 1)], [false], []⟩
noncomputable abbrev Z157.E : V.Env := V.mkE V.tys [(27, Z69.con)] [] [] [] [] []
theorem Z157.eq (x0 : TServer) (x1 : Int) : V.evBody Z157.E Z157.con Tryz.f13 ((x0.1, x0.2, x1) : List TZone × Int × Int) = Z157 x0 x1 := by kernel_rfl
theorem Z157.ok : V.Valid Tryz.prog 13 Z157.con :=
  V.fo (V.tab_cons Z69.ok V.tab_nil) Tryz.func13 (by kernel_rfl) (fun x y h => (show V.evBody Z157.E Z157.con Tryz.f13 x = _ from Z157.eq (x.1, x.2.1) x.2.2).trans (V.cfl (by kernel_rfl) h))
noncomputable abbrev Z67.con : V.Con := ⟨(.cons (.sl (.cons (.sl (.cons (.sl V.eSigned) (.cons (.sl V.eEntry) .nil))) (.cons (.int .i64) .nil))) (.cons (.int .i64) .nil)), (.cons (.int .i64) .nil), fun (x : List TServer × Int) => Z67 x.1 x.2, [], [(false, 1), (false, 1)], [(false, 1)], [false], []⟩
noncomputable abbrev Z67.E : V.Env := V.mkE V.tys [(13, Z157.con)] [(10, [0, 1, 5], [])] [] [] [] []
noncomputable abbrev Z67.kt (x0 : List TServer) (x1 : Int) : V.Kt Int := V.ktOf Z67.E Z67.con Tryz.f4 ((x0, x1) : List TServer × Int)
noncomputable abbrev Z67.s10 (x0 : List TServer) (v10_1 : Int) (v10_2 : Int) : V.St := ⟨[(0, .v false [.val (.sl (.cons (.sl (.cons (.sl V.eSigned) (.cons (.sl V.eEntry) .nil))) (.cons (.int .i64) .nil)) x0)]), (1, .v false [.val (.int .i64 v10_1)]), (5, .v false [.val (.int .i64 v10_2)])], []⟩
theorem Z67.r10 (x0 : List TServer) (x1 : Int) (R : V.St → Option Int) (v10_1 : Int) (v10_2 : Int) : V.loopF Z67.E Tryz.f4.ntmps [1, 1, 1, 0, 1, 0] [] (V.codeOf Tryz.f4) (Z67.kt x0 x1) R (Z67.s10 x0 v10_1 v10_2) = Z67.g10 x0 (fun v10_1 v10_2 => R (Z67.s10 x0 v10_1 v10_2)) v10_1 v10_2 := by kernel_rfl
theorem Z67.e10 (x0 : List TServer) (x1 : Int) : ∀ (n : Nat) (v10_1 : Int) (v10_2 : Int), V.loopN (V.loopF Z67.E Tryz.f4.ntmps [1, 1, 1, 0, 1, 0] [] (V.codeOf Tryz.f4) (Z67.kt x0 x1)) n (Z67.s10 x0 v10_1 v10_2) = Z67.l10 x0 n v10_1 v10_2 := by
  intro n
  induction n with
  | zero => intros; rw [V.loopN_z]; rfl
  | succ n ih =>
    intro v10_1 v10_2
    rw [V.loopN_s, Z67.r10]
    simp only [ih]
    first | exact (Z67.u10 ..).symm | rfl
theorem Z67.v (x0 : List TServer) (x1 : Int) : V.evBody Z67.E Z67.con Tryz.f4 ((x0, x1) : List TServer × Int) = Z67.b x0 x1 (fun v10_1 v10_2 => V.loopN (V.loopF Z67.E Tryz.f4.ntmps [1, 1, 1, 0, 1, 0] [] (V.codeOf Tryz.f4) (Z67.kt x0 x1)) V.KK (Z67.s10 x0 v10_1 v10_2)) := by kernel_rfl
theorem Z67.eq (x0 : List TServer) (x1 : Int) : V.evBody Z67.E Z67.con Tryz.f4 ((x0, x1) : List TServer × Int) = Z67 x0 x1 := by
  rw [Z67.v]
  simp only [Z67.e10]
  rfl
theorem Z67.ok : V.Valid Tryz.prog 4 Z67.con :=
  V.fo (V.tab_cons Z157.ok V.tab_nil) Tryz.func4 (by kernel_rfl) (fun x y h => (show V.evBody Z67.E Z67.con Tryz.f4 x = _ from Z67.eq x.1 x.2).trans (V.cfl (by kernel_rfl) h))
noncomputable abbrev Z71.con : V.Con := ⟨(.cons (.sl (.cons (.int .i64) .nil)) .nil), (.cons (.sl (.cons (.int .i64) .nil)) .nil), fun (x : List Int) => Z71 x, [], [(false, 1)], [(false, 1)], [true], []⟩
noncomputable abbrev Z71.E : V.Env := V.mkE V.tys [] [(6, [0, 3, 4], [])] [] [] [] []
noncomputable abbrev Z71.kt (x0 : List Int) : V.Kt (List Int) := V.ktOf Z71.E Z71.con Tryz.f164 ((x0) : List Int)
noncomputable abbrev Z71.s6 (x0 : List Int) (v6_1 : Int) (v6_2 : List Int) : V.St := ⟨[(0, .v false [.val (.sl (.cons (.int .i64) .nil) x0)]), (3, .v false [.ref 64000038400192]), (4, .v false [.val (.int .i64 v6_1)])], [(64000038400192, .row (.cons (.int .i64) .nil) true v6_2)]⟩
theorem Z71.r6 (x0 : List Int) (R : V.St → Option (List Int)) (v6_1 : Int) (v6_2 : List Int) : V.loopF Z71.E Tryz.f164.ntmps [1, 1, 0, 1, 0] [] (V.codeOf Tryz.f164) (Z71.kt x0) R (Z71.s6 x0 v6_1 v6_2) = Z71.g6 x0 (fun v6_1 v6_2 => R (Z71.s6 x0 v6_1 v6_2)) v6_1 v6_2 := by kernel_rfl
theorem Z71.e6 (x0 : List Int) : ∀ (n : Nat) (v6_1 : Int) (v6_2 : List Int), V.loopN (V.loopF Z71.E Tryz.f164.ntmps [1, 1, 0, 1, 0] [] (V.codeOf Tryz.f164) (Z71.kt x0)) n (Z71.s6 x0 v6_1 v6_2) = Z71.l6 x0 n v6_1 v6_2 := by
  intro n
  induction n with
  | zero => intros; rw [V.loopN_z]; rfl
  | succ n ih =>
    intro v6_1 v6_2
    rw [V.loopN_s, Z71.r6]
    simp only [ih]
    first | exact (Z71.u6 ..).symm | rfl
theorem Z71.v (x0 : List Int) : V.evBody Z71.E Z71.con Tryz.f164 ((x0) : List Int) = Z71.b x0 (fun v6_1 v6_2 => V.loopN (V.loopF Z71.E Tryz.f164.ntmps [1, 1, 0, 1, 0] [] (V.codeOf Tryz.f164) (Z71.kt x0)) V.KK (Z71.s6 x0 v6_1 v6_2)) := by kernel_rfl
theorem Z71.eq (x0 : List Int) : V.evBody Z71.E Z71.con Tryz.f164 ((x0) : List Int) = Z71 x0 := by
  rw [Z71.v]
  simp only [Z71.e6]
  rfl
theorem Z71.ok : V.Valid Tryz.prog 164 Z71.con :=
  V.fo V.tab_nil Tryz.func164 (by kernel_rfl) (fun x y h => (show V.evBody Z71.E Z71.con Tryz.f164 x = _ from Z71.eq x).trans (V.cfl (by kernel_rfl) h))
noncomputable abbrev Z148.con : V.Con := ⟨(.cons (.sl (.cons (.int .i64) .nil)) (.cons (.int .i64) .nil)), (.cons (.sl (.cons (.int .i64) .nil)) (.cons (.int .i64) .nil)), fun (x : List Int × Int) => Z148 x, [], [(true, 2)], [(true, 2)], [true, false], []⟩
noncomputable abbrev Z148.E : V.Env := V.mkE V.tys [(164, Z71.con)] [] [] [] [] []
theorem Z148.eq (x0 : TKeys) : V.evBody Z148.E Z148.con Tryz.f144 ((x0.1, x0.2) : List Int × Int) = Z148 x0 := by kernel_rfl
theorem Z148.ok : V.Valid Tryz.prog 144 Z148.con :=
  V.fo (V.tab_cons Z71.ok V.tab_nil) Tryz.func144 (by kernel_rfl) (fun x y h => (show V.evBody Z148.E Z148.con Tryz.f144 x = _ from Z148.eq x).trans (V.cfl (by kernel_rfl) h))
noncomputable abbrev Z113.con : V.Con := ⟨V.A2, V.eHead, fun (x : V.D2) => Z113 (V.p2_0 x), [], [(true, 16)], [(true, 16)], [false, false, false, false, false, false, false, false, true, false, true, false, false, true, false, false], []⟩
noncomputable abbrev Z113.E : V.Env := V.mkE V.tys [(144, Z148.con)] [] [] [] [] []
noncomputable abbrev Z113.kt (x0 : THead) : V.Kt THead := V.ktOf Z113.E Z113.con Tryz.f125 (V.fl2 x0)
noncomputable abbrev Z113.s (x0 : THead) : V.St := ⟨[(0, .v true (V.lsHead x0))], []⟩
theorem Z113.v0 (x0 : THead) : V.evBody Z113.E Z113.con Tryz.f125 (V.fl2 x0) = V.evC Z113.E Tryz.f125.ntmps (V.codeOf Tryz.f125) (Z113.kt x0) (Z113.s x0) := by kernel_rfl
theorem Z113.v (x0 : THead) : V.evC Z113.E Tryz.f125.ntmps (V.codeOf Tryz.f125) (Z113.kt x0) (Z113.s x0) = Z113 x0 := by kernel_rfl
theorem Z113.eq (x0 : THead) : V.evBody Z113.E Z113.con Tryz.f125 (V.fl2 x0) = Z113 x0 := (Z113.v0 x0).trans (Z113.v x0)
theorem Z113.ok : V.Valid Tryz.prog 125 Z113.con :=
  V.fo (V.tab_cons Z148.ok V.tab_nil) Tryz.func125 (by kernel_rfl) (fun x y h => (show V.evBody Z113.E Z113.con Tryz.f125 x = _ from Z113.eq (V.p2_0 x)).trans (V.cfl (by kernel_rfl) h))
noncomputable abbrev Z179.con : V.Con := ⟨(.cons (.int .i64) (.cons (.int .i64) .nil)), (.cons (.int .i64) (.cons (.int .i64) .nil)), fun (x : Int × Int) => Z179 x, [], [(true, 2)], [(true, 2)], [false, false], []⟩
noncomputable abbrev Z179.E : V.Env := V.mkE V.tys [] [] [] [] [] []
theorem Z179.eq (x0 : TSig) : V.evBody Z179.E Z179.con Tryz.f145 ((x0.1, x0.2) : Int × Int) = Z179 x0 := by kernel_rfl
theorem Z179.ok : V.Valid Tryz.prog 145 Z179.con :=
  V.fo V.tab_nil Tryz.func145 (by kernel_rfl) (fun x y h => (show V.evBody Z179.E Z179.con Tryz.f145 x = _ from Z179.eq x).trans (V.cfl (by kernel_rfl) h))
noncomputable abbrev Z72.con : V.Con := ⟨(.cons (.sl (.cons (.int .i64) (.cons (.int .i64) .nil))) .nil), (.cons (.sl (.cons (.int .i64) (.cons (.int .i64) .nil))) .nil), fun (x : List TSig) => Z72 x, [], [(false, 1)], [(false, 1)], [true], []⟩
noncomputable abbrev Z72.E : V.Env := V.mkE V.tys [(145, Z179.con)] [(6, [0, 3, 4], [])] [] [] [] []
noncomputable abbrev Z72.kt (x0 : List TSig) : V.Kt (List TSig) := V.ktOf Z72.E Z72.con Tryz.f126 ((x0) : List TSig)
noncomputable abbrev Z72.s6 (x0 : List TSig) (v6_1 : Int) (v6_2 : List TSig) : V.St := ⟨[(0, .v false [.val (.sl (.cons (.int .i64) (.cons (.int .i64) .nil)) x0)]), (3, .v false [.ref 64000038400192]), (4, .v false [.val (.int .i64 v6_1)])], [(64000038400192, .row (.cons (.int .i64) (.cons (.int .i64) .nil)) true v6_2)]⟩
theorem Z72.r6 (x0 : List TSig) (R : V.St → Option (List TSig)) (v6_1 : Int) (v6_2 : List TSig) : V.loopF Z72.E Tryz.f126.ntmps [1, 1, 0, 1, 0] [] (V.codeOf Tryz.f126) (Z72.kt x0) R (Z72.s6 x0 v6_1 v6_2) = Z72.g6 x0 (fun v6_1 v6_2 => R (Z72.s6 x0 v6_1 v6_2)) v6_1 v6_2 := by kernel_rfl
theorem Z72.e6 (x0 : List TSig) : ∀ (n : Nat) (v6_1 : Int) (v6_2 : List TSig), V.loopN (V.loopF Z72.E Tryz.f126.ntmps [1, 1, 0, 1, 0] [] (V.codeOf Tryz.f126) (Z72.kt x0)) n (Z72.s6 x0 v6_1 v6_2) = Z72.l6 x0 n v6_1 v6_2 := by
  intro n
  induction n with
  | zero => intros; rw [V.loopN_z]; rfl
  | succ n ih =>
    intro v6_1 v6_2
    rw [V.loopN_s, Z72.r6]
    simp only [ih]
    first | exact (Z72.u6 ..).symm | rfl
theorem Z72.v (x0 : List TSig) : V.evBody Z72.E Z72.con Tryz.f126 ((x0) : List TSig) = Z72.b x0 (fun v6_1 v6_2 => V.loopN (V.loopF Z72.E Tryz.f126.ntmps [1, 1, 0, 1, 0] [] (V.codeOf Tryz.f126) (Z72.kt x0)) V.KK (Z72.s6 x0 v6_1 v6_2)) := by kernel_rfl
theorem Z72.eq (x0 : List TSig) : V.evBody Z72.E Z72.con Tryz.f126 ((x0) : List TSig) = Z72 x0 := by
  rw [Z72.v]
  simp only [Z72.e6]
  rfl
theorem Z72.ok : V.Valid Tryz.prog 126 Z72.con :=
  V.fo (V.tab_cons Z179.ok V.tab_nil) Tryz.func126 (by kernel_rfl) (fun x y h => (show V.evBody Z72.E Z72.con Tryz.f126 x = _ from Z72.eq x).trans (V.cfl (by kernel_rfl) h))
noncomputable abbrev Z102.con : V.Con := ⟨V.A3, V.eSigned, fun (x : V.D3) => Z102 (V.p3_0 x), [], [(true, 17)], [(true, 17)], [false, false, false, false, false, false, false, false, true, false, true, false, false, true, false, false, true], []⟩
noncomputable abbrev Z102.E : V.Env := V.mkE V.tys [(125, Z113.con), (126, Z72.con)] [] [] [] [] []
noncomputable abbrev Z102.kt (x0 : TSigned) : V.Kt TSigned := V.ktOf Z102.E Z102.con Tryz.f102 (V.fl3 x0)
noncomputable abbrev Z102.s (x0 : TSigned) : V.St := ⟨[(0, .v true (V.lsSigned x0))], []⟩
theorem Z102.v0 (x0 : TSigned) : V.evBody Z102.E Z102.con Tryz.f102 (V.fl3 x0) = V.evC Z102.E Tryz.f102.ntmps (V.codeOf Tryz.f102) (Z102.kt x0) (Z102.s x0) := by kernel_rfl
theorem Z102.v (x0 : TSigned) : V.evC Z102.E Tryz.f102.ntmps (V.codeOf Tryz.f102) (Z102.kt x0) (Z102.s x0) = Z102 x0 := by kernel_rfl
theorem Z102.eq (x0 : TSigned) : V.evBody Z102.E Z102.con Tryz.f102 (V.fl3 x0) = Z102 x0 := (Z102.v0 x0).trans (Z102.v x0)
theorem Z102.ok : V.Valid Tryz.prog 102 Z102.con :=
  V.fo (V.tab_cons Z113.ok (V.tab_cons Z72.ok V.tab_nil)) Tryz.func102 (by kernel_rfl) (fun x y h => (show V.evBody Z102.E Z102.con Tryz.f102 x = _ from Z102.eq (V.p3_0 x)).trans (V.cfl (by kernel_rfl) h))
noncomputable abbrev Z73.con : V.Con := ⟨(.cons (.sl V.eSigned) .nil), (.cons (.sl V.eSigned) .nil), fun (x : List TSigned) => Z73 x, [], [(false, 1)], [(false, 1)], [true], []⟩
noncomputable abbrev Z73.E : V.Env := V.mkE V.tys [(102, Z102.con)] [(6, [0, 3, 4], [])] [] [] [] []
noncomputable abbrev Z73.kt (x0 : List TSigned) : V.Kt (List TSigned) := V.ktOf Z73.E Z73.con Tryz.f76 ((x0) : List TSigned)
noncomputable abbrev Z73.s6 (x0 : List TSigned) (v6_1 : Int) (v6_2 : List TSigned) : V.St := ⟨[(0, .v false [.val (.sl V.eSigned x0)]), (3, .v false [.ref 64000038400192]), (4, .v false [.val (.int .i64 v6_1)])], [(64000038400192, .row V.eSigned true v6_2)]⟩
theorem Z73.r6 (x0 : List TSigned) (R : V.St → Option (List TSigned)) (v6_1 : Int) (v6_2 : List TSigned) : V.loopF Z73.E Tryz.f76.ntmps [1, 1, 0, 1, 0] [] (V.codeOf Tryz.f76) (Z73.kt x0) R (Z73.s6 x0 v6_1 v6_2) = Z73.g6 x0 (fun v6_1 v6_2 => R (Z73.s6 x0 v6_1 v6_2)) v6_1 v6_2 := by kernel_rfl
theorem Z73.e6 (x0 : List TSigned) : ∀ (n : Nat) (v6_1 : Int) (v6_2 : List TSigned), V.loopN (V.loopF Z73.E Tryz.f76.ntmps [1, 1, 0, 1, 0] [] (V.codeOf Tryz.f76) (Z73.kt x0)) n (Z73.s6 x0 v6_1 v6_2) = Z73.l6 x0 n v6_1 v6_2 := by
  intro n
  induction n with
  | zero => intros; rw [V.loopN_z]; rfl
  | succ n ih =>
    intro v6_1 v6_2
    rw [V.loopN_s, Z73.r6]
    simp only [ih]
    first | exact (Z73.u6 ..).symm | rfl
theorem Z73.v (x0 : List TSigned) : V.evBody Z73.E Z73.con Tryz.f76 ((x0) : List TSigned) = Z73.b x0 (fun v6_1 v6_2 => V.loopN (V.loopF Z73.E Tryz.f76.ntmps [1, 1, 0, 1, 0] [] (V.codeOf Tryz.f76) (Z73.kt x0)) V.KK (Z73.s6 x0 v6_1 v6_2)) := by kernel_rfl
theorem Z73.eq (x0 : List TSigned) : V.evBody Z73.E Z73.con Tryz.f76 ((x0) : List TSigned) = Z73 x0 := by
  rw [Z73.v]
  simp only [Z73.e6]
  rfl
theorem Z73.ok : V.Valid Tryz.prog 76 Z73.con :=
  V.fo (V.tab_cons Z102.ok V.tab_nil) Tryz.func76 (by kernel_rfl) (fun x y h => (show V.evBody Z73.E Z73.con Tryz.f76 x = _ from Z73.eq x).trans (V.cfl (by kernel_rfl) h))
noncomputable abbrev Z74.con : V.Con := ⟨(.cons (.sl (.cons .str .nil)) .nil), (.cons (.sl (.cons .str .nil)) .nil), fun (x : List ByteArray) => Z74 x, [], [(false, 1)], [(false, 1)], [true], []⟩
noncomputable abbrev Z74.E : V.Env := V.mkE V.tys [] [(6, [0, 3, 4], [])] [] [] [] []
noncomputable abbrev Z74.kt (x0 : List ByteArray) : V.Kt (List ByteArray) := V.ktOf Z74.E Z74.con Tryz.f127 ((x0) : List ByteArray)
noncomputable abbrev Z74.s6 (x0 : List ByteArray) (v6_1 : Int) (v6_2 : List ByteArray) : V.St := ⟨[(0, .v false [.val (.sl (.cons .str .nil) x0)]), (3, .v false [.ref 64000038400192]), (4, .v false [.val (.int .i64 v6_1)])], [(64000038400192, .row (.cons .str .nil) true v6_2)]⟩
theorem Z74.r6 (x0 : List ByteArray) (R : V.St → Option (List ByteArray)) (v6_1 : Int) (v6_2 : List ByteArray) : V.loopF Z74.E Tryz.f127.ntmps [1, 1, 0, 1, 0] [] (V.codeOf Tryz.f127) (Z74.kt x0) R (Z74.s6 x0 v6_1 v6_2) = Z74.g6 x0 (fun v6_1 v6_2 => R (Z74.s6 x0 v6_1 v6_2)) v6_1 v6_2 := by kernel_rfl
theorem Z74.e6 (x0 : List ByteArray) : ∀ (n : Nat) (v6_1 : Int) (v6_2 : List ByteArray), V.loopN (V.loopF Z74.E Tryz.f127.ntmps [1, 1, 0, 1, 0] [] (V.codeOf Tryz.f127) (Z74.kt x0)) n (Z74.s6 x0 v6_1 v6_2) = Z74.l6 x0 n v6_1 v6_2 := by
  intro n
  induction n with
  | zero => intros; rw [V.loopN_z]; rfl
  | succ n ih =>
    intro v6_1 v6_2
    rw [V.loopN_s, Z74.r6]
    simp only [ih]
    first | exact (Z74.u6 ..).symm | rfl
theorem Z74.v (x0 : List ByteArray) : V.evBody Z74.E Z74.con Tryz.f127 ((x0) : List ByteArray) = Z74.b x0 (fun v6_1 v6_2 => V.loopN (V.loopF Z74.E Tryz.f127.ntmps [1, 1, 0, 1, 0] [] (V.codeOf Tryz.f127) (Z74.kt x0)) V.KK (Z74.s6 x0 v6_1 v6_2)) := by kernel_rfl
theorem Z74.eq (x0 : List ByteArray) : V.evBody Z74.E Z74.con Tryz.f127 ((x0) : List ByteArray) = Z74 x0 := by
  rw [Z74.v]
  simp only [Z74.e6]
  rfl
theorem Z74.ok : V.Valid Tryz.prog 127 Z74.con :=
  V.fo V.tab_nil Tryz.func127 (by kernel_rfl) (fun x y h => (show V.evBody Z74.E Z74.con Tryz.f127 x = _ from Z74.eq x).trans (V.cfl (by kernel_rfl) h))
noncomputable abbrev Z159.con : V.Con := ⟨V.eEntry, V.eEntry, fun (x : ByteArray × Int × Int × List ByteArray) => Z159 x, [], [(true, 4)], [(true, 4)], [false, false, false, true], []⟩
noncomputable abbrev Z159.E : V.Env := V.mkE V.tys [(127, Z74.con)] [] [] [] [] []
theorem Z159.eq (x0 : TEntry) : V.evBody Z159.E Z159.con Tryz.f103 ((x0.1, x0.2.1, x0.2.2.1, x0.2.2.2) : ByteArray × Int × Int × List ByteArray) = Z159 x0 := by kernel_rfl
theorem Z159.ok : V.Valid Tryz.prog 103 Z159.con :=
  V.fo (V.tab_cons Z74.ok V.tab_nil) Tryz.func103 (by kernel_rfl) (fun x y h => (show V.evBody Z159.E Z159.con Tryz.f103 x = _ from Z159.eq x).trans (V.cfl (by kernel_rfl) h))
noncomputable abbrev Z70.con : V.Con := ⟨(.cons (.sl V.eEntry) .nil), (.cons (.sl V.eEntry) .nil), fun (x : List TEntry) => Z70 x, [], [(false, 1)], [(false, 1)], [true], []⟩
noncomputable abbrev Z70.E : V.Env := V.mkE V.tys [(103, Z159.con)] [(6, [0, 3, 4], [])] [] [] [] []
noncomputable abbrev Z70.kt (x0 : List TEntry) : V.Kt (List TEntry) := V.ktOf Z70.E Z70.con Tryz.f77 ((x0) : List TEntry)
noncomputable abbrev Z70.s6 (x0 : List TEntry) (v6_1 : Int) (v6_2 : List TEntry) : V.St := ⟨[(0, .v false [.val (.sl V.eEntry x0)]), (3, .v false [.ref 64000038400192]), (4, .v false [.val (.int .i64 v6_1)])], [(64000038400192, .row V.eEntry true v6_2)]⟩
theorem Z70.r6 (x0 : List TEntry) (R : V.St → Option (List TEntry)) (v6_1 : Int) (v6_2 : List TEntry) : V.loopF Z70.E Tryz.f77.ntmps [1, 1, 0, 1, 0] [] (V.codeOf Tryz.f77) (Z70.kt x0) R (Z70.s6 x0 v6_1 v6_2) = Z70.g6 x0 (fun v6_1 v6_2 => R (Z70.s6 x0 v6_1 v6_2)) v6_1 v6_2 := by kernel_rfl
theorem Z70.e6 (x0 : List TEntry) : ∀ (n : Nat) (v6_1 : Int) (v6_2 : List TEntry), V.loopN (V.loopF Z70.E Tryz.f77.ntmps [1, 1, 0, 1, 0] [] (V.codeOf Tryz.f77) (Z70.kt x0)) n (Z70.s6 x0 v6_1 v6_2) = Z70.l6 x0 n v6_1 v6_2 := by
  intro n
  induction n with
  | zero => intros; rw [V.loopN_z]; rfl
  | succ n ih =>
    intro v6_1 v6_2
    rw [V.loopN_s, Z70.r6]
    simp only [ih]
    first | exact (Z70.u6 ..).symm | rfl
theorem Z70.v (x0 : List TEntry) : V.evBody Z70.E Z70.con Tryz.f77 ((x0) : List TEntry) = Z70.b x0 (fun v6_1 v6_2 => V.loopN (V.loopF Z70.E Tryz.f77.ntmps [1, 1, 0, 1, 0] [] (V.codeOf Tryz.f77) (Z70.kt x0)) V.KK (Z70.s6 x0 v6_1 v6_2)) := by kernel_rfl
theorem Z70.eq (x0 : List TEntry) : V.evBody Z70.E Z70.con Tryz.f77 ((x0) : List TEntry) = Z70 x0 := by
  rw [Z70.v]
  simp only [Z70.e6]
  rfl
theorem Z70.ok : V.Valid Tryz.prog 77 Z70.con :=
  V.fo (V.tab_cons Z159.ok V.tab_nil) Tryz.func77 (by kernel_rfl) (fun x y h => (show V.evBody Z70.E Z70.con Tryz.f77 x = _ from Z70.eq x).trans (V.cfl (by kernel_rfl) h))
noncomputable abbrev Z161.con : V.Con := ⟨(.cons (.sl V.eSigned) (.cons (.sl V.eEntry) .nil)), (.cons (.sl V.eSigned) (.cons (.sl V.eEntry) .nil)), fun (x : List TSigned × List TEntry) => Z161 x, [], [(true, 2)], [(true, 2)], [true, true], []⟩
noncomputable abbrev Z161.E : V.Env := V.mkE V.tys [(76, Z73.con), (77, Z70.con)] [] [] [] [] []
theorem Z161.eq (x0 : TZone) : V.evBody Z161.E Z161.con Tryz.f50 ((x0.1, x0.2) : List TSigned × List TEntry) = Z161 x0 := by kernel_rfl
theorem Z161.ok : V.Valid Tryz.prog 50 Z161.con :=
  V.fo (V.tab_cons Z73.ok (V.tab_cons Z70.ok V.tab_nil)) Tryz.func50 (by kernel_rfl) (fun x y h => (show V.evBody Z161.E Z161.con Tryz.f50 x = _ from Z161.eq x).trans (V.cfl (by kernel_rfl) h))
noncomputable abbrev Z75.con : V.Con := ⟨(.cons (.sl (.cons (.sl V.eSigned) (.cons (.sl V.eEntry) .nil))) .nil), (.cons (.sl (.cons (.sl V.eSigned) (.cons (.sl V.eEntry) .nil))) .nil), fun (x : List TZone) => Z75 x, [], [(false, 1)], [(false, 1)], [true], []⟩
noncomputable abbrev Z75.E : V.Env := V.mkE V.tys [(50, Z161.con)] [(6, [0, 3, 4], [])] [] [] [] []
noncomputable abbrev Z75.kt (x0 : List TZone) : V.Kt (List TZone) := V.ktOf Z75.E Z75.con Tryz.f30 ((x0) : List TZone)
noncomputable abbrev Z75.s6 (x0 : List TZone) (v6_1 : Int) (v6_2 : List TZone) : V.St := ⟨[(0, .v false [.val (.sl (.cons (.sl V.eSigned) (.cons (.sl V.eEntry) .nil)) x0)]), (3, .v false [.ref 64000038400192]), (4, .v false [.val (.int .i64 v6_1)])], [(64000038400192, .row (.cons (.sl V.eSigned) (.cons (.sl V.eEntry) .nil)) true v6_2)]⟩
theorem Z75.r6 (x0 : List TZone) (R : V.St → Option (List TZone)) (v6_1 : Int) (v6_2 : List TZone) : V.loopF Z75.E Tryz.f30.ntmps [1, 1, 0, 1, 0] [] (V.codeOf Tryz.f30) (Z75.kt x0) R (Z75.s6 x0 v6_1 v6_2) = Z75.g6 x0 (fun v6_1 v6_2 => R (Z75.s6 x0 v6_1 v6_2)) v6_1 v6_2 := by kernel_rfl
theorem Z75.e6 (x0 : List TZone) : ∀ (n : Nat) (v6_1 : Int) (v6_2 : List TZone), V.loopN (V.loopF Z75.E Tryz.f30.ntmps [1, 1, 0, 1, 0] [] (V.codeOf Tryz.f30) (Z75.kt x0)) n (Z75.s6 x0 v6_1 v6_2) = Z75.l6 x0 n v6_1 v6_2 := by
  intro n
  induction n with
  | zero => intros; rw [V.loopN_z]; rfl
  | succ n ih =>
    intro v6_1 v6_2
    rw [V.loopN_s, Z75.r6]
    simp only [ih]
    first | exact (Z75.u6 ..).symm | rfl
theorem Z75.v (x0 : List TZone) : V.evBody Z75.E Z75.con Tryz.f30 ((x0) : List TZone) = Z75.b x0 (fun v6_1 v6_2 => V.loopN (V.loopF Z75.E Tryz.f30.ntmps [1, 1, 0, 1, 0] [] (V.codeOf Tryz.f30) (Z75.kt x0)) V.KK (Z75.s6 x0 v6_1 v6_2)) := by kernel_rfl
theorem Z75.eq (x0 : List TZone) : V.evBody Z75.E Z75.con Tryz.f30 ((x0) : List TZone) = Z75 x0 := by
  rw [Z75.v]
  simp only [Z75.e6]
  rfl
theorem Z75.ok : V.Valid Tryz.prog 30 Z75.con :=
  V.fo (V.tab_cons Z161.ok V.tab_nil) Tryz.func30 (by kernel_rfl) (fun x y h => (show V.evBody Z75.E Z75.con Tryz.f30 x = _ from Z75.eq x).trans (V.cfl (by kernel_rfl) h))
noncomputable abbrev Z160.con : V.Con := ⟨(.cons (.sl (.cons (.sl V.eSigned) (.cons (.sl V.eEntry) .nil))) (.cons (.int .i64) .nil)), (.cons (.sl (.cons (.sl V.eSigned) (.cons (.sl V.eEntry) .nil))) (.cons (.int .i64) .nil)), fun (x : List TZone × Int) => Z160 x, [], [(true, 2)], [(true, 2)], [true, false], []⟩
noncomputable abbrev Z160.E : V.Env := V.mkE V.tys [(30, Z75.con)] [] [] [] [] []
theorem Z160.eq (x0 : TServer) : V.evBody Z160.E Z160.con Tryz.f15 ((x0.1, x0.2) : List TZone × Int) = Z160 x0 := by kernel_rfl
theorem Z160.ok : V.Valid Tryz.prog 15 Z160.con :=
  V.fo (V.tab_cons Z75.ok V.tab_nil) Tryz.func15 (by kernel_rfl) (fun x y h => (show V.evBody Z160.E Z160.con Tryz.f15 x = _ from Z160.eq x).trans (V.cfl (by kernel_rfl) h))
noncomputable abbrev Z48.con : V.Con := ⟨(.cons (.sl (.cons (.sl (.cons (.sl V.eSigned) (.cons (.sl V.eEntry) .nil))) (.cons (.int .i64) .nil))) .nil), (.cons (.sl (.cons (.sl (.cons (.sl V.eSigned) (.cons (.sl V.eEntry) .nil))) (.cons (.int .i64) .nil))) .nil), fun (x : List TServer) => Z48 x, [], [(false, 1)], [(false, 1)], [true], []⟩
noncomputable abbrev Z48.E : V.Env := V.mkE V.tys [(15, Z160.con)] [(6, [0, 3, 4], [])] [] [] [] []
noncomputable abbrev Z48.kt (x0 : List TServer) : V.Kt (List TServer) := V.ktOf Z48.E Z48.con Tryz.f6 ((x0) : List TServer)
noncomputable abbrev Z48.s6 (x0 : List TServer) (v6_1 : Int) (v6_2 : List TServer) : V.St := ⟨[(0, .v false [.val (.sl (.cons (.sl (.cons (.sl V.eSigned) (.cons (.sl V.eEntry) .nil))) (.cons (.int .i64) .nil)) x0)]), (3, .v false [.ref 64000038400192]), (4, .v false [.val (.int .i64 v6_1)])], [(64000038400192, .row (.cons (.sl (.cons (.sl V.eSigned) (.cons (.sl V.eEntry) .nil))) (.cons (.int .i64) .nil)) true v6_2)]⟩
theorem Z48.r6 (x0 : List TServer) (R : V.St → Option (List TServer)) (v6_1 : Int) (v6_2 : List TServer) : V.loopF Z48.E Tryz.f6.ntmps [1, 1, 0, 1, 0] [] (V.codeOf Tryz.f6) (Z48.kt x0) R (Z48.s6 x0 v6_1 v6_2) = Z48.g6 x0 (fun v6_1 v6_2 => R (Z48.s6 x0 v6_1 v6_2)) v6_1 v6_2 := by kernel_rfl
theorem Z48.e6 (x0 : List TServer) : ∀ (n : Nat) (v6_1 : Int) (v6_2 : List TServer), V.loopN (V.loopF Z48.E Tryz.f6.ntmps [1, 1, 0, 1, 0] [] (V.codeOf Tryz.f6) (Z48.kt x0)) n (Z48.s6 x0 v6_1 v6_2) = Z48.l6 x0 n v6_1 v6_2 := by
  intro n
  induction n with
  | zero => intros; rw [V.loopN_z]; rfl
  | succ n ih =>
    intro v6_1 v6_2
    rw [V.loopN_s, Z48.r6]
    simp only [ih]
    first | exact (Z48.u6 ..).symm | rfl
theorem Z48.v (x0 : List TServer) : V.evBody Z48.E Z48.con Tryz.f6 ((x0) : List TServer) = Z48.b x0 (fun v6_1 v6_2 => V.loopN (V.loopF Z48.E Tryz.f6.ntmps [1, 1, 0, 1, 0] [] (V.codeOf Tryz.f6) (Z48.kt x0)) V.KK (Z48.s6 x0 v6_1 v6_2)) := by kernel_rfl
theorem Z48.eq (x0 : List TServer) : V.evBody Z48.E Z48.con Tryz.f6 ((x0) : List TServer) = Z48 x0 := by
  rw [Z48.v]
  simp only [Z48.e6]
  rfl
theorem Z48.ok : V.Valid Tryz.prog 6 Z48.con :=
  V.fo (V.tab_cons Z160.ok V.tab_nil) Tryz.func6 (by kernel_rfl) (fun x y h => (show V.evBody Z48.E Z48.con Tryz.f6 x = _ from Z48.eq x).trans (V.cfl (by kernel_rfl) h))
noncomputable abbrev Z80.con : V.Con := ⟨(.cons (.int .i64) (.cons (.int .i64) (.cons (.int .i64) .nil))), (.cons .bool .nil), fun (x : Int × Int × Int) => Z80 x.1 x.2.1 x.2.2, [], [(false, 1), (false, 1), (false, 1)], [(false, 1)], [false], []⟩
noncomputable abbrev Z80.E : V.Env := V.mkE V.tys [] [] [] [] [] []
theorem Z80.eq (x0 : Int) (x1 : Int) (x2 : Int) : V.evBody Z80.E Z80.con Tryz.f69 ((x0, x1, x2) : Int × Int × Int) = Z80 x0 x1 x2 := by kernel_rfl
theorem Z80.ok : V.Valid Tryz.prog 69 Z80.con :=
  V.fo V.tab_nil Tryz.func69 (by kernel_rfl) (fun x y h => (show V.evBody Z80.E Z80.con Tryz.f69 x = _ from Z80.eq x.1 x.2.1 x.2.2).trans (V.cfl (by kernel_rfl) h))
noncomputable abbrev Z18.con : V.Con := ⟨(.cons (.sl (.cons (.int .i64) .nil)) (.cons (.int .i64) .nil)), (.cons .bool .nil), fun (x : List Int × Int) => Z18 x, [], [(true, 2)], [(false, 1)], [false], []⟩
noncomputable abbrev Z18.E : V.Env := V.mkE V.tys [(69, Z80.con)] [(4, [1, 3], [])] [(4, 22)] [] [] []
noncomputable abbrev Z18.kt (x0 : TKeys) : V.Kt Bool := V.ktOf Z18.E Z18.con Tryz.f180 ((x0.1, x0.2) : List Int × Int)
noncomputable abbrev Z18.s4 (x0 : TKeys) (v4_0 : Int) : V.St := ⟨[(1, .v false [.ptr 64000 0]), (3, .v false [.val (.int .i64 v4_0)])], [(64000, .box [.val (.sl (.cons (.int .i64) .nil) x0.1), .val (.int .i64 x0.2)])]⟩
theorem Z18.r4 (x0 : TKeys) (R : V.St → Option Bool) (v4_0 : Int) : V.loopF Z18.E Tryz.f180.ntmps [1, 0, 1, 0] [] (V.codeOf Tryz.f180) (Z18.kt x0) R (Z18.s4 x0 v4_0) = Z18.g4 x0 (fun v4_0 => R (Z18.s4 x0 v4_0)) v4_0 := by kernel_rfl
theorem Z18.e4 (x0 : TKeys) : ∀ (n : Nat) (v4_0 : Int), V.loopN (V.loopF Z18.E Tryz.f180.ntmps [1, 0, 1, 0] [] (V.codeOf Tryz.f180) (Z18.kt x0)) n (Z18.s4 x0 v4_0) = Z18.l4 x0 n v4_0 := by
  intro n
  induction n with
  | zero => intros; rw [V.loopN_z]; rfl
  | succ n ih =>
    intro v4_0
    rw [V.loopN_s, Z18.r4]
    simp only [ih]
    first | exact (Z18.u4 ..).symm | rfl
theorem Z18.v (x0 : TKeys) : V.evBody Z18.E Z18.con Tryz.f180 ((x0.1, x0.2) : List Int × Int) = Z18.b x0 (fun v4_0 => V.loopN (V.loopF Z18.E Tryz.f180.ntmps [1, 0, 1, 0] [] (V.codeOf Tryz.f180) (Z18.kt x0)) V.KK (Z18.s4 x0 v4_0)) := by kernel_rfl
theorem Z18.eq (x0 : TKeys) : V.evBody Z18.E Z18.con Tryz.f180 ((x0.1, x0.2) : List Int × Int) = Z18 x0 := by
  rw [Z18.v]
  simp only [Z18.e4]
  rfl
theorem Z18.ok : V.Valid Tryz.prog 180 Z18.con :=
  V.fo (V.tab_cons Z80.ok V.tab_nil) Tryz.func180 (by kernel_rfl) (fun x y h => (show V.evBody Z18.E Z18.con Tryz.f180 x = _ from Z18.eq x).trans (V.cfl (by kernel_rfl) h))
noncomputable abbrev Z125.con : V.Con := ⟨(.cons (.sl (.cons (.int .i64) .nil)) (.cons (.int .i64) .nil)), (.cons .bool .nil), fun (x : List Int × Int) => Z125 x, [], [(true, 2)], [(false, 1)], [false], []⟩
noncomputable abbrev Z125.E : V.Env := V.mkE V.tys [] [] [] [] [] []
theorem Z125.eq (x0 : TKeys) : V.evBody Z125.E Z125.con Tryz.f181 ((x0.1, x0.2) : List Int × Int) = Z125 x0 := by kernel_rfl
theorem Z125.ok : V.Valid Tryz.prog 181 Z125.con :=
  V.fo V.tab_nil Tryz.func181 (by kernel_rfl) (fun x y h => (show V.evBody Z125.E Z125.con Tryz.f181 x = _ from Z125.eq x).trans (V.cfl (by kernel_rfl) h))
noncomputable abbrev Z3.con : V.Con := ⟨V.A2, (.cons .bool .nil), fun (x : V.D2) => Z3 (V.p2_0 x), [], [(true, 16)], [(false, 1)], [false], []⟩
noncomputable abbrev Z3.E : V.Env := V.mkE V.tys [(69, Z80.con), (180, Z18.con), (181, Z125.con)] [(7, [1], []), (11, [1], []), (21, [1], [])] [] [] [] []
noncomputable abbrev Z3.kt (x0 : THead) : V.Kt Bool := V.ktOf Z3.E Z3.con Tryz.f158 (V.fl2 x0)
noncomputable abbrev Z3.s21 (x0 : THead) : V.St := ⟨[(1, .v false [.ptr 64000 0])], [(64000, .box (V.lsHead x0))]⟩
noncomputable abbrev Z3.s11 (x0 : THead) : V.St := ⟨[(1, .v false [.ptr 64000 0])], [(64000, .box (V.lsHead x0))]⟩
noncomputable abbrev Z3.s7 (x0 : THead) : V.St := ⟨[(1, .v false [.ptr 64000 0])], [(64000, .box (V.lsHead x0))]⟩
theorem Z3.r21 (x0 : THead) : V.joinF Z3.E Tryz.f158.ntmps [1, 1, 1] [] (V.codeOf Tryz.f158) (Z3.kt x0) (Z3.s21 x0) = Z3.g21 x0 := by kernel_rfl
theorem Z3.e21 (x0 : THead) : V.jn (V.joinF Z3.E Tryz.f158.ntmps [1, 1, 1] [] (V.codeOf Tryz.f158) (Z3.kt x0)) (Z3.s21 x0) = Z3.l21 x0 := by
  rw [V.jn_eq, Z3.r21]
  rfl
theorem Z3.r11 (x0 : THead) : V.joinF Z3.E Tryz.f158.ntmps [1, 1] [] (V.codeOf Tryz.f158) (Z3.kt x0) (Z3.s11 x0) = Z3.g11 x0 (V.jn (V.joinF Z3.E Tryz.f158.ntmps [1, 1, 1] [] (V.codeOf Tryz.f158) (Z3.kt x0)) (Z3.s21 x0)) := by kernel_rfl
theorem Z3.e11 (x0 : THead) : V.jn (V.joinF Z3.E Tryz.f158.ntmps [1, 1] [] (V.codeOf Tryz.f158) (Z3.kt x0)) (Z3.s11 x0) = Z3.l11 x0 := by
  rw [V.jn_eq, Z3.r11]
  simp only [Z3.e21]
  rfl
theorem Z3.r7 (x0 : THead) : V.joinF Z3.E Tryz.f158.ntmps [1] [] (V.codeOf Tryz.f158) (Z3.kt x0) (Z3.s7 x0) = Z3.g7 x0 (V.jn (V.joinF Z3.E Tryz.f158.ntmps [1, 1] [] (V.codeOf Tryz.f158) (Z3.kt x0)) (Z3.s11 x0)) := by kernel_rfl
theorem Z3.e7 (x0 : THead) : V.jn (V.joinF Z3.E Tryz.f158.ntmps [1] [] (V.codeOf Tryz.f158) (Z3.kt x0)) (Z3.s7 x0) = Z3.l7 x0 := by
  rw [V.jn_eq, Z3.r7]
  simp only [Z3.e11]
  rfl
noncomputable abbrev Z3.s (x0 : THead) : V.St := ⟨[(0, .v true (V.lsHead x0))], []⟩
theorem Z3.v0 (x0 : THead) : V.evBody Z3.E Z3.con Tryz.f158 (V.fl2 x0) = V.evC Z3.E Tryz.f158.ntmps (V.codeOf Tryz.f158) (Z3.kt x0) (Z3.s x0) := by kernel_rfl
theorem Z3.v (x0 : THead) : V.evC Z3.E Tryz.f158.ntmps (V.codeOf Tryz.f158) (Z3.kt x0) (Z3.s x0) = Z3.b x0 (V.jn (V.joinF Z3.E Tryz.f158.ntmps [1] [] (V.codeOf Tryz.f158) (Z3.kt x0)) (Z3.s7 x0)) := by kernel_rfl
theorem Z3.eq (x0 : THead) : V.evBody Z3.E Z3.con Tryz.f158 (V.fl2 x0) = Z3 x0 := by
  rw [Z3.v0, Z3.v]
  simp only [Z3.e7]
  rfl
theorem Z3.ok : V.Valid Tryz.prog 158 Z3.con :=
  V.fo (V.tab_cons Z80.ok (V.tab_cons Z18.ok (V.tab_cons Z125.ok V.tab_nil))) Tryz.func158 (by kernel_rfl) (fun x y h => (show V.evBody Z3.E Z3.con Tryz.f158 x = _ from Z3.eq (V.p2_0 x)).trans (V.cfl (by kernel_rfl) h))
noncomputable abbrev Z122.con : V.Con := ⟨(.cons (.sl (.cons (.int .i64) .nil)) (.cons (.int .i64) .nil)), (.cons (.sl (.cons (.int .i64) .nil)) .nil), fun (x : List Int × Int) => Z122 x, [], [(true, 2)], [(false, 1)], [true], []⟩
noncomputable abbrev Z122.E : V.Env := V.mkE V.tys [] [] [] [] [] []
theorem Z122.eq (x0 : TKeys) : V.evBody Z122.E Z122.con Tryz.f182 ((x0.1, x0.2) : List Int × Int) = Z122 x0 := by kernel_rfl
theorem Z122.ok : V.Valid Tryz.prog 182 Z122.con :=
  V.fo V.tab_nil Tryz.func182 (by kernel_rfl) (fun x y h => (show V.evBody Z122.E Z122.con Tryz.f182 x = _ from Z122.eq x).trans (V.cfl (by kernel_rfl) h))
noncomputable abbrev Z190.con : V.Con := ⟨(.cons (.int .i64) (.cons (.int .i64) .nil)), (.cons (.int .i64) .nil), fun (x : Int × Int) => Z190 x.1 x.2, [], [(false, 1), (false, 1)], [(false, 1)], [false], []⟩
noncomputable abbrev Z190.E : V.Env := V.mkE V.tys [(69, Z80.con)] [] [] [] [] []
theorem Z190.eq (x0 : Int) (x1 : Int) : V.evBody Z190.E Z190.con Tryz.f142 ((x0, x1) : Int × Int) = Z190 x0 x1 := by kernel_rfl
theorem Z190.ok : V.Valid Tryz.prog 142 Z190.con :=
  V.fo (V.tab_cons Z80.ok V.tab_nil) Tryz.func142 (by kernel_rfl) (fun x y h => (show V.evBody Z190.E Z190.con Tryz.f142 x = _ from Z190.eq x.1 x.2).trans (V.cfl (by kernel_rfl) h))
noncomputable abbrev Z11.con : V.Con := ⟨(.cons (.sl (.cons (.int .i64) .nil)) .nil), (.cons (.int .i64) .nil), fun (x : List Int) => Z11 x, [], [(false, 1)], [(false, 1)], [false], []⟩
noncomputable abbrev Z11.E : V.Env := V.mkE V.tys [(142, Z190.con)] [(6, [0, 3, 4], [])] [] [] [] []
noncomputable abbrev Z11.kt (x0 : List Int) : V.Kt Int := V.ktOf Z11.E Z11.con Tryz.f122 ((x0) : List Int)
noncomputable abbrev Z11.s6 (x0 : List Int) (v6_1 : Int) (v6_2 : Int) : V.St := ⟨[(0, .v false [.val (.sl (.cons (.int .i64) .nil) x0)]), (3, .v false [.val (.int .i64 v6_1)]), (4, .v false [.val (.int .i64 v6_2)])], []⟩
theorem Z11.r6 (x0 : List Int) (R : V.St → Option Int) (v6_1 : Int) (v6_2 : Int) : V.loopF Z11.E Tryz.f122.ntmps [1, 1, 0, 1, 0] [] (V.codeOf Tryz.f122) (Z11.kt x0) R (Z11.s6 x0 v6_1 v6_2) = Z11.g6 x0 (fun v6_1 v6_2 => R (Z11.s6 x0 v6_1 v6_2)) v6_1 v6_2 := by kernel_rfl
theorem Z11.e6 (x0 : List Int) : ∀ (n : Nat) (v6_1 : Int) (v6_2 : Int), V.loopN (V.loopF Z11.E Tryz.f122.ntmps [1, 1, 0, 1, 0] [] (V.codeOf Tryz.f122) (Z11.kt x0)) n (Z11.s6 x0 v6_1 v6_2) = Z11.l6 x0 n v6_1 v6_2 := by
  intro n
  induction n with
  | zero => intros; rw [V.loopN_z]; rfl
  | succ n ih =>
    intro v6_1 v6_2
    rw [V.loopN_s, Z11.r6]
    simp only [ih]
    first | exact (Z11.u6 ..).symm | rfl
theorem Z11.v (x0 : List Int) : V.evBody Z11.E Z11.con Tryz.f122 ((x0) : List Int) = Z11.b x0 (fun v6_1 v6_2 => V.loopN (V.loopF Z11.E Tryz.f122.ntmps [1, 1, 0, 1, 0] [] (V.codeOf Tryz.f122) (Z11.kt x0)) V.KK (Z11.s6 x0 v6_1 v6_2)) := by kernel_rfl
theorem Z11.eq (x0 : List Int) : V.evBody Z11.E Z11.con Tryz.f122 ((x0) : List Int) = Z11 x0 := by
  rw [Z11.v]
  simp only [Z11.e6]
  rfl
theorem Z11.ok : V.Valid Tryz.prog 122 Z11.con :=
  V.fo (V.tab_cons Z190.ok V.tab_nil) Tryz.func122 (by kernel_rfl) (fun x y h => (show V.evBody Z11.E Z11.con Tryz.f122 x = _ from Z11.eq x).trans (V.cfl (by kernel_rfl) h))
noncomputable abbrev Z195.con : V.Con := ⟨(.cons (.sl (.cons (.int .i64) .nil)) (.cons (.int .i64) (.cons (.int .i64) .nil))), (.cons (.int .i64) .nil), fun (x : List Int × Int × Int) => Z195 (x.1, x.2.1) x.2.2, [], [(true, 2), (false, 1)], [(false, 1)], [false], []⟩
noncomputable abbrev Z195.E : V.Env := V.mkE V.tys [(122, Z11.con), (182, Z122.con)] [] [] [] [] []
theorem Z195.eq (x0 : TKeys) (x1 : Int) : V.evBody Z195.E Z195.con Tryz.f159 ((x0.1, x0.2, x1) : List Int × Int × Int) = Z195 x0 x1 := by kernel_rfl
theorem Z195.ok : V.Valid Tryz.prog 159 Z195.con :=
  V.fo (V.tab_cons Z11.ok (V.tab_cons Z122.ok V.tab_nil)) Tryz.func159 (by kernel_rfl) (fun x y h => (show V.evBody Z195.E Z195.con Tryz.f159 x = _ from Z195.eq (x.1, x.2.1) x.2.2).trans (V.cfl (by kernel_rfl) h))
noncomputable abbrev Z92.con : V.Con := ⟨V.A2, (.cons (.sl (.cons (.int .i64) .nil)) .nil), fun (x : V.D2) => Z92 (V.p2_0 x), [], [(true, 16)], [(false, 1)], [true], []⟩
noncomputable abbrev Z92.E : V.Env := V.mkE V.tys [(182, Z122.con)] [] [] [] [] []
noncomputable abbrev Z92.kt (x0 : THead) : V.Kt (List Int) := V.ktOf Z92.E Z92.con Tryz.f161 (V.fl2 x0)
noncomputable abbrev Z92.s (x0 : THead) : V.St := ⟨[(0, .v true (V.lsHead x0))], []⟩
theorem Z92.v0 (x0 : THead) : V.evBody Z92.E Z92.con Tryz.f161 (V.fl2 x0) = V.evC Z92.E Tryz.f161.ntmps (V.codeOf Tryz.f161) (Z92.kt x0) (Z92.s x0) := by kernel_rfl
theorem Z92.v (x0 : THead) : V.evC Z92.E Tryz.f161.ntmps (V.codeOf Tryz.f161) (Z92.kt x0) (Z92.s x0) = Z92 x0 := by kernel_rfl
theorem Z92.eq (x0 : THead) : V.evBody Z92.E Z92.con Tryz.f161 (V.fl2 x0) = Z92 x0 := (Z92.v0 x0).trans (Z92.v x0)
theorem Z92.ok : V.Valid Tryz.prog 161 Z92.con :=
  V.fo (V.tab_cons Z122.ok V.tab_nil) Tryz.func161 (by kernel_rfl) (fun x y h => (show V.evBody Z92.E Z92.con Tryz.f161 x = _ from Z92.eq (V.p2_0 x)).trans (V.cfl (by kernel_rfl) h))
noncomputable abbrev Z189.con : V.Con := ⟨(.cons (.int .i64) (.cons (.sl (.cons (.int .i64) .nil)) .nil)), (.cons (.int .i64) .nil), fun (x : Int × List Int) => Z189 x.1 x.2, [], [(false, 1), (false, 1)], [(false, 1)], [false], []⟩
noncomputable abbrev Z189.E : V.Env := V.mkE V.tys [(122, Z11.con)] [] [] [] [] []
theorem Z189.eq (x0 : Int) (x1 : List Int) : V.evBody Z189.E Z189.con Tryz.f208 ((x0, x1) : Int × List Int) = Z189 x0 x1 := by kernel_rfl
theorem Z189.ok : V.Valid Tryz.prog 208 Z189.con :=
  V.fo (V.tab_cons Z11.ok V.tab_nil) Tryz.func208 (by kernel_rfl) (fun x y h => (show V.evBody Z189.E Z189.con Tryz.f208 x = _ from Z189.eq x.1 x.2).trans (V.cfl (by kernel_rfl) h))
noncomputable abbrev Z193.con : V.Con := ⟨(.cons (.int .i64) (.cons (.sl (.cons (.int .i64) .nil)) .nil)), (.cons (.int .i64) .nil), fun (x : Int × List Int) => Z193 x.1 x.2, [], [(false, 1), (false, 1)], [(false, 1)], [false], []⟩
noncomputable abbrev Z193.E : V.Env := V.mkE V.tys [(208, Z189.con)] [] [] [] [] []
theorem Z193.eq (x0 : Int) (x1 : List Int) : V.evBody Z193.E Z193.con Tryz.f204 ((x0, x1) : Int × List Int) = Z193 x0 x1 := by kernel_rfl
theorem Z193.ok : V.Valid Tryz.prog 204 Z193.con :=
  V.fo (V.tab_cons Z189.ok V.tab_nil) Tryz.func204 (by kernel_rfl) (fun x y h => (show V.evBody Z193.E Z193.con Tryz.f204 x = _ from Z193.eq x.1 x.2).trans (V.cfl (by kernel_rfl) h))
noncomputable abbrev Z188.con : V.Con := ⟨(.cons (.int .i64) (.cons (.int .i64) (.cons (.sl (.cons (.int .i64) .nil)) .nil))), (.cons .bool .nil), fun (x : Int × Int × List Int) => Z188 (x.1, x.2.1) x.2.2, [], [(true, 2), (false, 1)], [(false, 1)], [false], []⟩
noncomputable abbrev Z188.E : V.Env := V.mkE V.tys [(69, Z80.con), (204, Z193.con)] [] [(1, 10)] [] [] []
theorem Z188.eq (x0 : TSig) (x1 : List Int) : V.evBody Z188.E Z188.con Tryz.f196 ((x0.1, x0.2, x1) : Int × Int × List Int) = Z188 x0 x1 := by kernel_rfl
theorem Z188.ok : V.Valid Tryz.prog 196 Z188.con :=
  V.fo (V.tab_cons Z80.ok (V.tab_cons Z193.ok V.tab_nil)) Tryz.func196 (by kernel_rfl) (fun x y h => (show V.evBody Z188.E Z188.con Tryz.f196 x = _ from Z188.eq (x.1, x.2.1) x.2.2).trans (V.cfl (by kernel_rfl) h))
noncomputable abbrev Z2.con : V.Con := ⟨(.cons (.sl (.cons (.int .i64) .nil)) (.cons (.int .i64) (.cons (.sl (.cons (.int .i64) .nil)) (.cons (.sl (.cons (.int .i64) (.cons (.int .i64) .nil))) .nil)))), (.cons (.int .i64) .nil), fun (x : List Int × Int × List Int × List TSig) => Z2 (x.1, x.2.1) x.2.2.1 x.2.2.2, [], [(true, 2), (false, 1), (false, 1)], [(false, 1)], [false], []⟩
noncomputable abbrev Z2.E : V.Env := V.mkE V.tys [(196, Z188.con)] [(6, [1, 2, 3, 7, 8], []), (12, [1, 2, 3, 7, 8, 9], []), (19, [1, 2, 3, 7, 8, 9, 41], [])] [(8, 17)] [] [] []
noncomputable abbrev Z2.kt (x0 : TKeys) (x1 : List Int) (x2 : List TSig) : V.Kt Int := V.ktOf Z2.E Z2.con Tryz.f183 ((x0.1, x0.2, x1, x2) : List Int × Int × List Int × List TSig)
noncomputable abbrev Z2.s19 (x0 : TKeys) (x1 : List Int) (x2 : List TSig) (v6_2 : Int) (v6_3 : Int) (v12_4 : Int) (v19_5 : Bool) : V.St := ⟨[(1, .v false [.val (.sl (.cons (.int .i64) .nil) x1)]), (2, .v false [.val (.sl (.cons (.int .i64) (.cons (.int .i64) .nil)) x2)]), (3, .v false [.ptr 64000 0]), (7, .v false [.val (.int .i64 v6_2)]), (8, .v false [.val (.int .i64 v6_3)]), (9, .v false [.val (.int .i64 v12_4)]), (41, .v false [.val (.bool v19_5)])], [(64000, .box [.val (.sl (.cons (.int .i64) .nil) x0.1), .val (.int .i64 x0.2)])]⟩
noncomputable abbrev Z2.s12 (x0 : TKeys) (x1 : List Int) (x2 : List TSig) (v6_2 : Int) (v6_3 : Int) (v12_4 : Int) : V.St := ⟨[(1, .v false [.val (.sl (.cons (.int .i64) .nil) x1)]), (2, .v false [.val (.sl (.cons (.int .i64) (.cons (.int .i64) .nil)) x2)]), (3, .v false [.ptr 64000 0]), (7, .v false [.val (.int .i64 v6_2)]), (8, .v false [.val (.int .i64 v6_3)]), (9, .v false [.val (.int .i64 v12_4)])], [(64000, .box [.val (.sl (.cons (.int .i64) .nil) x0.1), .val (.int .i64 x0.2)])]⟩
noncomputable abbrev Z2.s6 (x0 : TKeys) (x1 : List Int) (x2 : List TSig) (v6_2 : Int) (v6_3 : Int) : V.St := ⟨[(1, .v false [.val (.sl (.cons (.int .i64) .nil) x1)]), (2, .v false [.val (.sl (.cons (.int .i64) (.cons (.int .i64) .nil)) x2)]), (3, .v false [.ptr 64000 0]), (7, .v false [.val (.int .i64 v6_2)]), (8, .v false [.val (.int .i64 v6_3)])], [(64000, .box [.val (.sl (.cons (.int .i64) .nil) x0.1), .val (.int .i64 x0.2)])]⟩
theorem Z2.r19 (x0 : TKeys) (x1 : List Int) (x2 : List TSig) (v12_4 : Int) (v6_2 : Int) (v6_3 : Int) (R6 : V.St → Option Int) (R12 : V.St → Option Int) (v19_5 : Bool) : V.joinF Z2.E Tryz.f183.ntmps [1, 1, 0, 1, 0, 0, 1, 0, 0, 1, 0, 0, 1, 0, 0] [R6, R12] (V.codeOf Tryz.f183) (Z2.kt x0 x1 x2) (Z2.s19 x0 x1 x2 v6_2 v6_3 v12_4 v19_5) = Z2.g19 x0 x1 x2 v6_2 v6_3 v12_4 (fun v6_2 v6_3 => R6 (Z2.s6 x0 x1 x2 v6_2 v6_3)) (fun v12_4 => R12 (Z2.s12 x0 x1 x2 v6_2 v6_3 v12_4)) v19_5 := by kernel_rfl
theorem Z2.e19 (x0 : TKeys) (x1 : List Int) (x2 : List TSig) (v12_4 : Int) (v6_2 : Int) (v6_3 : Int) (R6 : V.St → Option Int) (R12 : V.St → Option Int) (v19_5 : Bool) : V.jn (V.joinF Z2.E Tryz.f183.ntmps [1, 1, 0, 1, 0, 0, 1, 0, 0, 1, 0, 0, 1, 0, 0] [R6, R12] (V.codeOf Tryz.f183) (Z2.kt x0 x1 x2)) (Z2.s19 x0 x1 x2 v6_2 v6_3 v12_4 v19_5) = Z2.l19 x0 x1 x2 v6_2 v6_3 v12_4 (fun v6_2 v6_3 => R6 (Z2.s6 x0 x1 x2 v6_2 v6_3)) (fun v12_4 => R12 (Z2.s12 x0 x1 x2 v6_2 v6_3 v12_4)) v19_5 := by
  rw [V.jn_eq, Z2.r19]
  rfl
theorem Z2.r12 (x0 : TKeys) (x1 : List Int) (x2 : List TSig) (v6_2 : Int) (v6_3 : Int) (R6 : V.St → Option Int) (R : V.St → Option Int) (v12_4 : Int) : V.loopF Z2.E Tryz.f183.ntmps [1, 1, 0, 1, 0, 0, 1, 0, 0, 1, 0] [R6] (V.codeOf Tryz.f183) (Z2.kt x0 x1 x2) R (Z2.s12 x0 x1 x2 v6_2 v6_3 v12_4) = Z2.g12 x0 x1 x2 v6_2 v6_3 (fun v6_2 v6_3 => R6 (Z2.s6 x0 x1 x2 v6_2 v6_3)) (fun v12_4 => R (Z2.s12 x0 x1 x2 v6_2 v6_3 v12_4)) (fun v19_5 => V.jn (V.joinF Z2.E Tryz.f183.ntmps [1, 1, 0, 1, 0, 0, 1, 0, 0, 1, 0, 0, 1, 0, 0] [R6, R] (V.codeOf Tryz.f183) (Z2.kt x0 x1 x2)) (Z2.s19 x0 x1 x2 v6_2 v6_3 v12_4 v19_5)) v12_4 := by kernel_rfl
theorem Z2.e12 (x0 : TKeys) (x1 : List Int) (x2 : List TSig) (v6_2 : Int) (v6_3 : Int) (R6 : V.St → Option Int) : ∀ (n : Nat) (v12_4 : Int), V.loopN (V.loopF Z2.E Tryz.f183.ntmps [1, 1, 0, 1, 0, 0, 1, 0, 0, 1, 0] [R6] (V.codeOf Tryz.f183) (Z2.kt x0 x1 x2)) n (Z2.s12 x0 x1 x2 v6_2 v6_3 v12_4) = Z2.l12 x0 x1 x2 v6_2 v6_3 (fun v6_2 v6_3 => R6 (Z2.s6 x0 x1 x2 v6_2 v6_3)) n v12_4 := by
  intro n
  induction n with
  | zero => intros; rw [V.loopN_z]; rfl
  | succ n ih =>
    intro v12_4
    rw [V.loopN_s, Z2.r12]
    simp only [Z2.e19, ih]
    first | exact (Z2.u12 ..).symm | rfl
theorem Z2.r6 (x0 : TKeys) (x1 : List Int) (x2 : List TSig) (R : V.St → Option Int) (v6_2 : Int) (v6_3 : Int) : V.loopF Z2.E Tryz.f183.ntmps [1, 1, 0, 1, 0] [] (V.codeOf Tryz.f183) (Z2.kt x0 x1 x2) R (Z2.s6 x0 x1 x2 v6_2 v6_3) = Z2.g6 x0 x1 x2 (fun v6_2 v6_3 => R (Z2.s6 x0 x1 x2 v6_2 v6_3)) (fun v12_4 => V.loopN (V.loopF Z2.E Tryz.f183.ntmps [1, 1, 0, 1, 0, 0, 1, 0, 0, 1, 0] [R] (V.codeOf Tryz.f183) (Z2.kt x0 x1 x2)) V.KK (Z2.s12 x0 x1 x2 v6_2 v6_3 v12_4)) v6_2 v6_3 := by kernel_rfl
theorem Z2.e6 (x0 : TKeys) (x1 : List Int) (x2 : List TSig) : ∀ (n : Nat) (v6_2 : Int) (v6_3 : Int), V.loopN (V.loopF Z2.E Tryz.f183.ntmps [1, 1, 0, 1, 0] [] (V.codeOf Tryz.f183) (Z2.kt x0 x1 x2)) n (Z2.s6 x0 x1 x2 v6_2 v6_3) = Z2.l6 x0 x1 x2 n v6_2 v6_3 := by
  intro n
  induction n with
  | zero => intros; rw [V.loopN_z]; rfl
  | succ n ih =>
    intro v6_2 v6_3
    rw [V.loopN_s, Z2.r6]
    simp only [Z2.e12, ih]
    first | exact (Z2.u6 ..).symm | rfl
theorem Z2.v (x0 : TKeys) (x1 : List Int) (x2 : List TSig) : V.evBody Z2.E Z2.con Tryz.f183 ((x0.1, x0.2, x1, x2) : List Int × Int × List Int × List TSig) = Z2.b x0 x1 x2 (fun v6_2 v6_3 => V.loopN (V.loopF Z2.E Tryz.f183.ntmps [1, 1, 0, 1, 0] [] (V.codeOf Tryz.f183) (Z2.kt x0 x1 x2)) V.KK (Z2.s6 x0 x1 x2 v6_2 v6_3)) := by kernel_rfl
theorem Z2.eq (x0 : TKeys) (x1 : List Int) (x2 : List TSig) : V.evBody Z2.E Z2.con Tryz.f183 ((x0.1, x0.2, x1, x2) : List Int × Int × List Int × List TSig) = Z2 x0 x1 x2 := by
  rw [Z2.v]
  simp only [Z2.e6]
  rfl
theorem Z2.ok : V.Valid Tryz.prog 183 Z2.con :=
  V.fo (V.tab_cons Z188.ok V.tab_nil) Tryz.func183 (by kernel_rfl) (fun x y h => (show V.evBody Z2.E Z2.con Tryz.f183 x = _ from Z2.eq (x.1, x.2.1) x.2.2.1 x.2.2.2).trans (V.cfl (by kernel_rfl) h))
noncomputable abbrev Z140.con : V.Con := ⟨(.cons (.sl (.cons (.int .i64) .nil)) (.cons (.int .i64) (.cons (.sl (.cons (.int .i64) .nil)) (.cons (.sl (.cons (.int .i64) (.cons (.int .i64) .nil))) .nil)))), (.cons .bool .nil), fun (x : List Int × Int × List Int × List TSig) => Z140 (x.1, x.2.1) x.2.2.1 x.2.2.2, [], [(true, 2), (false, 1), (false, 1)], [(false, 1)], [false], []⟩
noncomputable abbrev Z140.E : V.Env := V.mkE V.tys [(180, Z18.con), (183, Z2.con)] [] [(1, 9)] [] [] []
theorem Z140.eq (x0 : TKeys) (x1 : List Int) (x2 : List TSig) : V.evBody Z140.E Z140.con Tryz.f160 ((x0.1, x0.2, x1, x2) : List Int × Int × List Int × List TSig) = Z140 x0 x1 x2 := by kernel_rfl
theorem Z140.ok : V.Valid Tryz.prog 160 Z140.con :=
  V.fo (V.tab_cons Z18.ok (V.tab_cons Z2.ok V.tab_nil)) Tryz.func160 (by kernel_rfl) (fun x y h => (show V.evBody Z140.E Z140.con Tryz.f160 x = _ from Z140.eq (x.1, x.2.1) x.2.2.1 x.2.2.2).trans (V.cfl (by kernel_rfl) h))
noncomputable abbrev Z115.con : V.Con := ⟨V.A3, (.cons .bool .nil), fun (x : V.D3) => Z115 (V.p3_0 x), [], [(true, 17)], [(false, 1)], [false], []⟩
noncomputable abbrev Z115.E : V.Env := V.mkE V.tys [(158, Z3.con), (159, Z195.con), (160, Z140.con), (161, Z92.con)] [] [(2, 34)] [] [] []
noncomputable abbrev Z115.kt (x0 : TSigned) : V.Kt Bool := V.ktOf Z115.E Z115.con Tryz.f140 (V.fl3 x0)
noncomputable abbrev Z115.s (x0 : TSigned) : V.St := ⟨[(0, .v true (V.lsSigned x0))], []⟩
theorem Z115.v0 (x0 : TSigned) : V.evBody Z115.E Z115.con Tryz.f140 (V.fl3 x0) = V.evC Z115.E Tryz.f140.ntmps (V.codeOf Tryz.f140) (Z115.kt x0) (Z115.s x0) := by kernel_rfl
theorem Z115.v (x0 : TSigned) : V.evC Z115.E Tryz.f140.ntmps (V.codeOf Tryz.f140) (Z115.kt x0) (Z115.s x0) = Z115 x0 := by kernel_rfl
theorem Z115.eq (x0 : TSigned) : V.evBody Z115.E Z115.con Tryz.f140 (V.fl3 x0) = Z115 x0 := (Z115.v0 x0).trans (Z115.v x0)
theorem Z115.ok : V.Valid Tryz.prog 140 Z115.con :=
  V.fo (V.tab_cons Z3.ok (V.tab_cons Z195.ok (V.tab_cons Z140.ok (V.tab_cons Z92.ok V.tab_nil)))) Tryz.func140 (by kernel_rfl) (fun x y h => (show V.evBody Z115.E Z115.con Tryz.f140 x = _ from Z115.eq (V.p3_0 x)).trans (V.cfl (by kernel_rfl) h))
noncomputable abbrev Z114.con : V.Con := ⟨V.A2, (.cons (.int .i64) .nil), fun (x : V.D2) => Z114 (V.p2_0 x), [], [(true, 16)], [(false, 1)], [false], []⟩
noncomputable abbrev Z114.E : V.Env := V.mkE V.tys [(122, Z11.con), (161, Z92.con)] [] [] [] [] []
noncomputable abbrev Z114.kt (x0 : THead) : V.Kt Int := V.ktOf Z114.E Z114.con Tryz.f184 (V.fl2 x0)
noncomputable abbrev Z114.s (x0 : THead) : V.St := ⟨[(0, .v true (V.lsHead x0))], []⟩
theorem Z114.v0 (x0 : THead) : V.evBody Z114.E Z114.con Tryz.f184 (V.fl2 x0) = V.evC Z114.E Tryz.f184.ntmps (V.codeOf Tryz.f184) (Z114.kt x0) (Z114.s x0) := by kernel_rfl
theorem Z114.v (x0 : THead) : V.evC Z114.E Tryz.f184.ntmps (V.codeOf Tryz.f184) (Z114.kt x0) (Z114.s x0) = Z114 x0 := by kernel_rfl
theorem Z114.eq (x0 : THead) : V.evBody Z114.E Z114.con Tryz.f184 (V.fl2 x0) = Z114 x0 := (Z114.v0 x0).trans (Z114.v x0)
theorem Z114.ok : V.Valid Tryz.prog 184 Z114.con :=
  V.fo (V.tab_cons Z11.ok (V.tab_cons Z92.ok V.tab_nil)) Tryz.func184 (by kernel_rfl) (fun x y h => (show V.evBody Z114.E Z114.con Tryz.f184 x = _ from Z114.eq (V.p2_0 x)).trans (V.cfl (by kernel_rfl) h))
noncomputable abbrev Z117.con : V.Con := ⟨V.A4, (.cons (.int .i64) .nil), fun (x : V.D4) => Z117 (V.p4_0 x) (V.p4_1 x), [], [(true, 16), (true, 16)], [(false, 1)], [false], []⟩
noncomputable abbrev Z117.E : V.Env := V.mkE V.tys [] [] [] [] [] []
noncomputable abbrev Z117.kt (x0 : THead) (x1 : THead) : V.Kt Int := V.ktOf Z117.E Z117.con Tryz.f185 (V.fl4 x0 x1)
noncomputable abbrev Z117.s (x0 : THead) (x1 : THead) : V.St := ⟨[(0, .v true (V.lsHead x0)), (1, .v true (V.lsHead x1))], []⟩
theorem Z117.v0 (x0 : THead) (x1 : THead) : V.evBody Z117.E Z117.con Tryz.f185 (V.fl4 x0 x1) = V.evC Z117.E Tryz.f185.ntmps (V.codeOf Tryz.f185) (Z117.kt x0 x1) (Z117.s x0 x1) := by kernel_rfl
theorem Z117.v (x0 : THead) (x1 : THead) : V.evC Z117.E Tryz.f185.ntmps (V.codeOf Tryz.f185) (Z117.kt x0 x1) (Z117.s x0 x1) = Z117 x0 x1 := by kernel_rfl
theorem Z117.eq (x0 : THead) (x1 : THead) : V.evBody Z117.E Z117.con Tryz.f185 (V.fl4 x0 x1) = Z117 x0 x1 := (Z117.v0 x0 x1).trans (Z117.v x0 x1)
theorem Z117.ok : V.Valid Tryz.prog 185 Z117.con :=
  V.fo V.tab_nil Tryz.func185 (by kernel_rfl) (fun x y h => (show V.evBody Z117.E Z117.con Tryz.f185 x = _ from Z117.eq (V.p4_0 x) (V.p4_1 x)).trans (V.cfl (by kernel_rfl) h))
noncomputable abbrev Z29.con : V.Con := ⟨(.cons (.sl (.cons (.int .i64) .nil)) (.cons (.sl (.cons (.int .i64) .nil)) .nil)), (.cons .bool .nil), fun (x : List Int × List Int) => Z29 x.1 x.2, [], [(false, 1), (false, 1)], [(false, 1)], [false], []⟩
noncomputable abbrev Z29.E : V.Env := V.mkE V.tys [] [(8, [0, 1, 5], [])] [(6, 8)] [] [] []
noncomputable abbrev Z29.kt (x0 : List Int) (x1 : List Int) : V.Kt Bool := V.ktOf Z29.E Z29.con Tryz.f205 ((x0, x1) : List Int × List Int)
noncomputable abbrev Z29.s8 (x0 : List Int) (x1 : List Int) (v8_2 : Int) : V.St := ⟨[(0, .v false [.val (.sl (.cons (.int .i64) .nil) x0)]), (1, .v false [.val (.sl (.cons (.int .i64) .nil) x1)]), (5, .v false [.val (.int .i64 v8_2)])], []⟩
theorem Z29.r8 (x0 : List Int) (x1 : List Int) (R : V.St → Option Bool) (v8_2 : Int) : V.loopF Z29.E Tryz.f205.ntmps [1, 1, 0, 1, 0] [] (V.codeOf Tryz.f205) (Z29.kt x0 x1) R (Z29.s8 x0 x1 v8_2) = Z29.g8 x0 x1 (fun v8_2 => R (Z29.s8 x0 x1 v8_2)) v8_2 := by kernel_rfl
theorem Z29.e8 (x0 : List Int) (x1 : List Int) : ∀ (n : Nat) (v8_2 : Int), V.loopN (V.loopF Z29.E Tryz.f205.ntmps [1, 1, 0, 1, 0] [] (V.codeOf Tryz.f205) (Z29.kt x0 x1)) n (Z29.s8 x0 x1 v8_2) = Z29.l8 x0 x1 n v8_2 := by
  intro n
  induction n with
  | zero => intros; rw [V.loopN_z]; rfl
  | succ n ih =>
    intro v8_2
    rw [V.loopN_s, Z29.r8]
    simp only [ih]
    first | exact (Z29.u8 ..).symm | rfl
theorem Z29.v (x0 : List Int) (x1 : List Int) : V.evBody Z29.E Z29.con Tryz.f205 ((x0, x1) : List Int × List Int) = Z29.b x0 x1 (fun v8_2 => V.loopN (V.loopF Z29.E Tryz.f205.ntmps [1, 1, 0, 1, 0] [] (V.codeOf Tryz.f205) (Z29.kt x0 x1)) V.KK (Z29.s8 x0 x1 v8_2)) := by kernel_rfl
theorem Z29.eq (x0 : List Int) (x1 : List Int) : V.evBody Z29.E Z29.con Tryz.f205 ((x0, x1) : List Int × List Int) = Z29 x0 x1 := by
  rw [Z29.v]
  simp only [Z29.e8]
  rfl
theorem Z29.ok : V.Valid Tryz.prog 205 Z29.con :=
  V.fo V.tab_nil Tryz.func205 (by kernel_rfl) (fun x y h => (show V.evBody Z29.E Z29.con Tryz.f205 x = _ from Z29.eq x.1 x.2).trans (V.cfl (by kernel_rfl) h))
noncomputable abbrev Z130.con : V.Con := ⟨(.cons (.sl (.cons (.int .i64) .nil)) (.cons (.int .i64) (.cons (.sl (.cons (.int .i64) .nil)) (.cons (.int .i64) .nil)))), (.cons .bool .nil), fun (x : List Int × Int × List Int × Int) => Z130 (x.1, x.2.1) x.2.2, [], [(true, 2), (true, 2)], [(false, 1)], [false], []⟩
noncomputable abbrev Z130.E : V.Env := V.mkE V.tys [(205, Z29.con)] [] [] [] [] []
theorem Z130.eq (x0 : TKeys) (x1 : TKeys) : V.evBody Z130.E Z130.con Tryz.f197 ((x0.1, x0.2, x1.1, x1.2) : List Int × Int × List Int × Int) = Z130 x0 x1 := by kernel_rfl
theorem Z130.ok : V.Valid Tryz.prog 197 Z130.con :=
  V.fo (V.tab_cons Z29.ok V.tab_nil) Tryz.func197 (by kernel_rfl) (fun x y h => (show V.evBody Z130.E Z130.con Tryz.f197 x = _ from Z130.eq (x.1, x.2.1) x.2.2).trans (V.cfl (by kernel_rfl) h))
noncomputable abbrev Z97.con : V.Con := ⟨V.A4, (.cons .bool .nil), fun (x : V.D4) => Z97 (V.p4_0 x) (V.p4_1 x), [], [(true, 16), (true, 16)], [(false, 1)], [false], []⟩
noncomputable abbrev Z97.E : V.Env := V.mkE V.tys [] [] [] [] [] []
noncomputable abbrev Z97.kt (x0 : THead) (x1 : THead) : V.Kt Bool := V.ktOf Z97.E Z97.con Tryz.f198 (V.fl4 x0 x1)
noncomputable abbrev Z97.s (x0 : THead) (x1 : THead) : V.St := ⟨[(0, .v true (V.lsHead x0)), (1, .v true (V.lsHead x1))], []⟩
theorem Z97.v0 (x0 : THead) (x1 : THead) : V.evBody Z97.E Z97.con Tryz.f198 (V.fl4 x0 x1) = V.evC Z97.E Tryz.f198.ntmps (V.codeOf Tryz.f198) (Z97.kt x0 x1) (Z97.s x0 x1) := by kernel_rfl
theorem Z97.v (x0 : THead) (x1 : THead) : V.evC Z97.E Tryz.f198.ntmps (V.codeOf Tryz.f198) (Z97.kt x0 x1) (Z97.s x0 x1) = Z97 x0 x1 := by kernel_rfl
theorem Z97.eq (x0 : THead) (x1 : THead) : V.evBody Z97.E Z97.con Tryz.f198 (V.fl4 x0 x1) = Z97 x0 x1 := (Z97.v0 x0 x1).trans (Z97.v x0 x1)
theorem Z97.ok : V.Valid Tryz.prog 198 Z97.con :=
  V.fo V.tab_nil Tryz.func198 (by kernel_rfl) (fun x y h => (show V.evBody Z97.E Z97.con Tryz.f198 x = _ from Z97.eq (V.p4_0 x) (V.p4_1 x)).trans (V.cfl (by kernel_rfl) h))
noncomputable abbrev Z34.con : V.Con := ⟨V.A4, (.cons (.int .i64) .nil), fun (x : V.D4) => Z34 (V.p4_0 x) (V.p4_1 x), [], [(true, 16), (true, 16)], [(false, 1)], [false], []⟩
noncomputable abbrev Z34.E : V.Env := V.mkE V.tys [(181, Z125.con), (197, Z130.con), (198, Z97.con)] [(9, [2, 3, 8], [])] [] [] [] []
noncomputable abbrev Z34.kt (x0 : THead) (x1 : THead) : V.Kt Int := V.ktOf Z34.E Z34.con Tryz.f186 (V.fl4 x0 x1)
noncomputable abbrev Z34.s9 (x0 : THead) (x1 : THead) (v9_0 : Bool) : V.St := ⟨[(2, .v false [.ptr 64000 0]), (3, .v false [.ptr 64064 0]), (8, .v false [.val (.bool v9_0)])], [(64000, .box (V.lsHead x0)), (64064, .box (V.lsHead x1))]⟩
theorem Z34.r9 (x0 : THead) (x1 : THead) (v9_0 : Bool) : V.joinF Z34.E Tryz.f186.ntmps [1, 0, 0, 1, 1] [] (V.codeOf Tryz.f186) (Z34.kt x0 x1) (Z34.s9 x0 x1 v9_0) = Z34.g9 x0 x1 v9_0 := by kernel_rfl
theorem Z34.e9 (x0 : THead) (x1 : THead) (v9_0 : Bool) : V.jn (V.joinF Z34.E Tryz.f186.ntmps [1, 0, 0, 1, 1] [] (V.codeOf Tryz.f186) (Z34.kt x0 x1)) (Z34.s9 x0 x1 v9_0) = Z34.l9 x0 x1 v9_0 := by
  rw [V.jn_eq, Z34.r9]
  rfl
noncomputable abbrev Z34.s (x0 : THead) (x1 : THead) : V.St := ⟨[(0, .v true (V.lsHead x0)), (1, .v true (V.lsHead x1))], []⟩
theorem Z34.v0 (x0 : THead) (x1 : THead) : V.evBody Z34.E Z34.con Tryz.f186 (V.fl4 x0 x1) = V.evC Z34.E Tryz.f186.ntmps (V.codeOf Tryz.f186) (Z34.kt x0 x1) (Z34.s x0 x1) := by kernel_rfl
theorem Z34.v (x0 : THead) (x1 : THead) : V.evC Z34.E Tryz.f186.ntmps (V.codeOf Tryz.f186) (Z34.kt x0 x1) (Z34.s x0 x1) = Z34.b x0 x1 (fun v9_0 => V.jn (V.joinF Z34.E Tryz.f186.ntmps [1, 0, 0, 1, 1] [] (V.codeOf Tryz.f186) (Z34.kt x0 x1)) (Z34.s9 x0 x1 v9_0)) := by kernel_rfl
theorem Z34.eq (x0 : THead) (x1 : THead) : V.evBody Z34.E Z34.con Tryz.f186 (V.fl4 x0 x1) = Z34 x0 x1 := by
  rw [Z34.v0, Z34.v]
  simp only [Z34.e9]
  rfl
theorem Z34.ok : V.Valid Tryz.prog 186 Z34.con :=
  V.fo (V.tab_cons Z125.ok (V.tab_cons Z130.ok (V.tab_cons Z97.ok V.tab_nil))) Tryz.func186 (by kernel_rfl) (fun x y h => (show V.evBody Z34.E Z34.con Tryz.f186 x = _ from Z34.eq (V.p4_0 x) (V.p4_1 x)).trans (V.cfl (by kernel_rfl) h))
noncomputable abbrev Z35.con : V.Con := ⟨V.A4, (.cons (.int .i64) .nil), fun (x : V.D4) => Z35 (V.p4_0 x) (V.p4_1 x), [], [(true, 16), (true, 16)], [(false, 1)], [false], []⟩
noncomputable abbrev Z35.E : V.Env := V.mkE V.tys [(181, Z125.con), (197, Z130.con), (198, Z97.con)] [(9, [2, 3, 9], [])] [] [] [] []
noncomputable abbrev Z35.kt (x0 : THead) (x1 : THead) : V.Kt Int := V.ktOf Z35.E Z35.con Tryz.f187 (V.fl4 x0 x1)
noncomputable abbrev Z35.s9 (x0 : THead) (x1 : THead) (v9_0 : Bool) : V.St := ⟨[(2, .v false [.ptr 64000 0]), (3, .v false [.ptr 64064 0]), (9, .v false [.val (.bool v9_0)])], [(64000, .box (V.lsHead x0)), (64064, .box (V.lsHead x1))]⟩
theorem Z35.r9 (x0 : THead) (x1 : THead) (v9_0 : Bool) : V.joinF Z35.E Tryz.f187.ntmps [1, 0, 0, 1, 1] [] (V.codeOf Tryz.f187) (Z35.kt x0 x1) (Z35.s9 x0 x1 v9_0) = Z35.g9 x0 x1 v9_0 := by kernel_rfl
theorem Z35.e9 (x0 : THead) (x1 : THead) (v9_0 : Bool) : V.jn (V.joinF Z35.E Tryz.f187.ntmps [1, 0, 0, 1, 1] [] (V.codeOf Tryz.f187) (Z35.kt x0 x1)) (Z35.s9 x0 x1 v9_0) = Z35.l9 x0 x1 v9_0 := by
  rw [V.jn_eq, Z35.r9]
  rfl
noncomputable abbrev Z35.s (x0 : THead) (x1 : THead) : V.St := ⟨[(0, .v true (V.lsHead x0)), (1, .v true (V.lsHead x1))], []⟩
theorem Z35.v0 (x0 : THead) (x1 : THead) : V.evBody Z35.E Z35.con Tryz.f187 (V.fl4 x0 x1) = V.evC Z35.E Tryz.f187.ntmps (V.codeOf Tryz.f187) (Z35.kt x0 x1) (Z35.s x0 x1) := by kernel_rfl
theorem Z35.v (x0 : THead) (x1 : THead) : V.evC Z35.E Tryz.f187.ntmps (V.codeOf Tryz.f187) (Z35.kt x0 x1) (Z35.s x0 x1) = Z35.b x0 x1 (fun v9_0 => V.jn (V.joinF Z35.E Tryz.f187.ntmps [1, 0, 0, 1, 1] [] (V.codeOf Tryz.f187) (Z35.kt x0 x1)) (Z35.s9 x0 x1 v9_0)) := by kernel_rfl
theorem Z35.eq (x0 : THead) (x1 : THead) : V.evBody Z35.E Z35.con Tryz.f187 (V.fl4 x0 x1) = Z35 x0 x1 := by
  rw [Z35.v0, Z35.v]
  simp only [Z35.e9]
  rfl
theorem Z35.ok : V.Valid Tryz.prog 187 Z35.con :=
  V.fo (V.tab_cons Z125.ok (V.tab_cons Z130.ok (V.tab_cons Z97.ok V.tab_nil))) Tryz.func187 (by kernel_rfl) (fun x y h => (show V.evBody Z35.E Z35.con Tryz.f187 x = _ from Z35.eq (V.p4_0 x) (V.p4_1 x)).trans (V.cfl (by kernel_rfl) h))
noncomputable abbrev Z4.con : V.Con := ⟨V.A5, (.cons (.int .i64) .nil), fun (x : V.D5) => Z4 (V.p5_0 x) (V.p5_1 x), [], [(true, 16), (true, 17)], [(false, 1)], [false], []⟩
noncomputable abbrev Z4.E : V.Env := V.mkE V.tys [(158, Z3.con), (160, Z140.con), (161, Z92.con), (184, Z114.con), (185, Z117.con), (186, Z34.con), (187, Z35.con)] [(9, [2, 3, 5], []), (13, [2, 3, 5], []), (31, [3, 5, 6, 7], [])] [(4, 25), (15, 8)] [] [] []
noncomputable abbrev Z4.kt (x0 : THead) (x1 : TSigned) : V.Kt Int := V.ktOf Z4.E Z4.con Tryz.f162 (V.fl5 x0 x1)
noncomputable abbrev Z4.s31 (x1 : TSigned) (v31_0 : Int) (v31_34 : List Int) (v31_35 : Int) : V.St := ⟨[(3, .v false [.ptr 64064 0]), (5, .v false [.ptr 128128 0]), (6, .v false [.val (.int .i64 v31_0)]), (7, .v false [.ptr 512128 0])], [(64064, .box (V.lsSigned x1)), (128128, .box [.val (.int .i64 x1.1), .val (.int .i64 x1.2.1), .val (.int .i64 x1.2.2.1), .val (.int .i64 x1.2.2.2.1), .val (.int .i64 x1.2.2.2.2.1), .val (.int .i64 x1.2.2.2.2.2.1), .val (.int .i64 x1.2.2.2.2.2.2.1), .val (.int .i64 x1.2.2.2.2.2.2.2.1), .val (.sl (.cons (.int .i64) .nil) x1.2.2.2.2.2.2.2.2.1), .val (.int .i64 x1.2.2.2.2.2.2.2.2.2.1), .val (.sl (.cons (.int .i64) .nil) x1.2.2.2.2.2.2.2.2.2.2.1), .val (.int .i64 x1.2.2.2.2.2.2.2.2.2.2.2.1), .val (.int .i64 x1.2.2.2.2.2.2.2.2.2.2.2.2.1), .val (.sl (.cons (.int .i64) .nil) x1.2.2.2.2.2.2.2.2.2.2.2.2.2.1), .val (.int .i64 x1.2.2.2.2.2.2.2.2.2.2.2.2.2.2.1), .val (.bool x1.2.2.2.2.2.2.2.2.2.2.2.2.2.2.2.1)]), (512128, .box [.val (.sl (.cons (.int .i64) .nil) v31_34), .val (.int .i64 v31_35)])]⟩
noncomputable abbrev Z4.s13 (x0 : THead) (x1 : TSigned) : V.St := ⟨[(2, .v false [.ptr 64000 0]), (3, .v false [.ptr 64064 0]), (5, .v false [.ptr 128128 0])], [(64000, .box (V.lsHead x0)), (64064, .box (V.lsSigned x1)), (128128, .box [.val (.int .i64 x1.1), .val (.int .i64 x1.2.1), .val (.int .i64 x1.2.2.1), .val (.int .i64 x1.2.2.2.1), .val (.int .i64 x1.2.2.2.2.1), .val (.int .i64 x1.2.2.2.2.2.1), .val (.int .i64 x1.2.2.2.2.2.2.1), .val (.int .i64 x1.2.2.2.2.2.2.2.1), .val (.sl (.cons (.int .i64) .nil) x1.2.2.2.2.2.2.2.2.1), .val (.int .i64 x1.2.2.2.2.2.2.2.2.2.1), .val (.sl (.cons (.int .i64) .nil) x1.2.2.2.2.2.2.2.2.2.2.1), .val (.int .i64 x1.2.2.2.2.2.2.2.2.2.2.2.1), .val (.int .i64 x1.2.2.2.2.2.2.2.2.2.2.2.2.1), .val (.sl (.cons (.int .i64) .nil) x1.2.2.2.2.2.2.2.2.2.2.2.2.2.1), .val (.int .i64 x1.2.2.2.2.2.2.2.2.2.2.2.2.2.2.1), .val (.bool x1.2.2.2.2.2.2.2.2.2.2.2.2.2.2.2.1)])]⟩
noncomputable abbrev Z4.s9 (x0 : THead) (x1 : TSigned) : V.St := ⟨[(2, .v false [.ptr 64000 0]), (3, .v false [.ptr 64064 0]), (5, .v false [.ptr 128128 0])], [(64000, .box (V.lsHead x0)), (64064, .box (V.lsSigned x1)), (128128, .box [.val (.int .i64 x1.1), .val (.int .i64 x1.2.1), .val (.int .i64 x1.2.2.1), .val (.int .i64 x1.2.2.2.1), .val (.int .i64 x1.2.2.2.2.1), .val (.int .i64 x1.2.2.2.2.2.1), .val (.int .i64 x1.2.2.2.2.2.2.1), .val (.int .i64 x1.2.2.2.2.2.2.2.1), .val (.sl (.cons (.int .i64) .nil) x1.2.2.2.2.2.2.2.2.1), .val (.int .i64 x1.2.2.2.2.2.2.2.2.2.1), .val (.sl (.cons (.int .i64) .nil) x1.2.2.2.2.2.2.2.2.2.2.1), .val (.int .i64 x1.2.2.2.2.2.2.2.2.2.2.2.1), .val (.int .i64 x1.2.2.2.2.2.2.2.2.2.2.2.2.1), .val (.sl (.cons (.int .i64) .nil) x1.2.2.2.2.2.2.2.2.2.2.2.2.2.1), .val (.int .i64 x1.2.2.2.2.2.2.2.2.2.2.2.2.2.2.1), .val (.bool x1.2.2.2.2.2.2.2.2.2.2.2.2.2.2.2.1)])]⟩
theorem Z4.r31 (x0 : THead) (x1 : TSigned) (v31_0 : Int) (v31_34 : List Int) (v31_35 : Int) : V.joinF Z4.E Tryz.f162.ntmps [1, 1, 1, 1, 1, 1] [] (V.codeOf Tryz.f162) (Z4.kt x0 x1) (Z4.s31 x1 v31_0 v31_34 v31_35) = Z4.g31 x1 v31_0 v31_34 v31_35 := by kernel_rfl
theorem Z4.e31 (x0 : THead) (x1 : TSigned) (v31_0 : Int) (v31_34 : List Int) (v31_35 : Int) : V.jn (V.joinF Z4.E Tryz.f162.ntmps [1, 1, 1, 1, 1, 1] [] (V.codeOf Tryz.f162) (Z4.kt x0 x1)) (Z4.s31 x1 v31_0 v31_34 v31_35) = Z4.l31 x1 v31_0 v31_34 v31_35 := by
  rw [V.jn_eq, Z4.r31]
  rfl
theorem Z4.r13 (x0 : THead) (x1 : TSigned) : V.joinF Z4.E Tryz.f162.ntmps [1, 1, 1] [] (V.codeOf Tryz.f162) (Z4.kt x0 x1) (Z4.s13 x0 x1) = Z4.g13 x0 x1 (fun v31_0 v31_34 v31_35 => V.jn (V.joinF Z4.E Tryz.f162.ntmps [1, 1, 1, 1, 1, 1] [] (V.codeOf Tryz.f162) (Z4.kt x0 x1)) (Z4.s31 x1 v31_0 v31_34 v31_35)) := by kernel_rfl
theorem Z4.e13 (x0 : THead) (x1 : TSigned) : V.jn (V.joinF Z4.E Tryz.f162.ntmps [1, 1, 1] [] (V.codeOf Tryz.f162) (Z4.kt x0 x1)) (Z4.s13 x0 x1) = Z4.l13 x0 x1 := by
  rw [V.jn_eq, Z4.r13]
  simp only [Z4.e31]
  rfl
theorem Z4.r9 (x0 : THead) (x1 : TSigned) : V.joinF Z4.E Tryz.f162.ntmps [1, 1] [] (V.codeOf Tryz.f162) (Z4.kt x0 x1) (Z4.s9 x0 x1) = Z4.g9 x0 x1 (V.jn (V.joinF Z4.E Tryz.f162.ntmps [1, 1, 1] [] (V.codeOf Tryz.f162) (Z4.kt x0 x1)) (Z4.s13 x0 x1)) := by kernel_rfl
theorem Z4.e9 (x0 : THead) (x1 : TSigned) : V.jn (V.joinF Z4.E Tryz.f162.ntmps [1, 1] [] (V.codeOf Tryz.f162) (Z4.kt x0 x1)) (Z4.s9 x0 x1) = Z4.l9 x0 x1 := by
  rw [V.jn_eq, Z4.r9]
  simp only [Z4.e13]
  rfl
noncomputable abbrev Z4.s (x0 : THead) (x1 : TSigned) : V.St := ⟨[(0, .v true (V.lsHead x0)), (1, .v true (V.lsSigned x1))], []⟩
theorem Z4.v0 (x0 : THead) (x1 : TSigned) : V.evBody Z4.E Z4.con Tryz.f162 (V.fl5 x0 x1) = V.evC Z4.E Tryz.f162.ntmps (V.codeOf Tryz.f162) (Z4.kt x0 x1) (Z4.s x0 x1) := by kernel_rfl
theorem Z4.v (x0 : THead) (x1 : TSigned) : V.evC Z4.E Tryz.f162.ntmps (V.codeOf Tryz.f162) (Z4.kt x0 x1) (Z4.s x0 x1) = Z4.b x0 x1 (V.jn (V.joinF Z4.E Tryz.f162.ntmps [1, 1] [] (V.codeOf Tryz.f162) (Z4.kt x0 x1)) (Z4.s9 x0 x1)) := by kernel_rfl
theorem Z4.eq (x0 : THead) (x1 : TSigned) : V.evBody Z4.E Z4.con Tryz.f162 (V.fl5 x0 x1) = Z4 x0 x1 := by
  rw [Z4.v0, Z4.v]
  simp only [Z4.e9]
  rfl
theorem Z4.ok : V.Valid Tryz.prog 162 Z4.con :=
  V.fo (V.tab_cons Z3.ok (V.tab_cons Z140.ok (V.tab_cons Z92.ok (V.tab_cons Z114.ok (V.tab_cons Z117.ok (V.tab_cons Z34.ok (V.tab_cons Z35.ok V.tab_nil))))))) Tryz.func162 (by kernel_rfl) (fun x y h => (show V.evBody Z4.E Z4.con Tryz.f162 x = _ from Z4.eq (V.p5_0 x) (V.p5_1 x)).trans (V.cfl (by kernel_rfl) h))
noncomputable abbrev Z116.con : V.Con := ⟨V.A5, (.cons .bool .nil), fun (x : V.D5) => Z116 (V.p5_0 x) (V.p5_1 x), [], [(true, 16), (true, 17)], [(false, 1)], [false], []⟩
noncomputable abbrev Z116.E : V.Env := V.mkE V.tys [(162, Z4.con)] [] [] [] [] []
noncomputable abbrev Z116.kt (x0 : THead) (x1 : TSigned) : V.Kt Bool := V.ktOf Z116.E Z116.con Tryz.f141 (V.fl5 x0 x1)
noncomputable abbrev Z116.s (x0 : THead) (x1 : TSigned) : V.St := ⟨[(0, .v true (V.lsHead x0)), (1, .v true (V.lsSigned x1))], []⟩
theorem Z116.v0 (x0 : THead) (x1 : TSigned) : V.evBody Z116.E Z116.con Tryz.f141 (V.fl5 x0 x1) = V.evC Z116.E Tryz.f141.ntmps (V.codeOf Tryz.f141) (Z116.kt x0 x1) (Z116.s x0 x1) := by kernel_rfl
theorem Z116.v (x0 : THead) (x1 : TSigned) : V.evC Z116.E Tryz.f141.ntmps (V.codeOf Tryz.f141) (Z116.kt x0 x1) (Z116.s x0 x1) = Z116 x0 x1 := by kernel_rfl
theorem Z116.eq (x0 : THead) (x1 : TSigned) : V.evBody Z116.E Z116.con Tryz.f141 (V.fl5 x0 x1) = Z116 x0 x1 := (Z116.v0 x0 x1).trans (Z116.v x0 x1)
theorem Z116.ok : V.Valid Tryz.prog 141 Z116.con :=
  V.fo (V.tab_cons Z4.ok V.tab_nil) Tryz.func141 (by kernel_rfl) (fun x y h => (show V.evBody Z116.E Z116.con Tryz.f141 x = _ from Z116.eq (V.p5_0 x) (V.p5_1 x)).trans (V.cfl (by kernel_rfl) h))
noncomputable abbrev Z38.con : V.Con := ⟨(.cons (.sl V.eSigned) .nil), (.cons (.int .i64) .nil), fun (x : List TSigned) => Z38 x, [], [(false, 1)], [(false, 1)], [false], []⟩
noncomputable abbrev Z38.E : V.Env := V.mkE V.tys [(140, Z115.con), (141, Z116.con)] [(4, [0, 3], [])] [(4, 23)] [] [] []
noncomputable abbrev Z38.kt (x0 : List TSigned) : V.Kt Int := V.ktOf Z38.E Z38.con Tryz.f117 ((x0) : List TSigned)
noncomputable abbrev Z38.s4 (x0 : List TSigned) (v4_1 : Int) : V.St := ⟨[(0, .v false [.val (.sl V.eSigned x0)]), (3, .v false [.val (.int .i64 v4_1)])], []⟩
theorem Z38.r4 (x0 : List TSigned) (R : V.St → Option Int) (v4_1 : Int) : V.loopF Z38.E Tryz.f117.ntmps [1, 0, 1, 0] [] (V.codeOf Tryz.f117) (Z38.kt x0) R (Z38.s4 x0 v4_1) = Z38.g4 x0 (fun v4_1 => R (Z38.s4 x0 v4_1)) v4_1 := by kernel_rfl
theorem Z38.e4 (x0 : List TSigned) : ∀ (n : Nat) (v4_1 : Int), V.loopN (V.loopF Z38.E Tryz.f117.ntmps [1, 0, 1, 0] [] (V.codeOf Tryz.f117) (Z38.kt x0)) n (Z38.s4 x0 v4_1) = Z38.l4 x0 n v4_1 := by
  intro n
  induction n with
  | zero => intros; rw [V.loopN_z]; rfl
  | succ n ih =>
    intro v4_1
    rw [V.loopN_s, Z38.r4]
    simp only [ih]
    first | exact (Z38.u4 ..).symm | rfl
theorem Z38.v (x0 : List TSigned) : V.evBody Z38.E Z38.con Tryz.f117 ((x0) : List TSigned) = Z38.b x0 (fun v4_1 => V.loopN (V.loopF Z38.E Tryz.f117.ntmps [1, 0, 1, 0] [] (V.codeOf Tryz.f117) (Z38.kt x0)) V.KK (Z38.s4 x0 v4_1)) := by kernel_rfl
theorem Z38.eq (x0 : List TSigned) : V.evBody Z38.E Z38.con Tryz.f117 ((x0) : List TSigned) = Z38 x0 := by
  rw [Z38.v]
  simp only [Z38.e4]
  rfl
theorem Z38.ok : V.Valid Tryz.prog 117 Z38.con :=
  V.fo (V.tab_cons Z115.ok (V.tab_cons Z116.ok V.tab_nil)) Tryz.func117 (by kernel_rfl) (fun x y h => (show V.evBody Z38.E Z38.con Tryz.f117 x = _ from Z38.eq x).trans (V.cfl (by kernel_rfl) h))
noncomputable abbrev Z186.con : V.Con := ⟨(.cons (.sl V.eSigned) .nil), (.cons .bool .nil), fun (x : List TSigned) => Z186 x, [], [(false, 1)], [(false, 1)], [false], []⟩
noncomputable abbrev Z186.E : V.Env := V.mkE V.tys [(69, Z80.con), (117, Z38.con)] [] [] [] [] []
theorem Z186.eq (x0 : List TSigned) : V.evBody Z186.E Z186.con Tryz.f95 ((x0) : List TSigned) = Z186 x0 := by kernel_rfl
theorem Z186.ok : V.Valid Tryz.prog 95 Z186.con :=
  V.fo (V.tab_cons Z80.ok (V.tab_cons Z38.ok V.tab_nil)) Tryz.func95 (by kernel_rfl) (fun x y h => (show V.evBody Z186.E Z186.con Tryz.f95 x = _ from Z186.eq x).trans (V.cfl (by kernel_rfl) h))
noncomputable abbrev Z150.con : V.Con := ⟨(.cons (.sl (.cons (.int .i64) .nil)) (.cons (.int .i64) .nil)), (.cons (.sl (.cons (.int .i64) .nil)) (.cons (.int .i64) .nil)), fun (x : List Int × Int) => Z150 x, [], [(true, 2)], [(true, 2)], [true, false], []⟩
noncomputable abbrev Z150.E : V.Env := V.mkE V.tys [] [] [(1, 6)] [] [] []
theorem Z150.eq (x0 : TKeys) : V.evBody Z150.E Z150.con Tryz.f118 ((x0.1, x0.2) : List Int × Int) = Z150 x0 := by kernel_rfl
theorem Z150.ok : V.Valid Tryz.prog 118 Z150.con :=
  V.fo V.tab_nil Tryz.func118 (by kernel_rfl) (fun x y h => (show V.evBody Z150.E Z150.con Tryz.f118 x = _ from Z150.eq x).trans (V.cfl (by kernel_rfl) h))
noncomputable abbrev Z94.con : V.Con := ⟨V.A2, V.eHead, fun (x : V.D2) => Z94 (V.p2_0 x), [], [(true, 16)], [(true, 16)], [false, false, false, false, false, false, false, false, true, false, true, false, false, true, false, false], []⟩
noncomputable abbrev Z94.E : V.Env := V.mkE V.tys [(118, Z150.con)] [] [] [] [] []
noncomputable abbrev Z94.kt (x0 : THead) : V.Kt THead := V.ktOf Z94.E Z94.con Tryz.f96 (V.fl2 x0)
noncomputable abbrev Z94.s (x0 : THead) : V.St := ⟨[(0, .v true (V.lsHead x0))], []⟩
theorem Z94.v0 (x0 : THead) : V.evBody Z94.E Z94.con Tryz.f96 (V.fl2 x0) = V.evC Z94.E Tryz.f96.ntmps (V.codeOf Tryz.f96) (Z94.kt x0) (Z94.s x0) := by kernel_rfl
theorem Z94.v (x0 : THead) : V.evC Z94.E Tryz.f96.ntmps (V.codeOf Tryz.f96) (Z94.kt x0) (Z94.s x0) = Z94 x0 := by kernel_rfl
theorem Z94.eq (x0 : THead) : V.evBody Z94.E Z94.con Tryz.f96 (V.fl2 x0) = Z94 x0 := (Z94.v0 x0).trans (Z94.v x0)
theorem Z94.ok : V.Valid Tryz.prog 96 Z94.con :=
  V.fo (V.tab_cons Z150.ok V.tab_nil) Tryz.func96 (by kernel_rfl) (fun x y h => (show V.evBody Z94.E Z94.con Tryz.f96 x = _ from Z94.eq (V.p2_0 x)).trans (V.cfl (by kernel_rfl) h))
noncomputable abbrev Z142.con : V.Con := ⟨(.cons (.sl V.eSigned) .nil), V.eRHeadBool, fun (x : List TSigned) => Z142 x, [], [(false, 1)], [(true, 16), (false, 1)], [false, false, false, false, false, false, false, false, true, false, true, false, false, true, false, false, false], []⟩
noncomputable abbrev Z142.E : V.Env := V.mkE V.tys [(95, Z186.con), (96, Z94.con)] [] [] [] [] []
theorem Z142.eq (x0 : List TSigned) : V.evBody Z142.E Z142.con Tryz.f67 ((x0) : List TSigned) = Z142 x0 := by kernel_rfl
theorem Z142.ok : V.Valid Tryz.prog 67 Z142.con :=
  V.fo (V.tab_cons Z186.ok (V.tab_cons Z94.ok V.tab_nil)) Tryz.func67 (by kernel_rfl) (fun x y h => (show V.evBody Z142.E Z142.con Tryz.f67 x = _ from Z142.eq x).trans (V.cfl (by kernel_rfl) h))
noncomputable abbrev Z6.con : V.Con := ⟨(.cons .str .nil), (.cons .bool .nil), fun (x : ByteArray) => Z6 x, [], [(false, 1)], [(false, 1)], [false], []⟩
noncomputable abbrev Z6.E : V.Env := V.mkE V.tys [(69, Z80.con)] [(7, [0], []), (8, [0, 3], [])] [] [] [] []
noncomputable abbrev Z6.kt (x0 : ByteArray) : V.Kt Bool := V.ktOf Z6.E Z6.con Tryz.f44 ((x0) : ByteArray)
noncomputable abbrev Z6.s8 (x0 : ByteArray) (v8_1 : Int) : V.St := ⟨[(0, .v false [.val (.str x0)]), (3, .v false [.val (.int .i64 v8_1)])], []⟩
noncomputable abbrev Z6.s7 (x0 : ByteArray) : V.St := ⟨[(0, .v false [.val (.str x0)])], []⟩
theorem Z6.r8 (x0 : ByteArray) (R : V.St → Option Bool) (v8_1 : Int) : V.loopF Z6.E Tryz.f44.ntmps [1, 1, 0, 1, 0] [] (V.codeOf Tryz.f44) (Z6.kt x0) R (Z6.s8 x0 v8_1) = Z6.g8 x0 (fun v8_1 => R (Z6.s8 x0 v8_1)) v8_1 := by kernel_rfl
theorem Z6.e8 (x0 : ByteArray) : ∀ (n : Nat) (v8_1 : Int), V.loopN (V.loopF Z6.E Tryz.f44.ntmps [1, 1, 0, 1, 0] [] (V.codeOf Tryz.f44) (Z6.kt x0)) n (Z6.s8 x0 v8_1) = Z6.l8 x0 n v8_1 := by
  intro n
  induction n with
  | zero => intros; rw [V.loopN_z]; rfl
  | succ n ih =>
    intro v8_1
    rw [V.loopN_s, Z6.r8]
    simp only [ih]
    first | exact (Z6.u8 ..).symm | rfl
theorem Z6.r7 (x0 : ByteArray) : V.joinF Z6.E Tryz.f44.ntmps [1] [] (V.codeOf Tryz.f44) (Z6.kt x0) (Z6.s7 x0) = Z6.g7 x0 (fun v8_1 => V.loopN (V.loopF Z6.E Tryz.f44.ntmps [1, 1, 0, 1, 0] [] (V.codeOf Tryz.f44) (Z6.kt x0)) V.KK (Z6.s8 x0 v8_1)) := by kernel_rfl
theorem Z6.e7 (x0 : ByteArray) : V.jn (V.joinF Z6.E Tryz.f44.ntmps [1] [] (V.codeOf Tryz.f44) (Z6.kt x0)) (Z6.s7 x0) = Z6.l7 x0 := by
  rw [V.jn_eq, Z6.r7]
  simp only [Z6.e8]
  rfl
theorem Z6.v (x0 : ByteArray) : V.evBody Z6.E Z6.con Tryz.f44 ((x0) : ByteArray) = Z6.b x0 (V.jn (V.joinF Z6.E Tryz.f44.ntmps [1] [] (V.codeOf Tryz.f44) (Z6.kt x0)) (Z6.s7 x0)) := by kernel_rfl
theorem Z6.eq (x0 : ByteArray) : V.evBody Z6.E Z6.con Tryz.f44 ((x0) : ByteArray) = Z6 x0 := by
  rw [Z6.v]
  simp only [Z6.e7]
  rfl
theorem Z6.ok : V.Valid Tryz.prog 44 Z6.con :=
  V.fo (V.tab_cons Z80.ok V.tab_nil) Tryz.func44 (by kernel_rfl) (fun x y h => (show V.evBody Z6.E Z6.con Tryz.f44 x = _ from Z6.eq x).trans (V.cfl (by kernel_rfl) h))
noncomputable abbrev Z49.con : V.Con := ⟨(.cons (.sl (.cons .str .nil)) .nil), (.cons .bool .nil), fun (x : List ByteArray) => Z49 x, [], [(false, 1)], [(false, 1)], [false], []⟩
noncomputable abbrev Z49.E : V.Env := V.mkE V.tys [(44, Z6.con), (69, Z80.con)] [(4, [0, 3], [])] [] [] [] []
noncomputable abbrev Z49.kt (x0 : List ByteArray) : V.Kt Bool := V.ktOf Z49.E Z49.con Tryz.f124 ((x0) : List ByteArray)
noncomputable abbrev Z49.s4 (x0 : List ByteArray) (v4_1 : Int) : V.St := ⟨[(0, .v false [.val (.sl (.cons .str .nil) x0)]), (3, .v false [.val (.int .i64 v4_1)])], []⟩
theorem Z49.r4 (x0 : List ByteArray) (R : V.St → Option Bool) (v4_1 : Int) : V.loopF Z49.E Tryz.f124.ntmps [1, 0, 1, 0] [] (V.codeOf Tryz.f124) (Z49.kt x0) R (Z49.s4 x0 v4_1) = Z49.g4 x0 (fun v4_1 => R (Z49.s4 x0 v4_1)) v4_1 := by kernel_rfl
theorem Z49.e4 (x0 : List ByteArray) : ∀ (n : Nat) (v4_1 : Int), V.loopN (V.loopF Z49.E Tryz.f124.ntmps [1, 0, 1, 0] [] (V.codeOf Tryz.f124) (Z49.kt x0)) n (Z49.s4 x0 v4_1) = Z49.l4 x0 n v4_1 := by
  intro n
  induction n with
  | zero => intros; rw [V.loopN_z]; rfl
  | succ n ih =>
    intro v4_1
    rw [V.loopN_s, Z49.r4]
    simp only [ih]
    first | exact (Z49.u4 ..).symm | rfl
theorem Z49.v (x0 : List ByteArray) : V.evBody Z49.E Z49.con Tryz.f124 ((x0) : List ByteArray) = Z49.b x0 (fun v4_1 => V.loopN (V.loopF Z49.E Tryz.f124.ntmps [1, 0, 1, 0] [] (V.codeOf Tryz.f124) (Z49.kt x0)) V.KK (Z49.s4 x0 v4_1)) := by kernel_rfl
theorem Z49.eq (x0 : List ByteArray) : V.evBody Z49.E Z49.con Tryz.f124 ((x0) : List ByteArray) = Z49 x0 := by
  rw [Z49.v]
  simp only [Z49.e4]
  rfl
theorem Z49.ok : V.Valid Tryz.prog 124 Z49.con :=
  V.fo (V.tab_cons Z6.ok (V.tab_cons Z80.ok V.tab_nil)) Tryz.func124 (by kernel_rfl) (fun x y h => (show V.evBody Z49.E Z49.con Tryz.f124 x = _ from Z49.eq x).trans (V.cfl (by kernel_rfl) h))
noncomputable abbrev Z187.con : V.Con := ⟨V.eEntry, (.cons .bool .nil), fun (x : ByteArray × Int × Int × List ByteArray) => Z187 x, [], [(true, 4)], [(false, 1)], [false], []⟩
noncomputable abbrev Z187.E : V.Env := V.mkE V.tys [(44, Z6.con), (69, Z80.con), (124, Z49.con)] [] [] [] [] []
theorem Z187.eq (x0 : TEntry) : V.evBody Z187.E Z187.con Tryz.f100 ((x0.1, x0.2.1, x0.2.2.1, x0.2.2.2) : ByteArray × Int × Int × List ByteArray) = Z187 x0 := by kernel_rfl
theorem Z187.ok : V.Valid Tryz.prog 100 Z187.con :=
  V.fo (V.tab_cons Z6.ok (V.tab_cons Z80.ok (V.tab_cons Z49.ok V.tab_nil))) Tryz.func100 (by kernel_rfl) (fun x y h => (show V.evBody Z187.E Z187.con Tryz.f100 x = _ from Z187.eq x).trans (V.cfl (by kernel_rfl) h))
noncomputable abbrev Z135.con : V.Con := ⟨(.cons .str (.cons .str .nil)), (.cons (.int .i64) .nil), fun (x : ByteArray × ByteArray) => Z135 x.1 x.2, [], [(false, 1), (false, 1)], [(false, 1)], [false], []⟩
noncomputable abbrev Z135.E : V.Env := V.mkE V.tys [] [] [] [] [] []
theorem Z135.eq (x0 : ByteArray) (x1 : ByteArray) : V.evBody Z135.E Z135.con Tryz.f101 ((x0, x1) : ByteArray × ByteArray) = Z135 x0 x1 := by kernel_rfl
theorem Z135.ok : V.Valid Tryz.prog 101 Z135.con :=
  V.fo V.tab_nil Tryz.func101 (by kernel_rfl) (fun x y h => (show V.evBody Z135.E Z135.con Tryz.f101 x = _ from Z135.eq x.1 x.2).trans (V.cfl (by kernel_rfl) h))
noncomputable abbrev Z28.con : V.Con := ⟨(.cons (.sl V.eEntry) .nil), (.cons .bool .nil), fun (x : List TEntry) => Z28 x, [], [(false, 1)], [(false, 1)], [false], []⟩
noncomputable abbrev Z28.E : V.Env := V.mkE V.tys [(100, Z187.con), (101, Z135.con)] [(4, [0, 3], [])] [(4, 21)] [] [] []
noncomputable abbrev Z28.kt (x0 : List TEntry) : V.Kt Bool := V.ktOf Z28.E Z28.con Tryz.f74 ((x0) : List TEntry)
noncomputable abbrev Z28.s4 (x0 : List TEntry) (v4_1 : Int) : V.St := ⟨[(0, .v false [.val (.sl V.eEntry x0)]), (3, .v false [.val (.int .i64 v4_1)])], []⟩
theorem Z28.r4 (x0 : List TEntry) (R : V.St → Option Bool) (v4_1 : Int) : V.loopF Z28.E Tryz.f74.ntmps [1, 0, 1, 0] [] (V.codeOf Tryz.f74) (Z28.kt x0) R (Z28.s4 x0 v4_1) = Z28.g4 x0 (fun v4_1 => R (Z28.s4 x0 v4_1)) v4_1 := by kernel_rfl
theorem Z28.e4 (x0 : List TEntry) : ∀ (n : Nat) (v4_1 : Int), V.loopN (V.loopF Z28.E Tryz.f74.ntmps [1, 0, 1, 0] [] (V.codeOf Tryz.f74) (Z28.kt x0)) n (Z28.s4 x0 v4_1) = Z28.l4 x0 n v4_1 := by
  intro n
  induction n with
  | zero => intros; rw [V.loopN_z]; rfl
  | succ n ih =>
    intro v4_1
    rw [V.loopN_s, Z28.r4]
    simp only [ih]
    first | exact (Z28.u4 ..).symm | rfl
theorem Z28.v (x0 : List TEntry) : V.evBody Z28.E Z28.con Tryz.f74 ((x0) : List TEntry) = Z28.b x0 (fun v4_1 => V.loopN (V.loopF Z28.E Tryz.f74.ntmps [1, 0, 1, 0] [] (V.codeOf Tryz.f74) (Z28.kt x0)) V.KK (Z28.s4 x0 v4_1)) := by kernel_rfl
theorem Z28.eq (x0 : List TEntry) : V.evBody Z28.E Z28.con Tryz.f74 ((x0) : List TEntry) = Z28 x0 := by
  rw [Z28.v]
  simp only [Z28.e4]
  rfl
theorem Z28.ok : V.Valid Tryz.prog 74 Z28.con :=
  V.fo (V.tab_cons Z187.ok (V.tab_cons Z135.ok V.tab_nil)) Tryz.func74 (by kernel_rfl) (fun x y h => (show V.evBody Z28.E Z28.con Tryz.f74 x = _ from Z28.eq x).trans (V.cfl (by kernel_rfl) h))
noncomputable abbrev Z76.con : V.Con := ⟨(.cons (.sl (.cons (.int .u8) .nil)) .nil), (.cons (.sl (.cons (.int .i64) .nil)) .nil), fun (x : List Int) => Z76 x, [], [(false, 1)], [(false, 1)], [true], []⟩
noncomputable abbrev Z76.E : V.Env := V.mkE V.tys [] [(6, [0, 3, 4], [])] [] [] [] []
noncomputable abbrev Z76.kt (x0 : List Int) : V.Kt (List Int) := V.ktOf Z76.E Z76.con Tryz.f163 ((x0) : List Int)
noncomputable abbrev Z76.s6 (x0 : List Int) (v6_1 : Int) (v6_2 : List Int) : V.St := ⟨[(0, .v false [.val (.sl (.cons (.int .u8) .nil) x0)]), (3, .v false [.ref 64000038400192]), (4, .v false [.val (.int .i64 v6_1)])], [(64000038400192, .row (.cons (.int .i64) .nil) true v6_2)]⟩
theorem Z76.r6 (x0 : List Int) (R : V.St → Option (List Int)) (v6_1 : Int) (v6_2 : List Int) : V.loopF Z76.E Tryz.f163.ntmps [1, 1, 0, 1, 0] [] (V.codeOf Tryz.f163) (Z76.kt x0) R (Z76.s6 x0 v6_1 v6_2) = Z76.g6 x0 (fun v6_1 v6_2 => R (Z76.s6 x0 v6_1 v6_2)) v6_1 v6_2 := by kernel_rfl
theorem Z76.e6 (x0 : List Int) : ∀ (n : Nat) (v6_1 : Int) (v6_2 : List Int), V.loopN (V.loopF Z76.E Tryz.f163.ntmps [1, 1, 0, 1, 0] [] (V.codeOf Tryz.f163) (Z76.kt x0)) n (Z76.s6 x0 v6_1 v6_2) = Z76.l6 x0 n v6_1 v6_2 := by
  intro n
  induction n with
  | zero => intros; rw [V.loopN_z]; rfl
  | succ n ih =>
    intro v6_1 v6_2
    rw [V.loopN_s, Z76.r6]
    simp only [ih]
    first | exact (Z76.u6 ..).symm | rfl
theorem Z76.v (x0 : List Int) : V.evBody Z76.E Z76.con Tryz.f163 ((x0) : List Int) = Z76.b x0 (fun v6_1 v6_2 => V.loopN (V.loopF Z76.E Tryz.f163.ntmps [1, 1, 0, 1, 0] [] (V.codeOf Tryz.f163) (Z76.kt x0)) V.KK (Z76.s6 x0 v6_1 v6_2)) := by kernel_rfl
theorem Z76.eq (x0 : List Int) : V.evBody Z76.E Z76.con Tryz.f163 ((x0) : List Int) = Z76 x0 := by
  rw [Z76.v]
  simp only [Z76.e6]
  rfl
theorem Z76.ok : V.Valid Tryz.prog 163 Z76.con :=
  V.fo V.tab_nil Tryz.func163 (by kernel_rfl) (fun x y h => (show V.evBody Z76.E Z76.con Tryz.f163 x = _ from Z76.eq x).trans (V.cfl (by kernel_rfl) h))
noncomputable abbrev Z149.con : V.Con := ⟨(.cons .str .nil), (.cons (.sl (.cons (.int .i64) .nil)) .nil), fun (x : ByteArray) => Z149 x, [], [(false, 1)], [(false, 1)], [true], []⟩
noncomputable abbrev Z149.E : V.Env := V.mkE V.tys [(163, Z76.con)] [] [] [] [] []
theorem Z149.eq (x0 : ByteArray) : V.evBody Z149.E Z149.con Tryz.f143 ((x0) : ByteArray) = Z149 x0 := by kernel_rfl
theorem Z149.ok : V.Valid Tryz.prog 143 Z149.con :=
  V.fo (V.tab_cons Z76.ok V.tab_nil) Tryz.func143 (by kernel_rfl) (fun x y h => (show V.evBody Z149.E Z149.con Tryz.f143 x = _ from Z149.eq x).trans (V.cfl (by kernel_rfl) h))
noncomputable abbrev Z77.con : V.Con := ⟨V.eEntry, (.cons (.sl (.cons (.int .i64) .nil)) .nil), fun (x : ByteArray × Int × Int × List ByteArray) => Z77 x, [], [(true, 4)], [(false, 1)], [true], []⟩
noncomputable abbrev Z77.E : V.Env := V.mkE V.tys [(143, Z149.con)] [(6, [1, 3, 4], [])] [(1, 11)] [] [] []
noncomputable abbrev Z77.kt (x0 : TEntry) : V.Kt (List Int) := V.ktOf Z77.E Z77.con Tryz.f123 ((x0.1, x0.2.1, x0.2.2.1, x0.2.2.2) : ByteArray × Int × Int × List ByteArray)
noncomputable abbrev Z77.s6 (x0 : TEntry) (v6_0 : Int) (v6_5 : List Int) : V.St := ⟨[(1, .v false [.ptr 64000 0]), (3, .v false [.ref 64000038400192]), (4, .v false [.val (.int .i64 v6_0)])], [(64000, .box [.val (.str x0.1), .val (.int .i64 x0.2.1), .val (.int .i64 x0.2.2.1), .val (.sl (.cons .str .nil) x0.2.2.2)]), (64000038400192, .row (.cons (.int .i64) .nil) true v6_5)]⟩
theorem Z77.r6 (x0 : TEntry) (R : V.St → Option (List Int)) (v6_0 : Int) (v6_5 : List Int) : V.loopF Z77.E Tryz.f123.ntmps [1, 1, 0, 1, 0] [] (V.codeOf Tryz.f123) (Z77.kt x0) R (Z77.s6 x0 v6_0 v6_5) = Z77.g6 x0 (fun v6_0 v6_5 => R (Z77.s6 x0 v6_0 v6_5)) v6_0 v6_5 := by kernel_rfl
theorem Z77.e6 (x0 : TEntry) : ∀ (n : Nat) (v6_0 : Int) (v6_5 : List Int), V.loopN (V.loopF Z77.E Tryz.f123.ntmps [1, 1, 0, 1, 0] [] (V.codeOf Tryz.f123) (Z77.kt x0)) n (Z77.s6 x0 v6_0 v6_5) = Z77.l6 x0 n v6_0 v6_5 := by
  intro n
  induction n with
  | zero => intros; rw [V.loopN_z]; rfl
  | succ n ih =>
    intro v6_0 v6_5
    rw [V.loopN_s, Z77.r6]
    simp only [ih]
    first | exact (Z77.u6 ..).symm | rfl
theorem Z77.v (x0 : TEntry) : V.evBody Z77.E Z77.con Tryz.f123 ((x0.1, x0.2.1, x0.2.2.1, x0.2.2.2) : ByteArray × Int × Int × List ByteArray) = Z77.b x0 (fun v6_0 v6_5 => V.loopN (V.loopF Z77.E Tryz.f123.ntmps [1, 1, 0, 1, 0] [] (V.codeOf Tryz.f123) (Z77.kt x0)) V.KK (Z77.s6 x0 v6_0 v6_5)) := by kernel_rfl
theorem Z77.eq (x0 : TEntry) : V.evBody Z77.E Z77.con Tryz.f123 ((x0.1, x0.2.1, x0.2.2.1, x0.2.2.2) : ByteArray × Int × Int × List ByteArray) = Z77 x0 := by
  rw [Z77.v]
  simp only [Z77.e6]
  rfl
theorem Z77.ok : V.Valid Tryz.prog 123 Z77.con :=
  V.fo (V.tab_cons Z149.ok V.tab_nil) Tryz.func123 (by kernel_rfl) (fun x y h => (show V.evBody Z77.E Z77.con Tryz.f123 x = _ from Z77.eq x).trans (V.cfl (by kernel_rfl) h))
noncomputable abbrev Z162.con : V.Con := ⟨V.eEntry, (.cons (.int .i64) .nil), fun (x : ByteArray × Int × Int × List ByteArray) => Z162 x, [], [(true, 4)], [(false, 1)], [false], []⟩
noncomputable abbrev Z162.E : V.Env := V.mkE V.tys [(122, Z11.con), (123, Z77.con)] [] [] [] [] []
theorem Z162.eq (x0 : TEntry) : V.evBody Z162.E Z162.con Tryz.f99 ((x0.1, x0.2.1, x0.2.2.1, x0.2.2.2) : ByteArray × Int × Int × List ByteArray) = Z162 x0 := by kernel_rfl
theorem Z162.ok : V.Valid Tryz.prog 99 Z162.con :=
  V.fo (V.tab_cons Z11.ok (V.tab_cons Z77.ok V.tab_nil)) Tryz.func99 (by kernel_rfl) (fun x y h => (show V.evBody Z162.E Z162.con Tryz.f99 x = _ from Z162.eq x).trans (V.cfl (by kernel_rfl) h))
noncomputable abbrev Z50.con : V.Con := ⟨(.cons (.sl V.eEntry) .nil), (.cons (.sl (.cons (.int .i64) .nil)) .nil), fun (x : List TEntry) => Z50 x, [], [(false, 1)], [(false, 1)], [true], []⟩
noncomputable abbrev Z50.E : V.Env := V.mkE V.tys [(99, Z162.con)] [(6, [0, 3, 4], [(64000038400192, (.cons (.int .i64) .nil), true)])] [] [] [] []
noncomputable abbrev Z50.kt (x0 : List TEntry) : V.Kt (List Int) := V.ktOf Z50.E Z50.con Tryz.f73 ((x0) : List TEntry)
noncomputable abbrev Z50.s6 (x0 : List TEntry) (v6_1 : Int) (v6_2 : List Int) : V.St := ⟨[(0, .v false [.val (.sl V.eEntry x0)]), (3, .v false [.ref 64000038400192]), (4, .v false [.val (.int .i64 v6_1)])], [(64000038400192, .row (.cons (.int .i64) .nil) true v6_2)]⟩
theorem Z50.r6 (x0 : List TEntry) (R : V.St → Option (List Int)) (v6_1 : Int) (v6_2 : List Int) : V.loopF Z50.E Tryz.f73.ntmps [1, 1, 0, 1, 0] [] (V.codeOf Tryz.f73) (Z50.kt x0) R (Z50.s6 x0 v6_1 v6_2) = Z50.g6 x0 (fun v6_1 v6_2 => R (Z50.s6 x0 v6_1 v6_2)) v6_1 v6_2 := by kernel_rfl
theorem Z50.e6 (x0 : List TEntry) : ∀ (n : Nat) (v6_1 : Int) (v6_2 : List Int), V.loopN (V.loopF Z50.E Tryz.f73.ntmps [1, 1, 0, 1, 0] [] (V.codeOf Tryz.f73) (Z50.kt x0)) n (Z50.s6 x0 v6_1 v6_2) = Z50.l6 x0 n v6_1 v6_2 := by
  intro n
  induction n with
  | zero => intros; rw [V.loopN_z]; rfl
  | succ n ih =>
    intro v6_1 v6_2
    rw [V.loopN_s, Z50.r6]
    simp only [ih]
    first | exact (Z50.u6 ..).symm | rfl
theorem Z50.v (x0 : List TEntry) : V.evBody Z50.E Z50.con Tryz.f73 ((x0) : List TEntry) = Z50.b x0 (fun v6_1 v6_2 => V.loopN (V.loopF Z50.E Tryz.f73.ntmps [1, 1, 0, 1, 0] [] (V.codeOf Tryz.f73) (Z50.kt x0)) V.KK (Z50.s6 x0 v6_1 v6_2)) := by kernel_rfl
theorem Z50.eq (x0 : List TEntry) : V.evBody Z50.E Z50.con Tryz.f73 ((x0) : List TEntry) = Z50 x0 := by
  rw [Z50.v]
  simp only [Z50.e6]
  rfl
theorem Z50.ok : V.Valid Tryz.prog 73 Z50.con :=
  V.fo (V.tab_cons Z162.ok V.tab_nil) Tryz.func73 (by kernel_rfl) (fun x y h => (show V.evBody Z50.E Z50.con Tryz.f73 x = _ from Z50.eq x).trans (V.cfl (by kernel_rfl) h))
noncomputable abbrev Z191.con : V.Con := ⟨(.cons (.int .i64) (.cons (.int .i64) .nil)), (.cons (.int .i64) .nil), fun (x : Int × Int) => Z191 x.1 x.2, [], [(false, 1), (false, 1)], [(false, 1)], [false], []⟩
noncomputable abbrev Z191.E : V.Env := V.mkE V.tys [(122, Z11.con)] [] [] [] [] []
theorem Z191.eq (x0 : Int) (x1 : Int) : V.evBody Z191.E Z191.con Tryz.f121 ((x0, x1) : Int × Int) = Z191 x0 x1 := by kernel_rfl
theorem Z191.ok : V.Valid Tryz.prog 121 Z191.con :=
  V.fo (V.tab_cons Z11.ok V.tab_nil) Tryz.func121 (by kernel_rfl) (fun x y h => (show V.evBody Z191.E Z191.con Tryz.f121 x = _ from Z191.eq x.1 x.2).trans (V.cfl (by kernel_rfl) h))
noncomputable abbrev Z39.con : V.Con := ⟨(.cons (.sl (.cons (.int .i64) .nil)) .nil), (.cons (.sl (.cons (.int .i64) .nil)) .nil), fun (x : List Int) => Z39 x, [], [(false, 1)], [(false, 1)], [true], []⟩
noncomputable abbrev Z39.E : V.Env := V.mkE V.tys [(121, Z191.con)] [(6, [0, 3, 4], [(64000038400192, (.cons (.int .i64) .nil), true)])] [(6, 12)] [] [] []
noncomputable abbrev Z39.kt (x0 : List Int) : V.Kt (List Int) := V.ktOf Z39.E Z39.con Tryz.f98 ((x0) : List Int)
noncomputable abbrev Z39.s6 (x0 : List Int) (v6_1 : Int) (v6_2 : List Int) : V.St := ⟨[(0, .v false [.val (.sl (.cons (.int .i64) .nil) x0)]), (3, .v false [.ref 64000038400192]), (4, .v false [.val (.int .i64 v6_1)])], [(64000038400192, .row (.cons (.int .i64) .nil) true v6_2)]⟩
theorem Z39.r6 (x0 : List Int) (R : V.St → Option (List Int)) (v6_1 : Int) (v6_2 : List Int) : V.loopF Z39.E Tryz.f98.ntmps [1, 1, 0, 1, 0] [] (V.codeOf Tryz.f98) (Z39.kt x0) R (Z39.s6 x0 v6_1 v6_2) = Z39.g6 x0 (fun v6_1 v6_2 => R (Z39.s6 x0 v6_1 v6_2)) v6_1 v6_2 := by kernel_rfl
theorem Z39.e6 (x0 : List Int) : ∀ (n : Nat) (v6_1 : Int) (v6_2 : List Int), V.loopN (V.loopF Z39.E Tryz.f98.ntmps [1, 1, 0, 1, 0] [] (V.codeOf Tryz.f98) (Z39.kt x0)) n (Z39.s6 x0 v6_1 v6_2) = Z39.l6 x0 n v6_1 v6_2 := by
  intro n
  induction n with
  | zero => intros; rw [V.loopN_z]; rfl
  | succ n ih =>
    intro v6_1 v6_2
    rw [V.loopN_s, Z39.r6]
    simp only [ih]
    first | exact (Z39.u6 ..).symm | rfl
theorem Z39.v (x0 : List Int) : V.evBody Z39.E Z39.con Tryz.f98 ((x0) : List Int) = Z39.b x0 (fun v6_1 v6_2 => V.loopN (V.loopF Z39.E Tryz.f98.ntmps [1, 1, 0, 1, 0] [] (V.codeOf Tryz.f98) (Z39.kt x0)) V.KK (Z39.s6 x0 v6_1 v6_2)) := by kernel_rfl
theorem Z39.eq (x0 : List Int) : V.evBody Z39.E Z39.con Tryz.f98 ((x0) : List Int) = Z39 x0 := by
  rw [Z39.v]
  simp only [Z39.e6]
  rfl
theorem Z39.ok : V.Valid Tryz.prog 98 Z39.con :=
  V.fo (V.tab_cons Z191.ok V.tab_nil) Tryz.func98 (by kernel_rfl) (fun x y h => (show V.evBody Z39.E Z39.con Tryz.f98 x = _ from Z39.eq x).trans (V.cfl (by kernel_rfl) h))
noncomputable abbrev Z57.con : V.Con := ⟨(.cons (.sl (.cons (.int .i64) .nil)) .nil), (.cons (.int .i64) .nil), fun (x : List Int) => Z57 x, [], [(false, 1)], [(false, 1)], [false], []⟩
noncomputable abbrev Z57.E : V.Env := V.mkE V.tys [(98, Z39.con), (122, Z11.con)] [(8, [3], [(3, (.cons (.int .i64) .nil), false)])] [] [] [] []
noncomputable abbrev Z57.kt (x0 : List Int) : V.Kt Int := V.ktOf Z57.E Z57.con Tryz.f120 ((x0) : List Int)
noncomputable abbrev Z57.s8 (v8_0 : List Int) : V.St := ⟨[(3, .v false [.val (.sl (.cons (.int .i64) .nil) v8_0)])], []⟩
theorem Z57.r8 (x0 : List Int) (R : V.St → Option Int) (v8_0 : List Int) : V.loopF Z57.E Tryz.f120.ntmps [1, 1, 1, 0, 0] [] (V.codeOf Tryz.f120) (Z57.kt x0) R (Z57.s8 v8_0) = Z57.g8 (fun v8_0 => R (Z57.s8 v8_0)) v8_0 := by kernel_rfl
theorem Z57.e8 (x0 : List Int) : ∀ (n : Nat) (v8_0 : List Int), V.loopN (V.loopF Z57.E Tryz.f120.ntmps [1, 1, 1, 0, 0] [] (V.codeOf Tryz.f120) (Z57.kt x0)) n (Z57.s8 v8_0) = Z57.l8 n v8_0 := by
  intro n
  induction n with
  | zero => intros; rw [V.loopN_z]; rfl
  | succ n ih =>
    intro v8_0
    rw [V.loopN_s, Z57.r8]
    simp only [ih]
    first | exact (Z57.u8 ..).symm | rfl
theorem Z57.v (x0 : List Int) : V.evBody Z57.E Z57.con Tryz.f120 ((x0) : List Int) = Z57.b x0 (fun v8_0 => V.loopN (V.loopF Z57.E Tryz.f120.ntmps [1, 1, 1, 0, 0] [] (V.codeOf Tryz.f120) (Z57.kt x0)) V.KK (Z57.s8 v8_0)) := by kernel_rfl
theorem Z57.eq (x0 : List Int) : V.evBody Z57.E Z57.con Tryz.f120 ((x0) : List Int) = Z57 x0 := by
  rw [Z57.v]
  simp only [Z57.e8]
  rfl
theorem Z57.ok : V.Valid Tryz.prog 120 Z57.con :=
  V.fo (V.tab_cons Z39.ok (V.tab_cons Z11.ok V.tab_nil)) Tryz.func120 (by kernel_rfl) (fun x y h => (show V.evBody Z57.E Z57.con Tryz.f120 x = _ from Z57.eq x).trans (V.cfl (by kernel_rfl) h))
noncomputable abbrev Z203.con : V.Con := ⟨(.cons (.int .i64) (.cons (.int .i64) .nil)), (.cons (.int .i64) .nil), fun (x : Int × Int) => Z203 x.1 x.2, [], [(false, 1), (false, 1)], [(false, 1)], [false], []⟩
noncomputable abbrev Z203.E : V.Env := V.mkE V.tys [(122, Z11.con)] [] [] [] [] []
theorem Z203.eq (x0 : Int) (x1 : Int) : V.evBody Z203.E Z203.con Tryz.f119 ((x0, x1) : Int × Int) = Z203 x0 x1 := by kernel_rfl
theorem Z203.ok : V.Valid Tryz.prog 119 Z203.con :=
  V.fo (V.tab_cons Z11.ok V.tab_nil) Tryz.func119 (by kernel_rfl) (fun x y h => (show V.evBody Z203.E Z203.con Tryz.f119 x = _ from Z203.eq x.1 x.2).trans (V.cfl (by kernel_rfl) h))
noncomputable abbrev Z192.con : V.Con := ⟨(.cons (.sl V.eEntry) .nil), (.cons (.int .i64) .nil), fun (x : List TEntry) => Z192 x, [], [(false, 1)], [(false, 1)], [false], []⟩
noncomputable abbrev Z192.E : V.Env := V.mkE V.tys [(73, Z50.con), (119, Z203.con), (120, Z57.con)] [] [] [] [] []
theorem Z192.eq (x0 : List TEntry) : V.evBody Z192.E Z192.con Tryz.f97 ((x0) : List TEntry) = Z192 x0 := by kernel_rfl
theorem Z192.ok : V.Valid Tryz.prog 97 Z192.con :=
  V.fo (V.tab_cons Z50.ok (V.tab_cons Z203.ok (V.tab_cons Z57.ok V.tab_nil))) Tryz.func97 (by kernel_rfl) (fun x y h => (show V.evBody Z192.E Z192.con Tryz.f97 x = _ from Z192.eq x).trans (V.cfl (by kernel_rfl) h))
noncomputable abbrev Z185.con : V.Con := ⟨(.cons (.int .i64) (.cons (.sl V.eEntry) .nil)), (.cons .bool .nil), fun (x : Int × List TEntry) => Z185 x.1 x.2, [], [(false, 1), (false, 1)], [(false, 1)], [false], []⟩
noncomputable abbrev Z185.E : V.Env := V.mkE V.tys [(74, Z28.con), (97, Z192.con)] [] [] [] [] []
theorem Z185.eq (x0 : Int) (x1 : List TEntry) : V.evBody Z185.E Z185.con Tryz.f68 ((x0, x1) : Int × List TEntry) = Z185 x0 x1 := by kernel_rfl
theorem Z185.ok : V.Valid Tryz.prog 68 Z185.con :=
  V.fo (V.tab_cons Z28.ok (V.tab_cons Z192.ok V.tab_nil)) Tryz.func68 (by kernel_rfl) (fun x y h => (show V.evBody Z185.E Z185.con Tryz.f68 x = _ from Z185.eq x.1 x.2).trans (V.cfl (by kernel_rfl) h))
noncomputable abbrev Z141.con : V.Con := ⟨(.cons (.sl V.eSigned) (.cons (.sl V.eEntry) .nil)), (.cons .bool .nil), fun (x : List TSigned × List TEntry) => Z141 x, [], [(true, 2)], [(false, 1)], [false], []⟩
noncomputable abbrev Z141.E : V.Env := V.mkE V.tys [(67, Z142.con), (68, Z185.con)] [] [] [] [] []
theorem Z141.eq (x0 : TZone) : V.evBody Z141.E Z141.con Tryz.f43 ((x0.1, x0.2) : List TSigned × List TEntry) = Z141 x0 := by kernel_rfl
theorem Z141.ok : V.Valid Tryz.prog 43 Z141.con :=
  V.fo (V.tab_cons Z142.ok (V.tab_cons Z185.ok V.tab_nil)) Tryz.func43 (by kernel_rfl) (fun x y h => (show V.evBody Z141.E Z141.con Tryz.f43 x = _ from Z141.eq x).trans (V.cfl (by kernel_rfl) h))
noncomputable abbrev Z194.con : V.Con := ⟨(.cons (.sl V.eSigned) (.cons (.sl V.eEntry) .nil)), (.cons (.int .i64) .nil), fun (x : List TSigned × List TEntry) => Z194 x, [], [(true, 2)], [(false, 1)], [false], []⟩
noncomputable abbrev Z194.E : V.Env := V.mkE V.tys [(43, Z141.con), (67, Z142.con)] [] [] [] [] []
theorem Z194.eq (x0 : TZone) : V.evBody Z194.E Z194.con Tryz.f42 ((x0.1, x0.2) : List TSigned × List TEntry) = Z194 x0 := by kernel_rfl
theorem Z194.ok : V.Valid Tryz.prog 42 Z194.con :=
  V.fo (V.tab_cons Z141.ok (V.tab_cons Z142.ok V.tab_nil)) Tryz.func42 (by kernel_rfl) (fun x y h => (show V.evBody Z194.E Z194.con Tryz.f42 x = _ from Z194.eq x).trans (V.cfl (by kernel_rfl) h))
noncomputable abbrev Z51.con : V.Con := ⟨(.cons (.sl (.cons (.sl V.eSigned) (.cons (.sl V.eEntry) .nil))) (.cons (.int .i64) (.cons (.int .i64) .nil))), (.cons (.int .i64) .nil), fun (x : List TZone × Int × Int) => Z51 (x.1, x.2.1) x.2.2, [], [(true, 2), (false, 1)], [(false, 1)], [false], []⟩
noncomputable abbrev Z51.E : V.Env := V.mkE V.tys [(42, Z194.con)] [(4, [1, 2, 5], [])] [] [] [] []
noncomputable abbrev Z51.kt (x0 : TServer) (x1 : Int) : V.Kt Int := V.ktOf Z51.E Z51.con Tryz.f28 ((x0.1, x0.2, x1) : List TZone × Int × Int)
noncomputable abbrev Z51.s4 (x0 : TServer) (x1 : Int) (v4_1 : Int) : V.St := ⟨[(1, .v false [.val (.int .i64 x1)]), (2, .v false [.ptr 64000 0]), (5, .v false [.val (.int .i64 v4_1)])], [(64000, .box [.val (.sl (.cons (.sl V.eSigned) (.cons (.sl V.eEntry) .nil)) x0.1), .val (.int .i64 x0.2)])]⟩
theorem Z51.r4 (x0 : TServer) (x1 : Int) (R : V.St → Option Int) (v4_1 : Int) : V.loopF Z51.E Tryz.f28.ntmps [1, 0, 1, 0] [] (V.codeOf Tryz.f28) (Z51.kt x0 x1) R (Z51.s4 x0 x1 v4_1) = Z51.g4 x0 x1 (fun v4_1 => R (Z51.s4 x0 x1 v4_1)) v4_1 := by kernel_rfl
theorem Z51.e4 (x0 : TServer) (x1 : Int) : ∀ (n : Nat) (v4_1 : Int), V.loopN (V.loopF Z51.E Tryz.f28.ntmps [1, 0, 1, 0] [] (V.codeOf Tryz.f28) (Z51.kt x0 x1)) n (Z51.s4 x0 x1 v4_1) = Z51.l4 x0 x1 n v4_1 := by
  intro n
  induction n with
  | zero => intros; rw [V.loopN_z]; rfl
  | succ n ih =>
    intro v4_1
    rw [V.loopN_s, Z51.r4]
    simp only [ih]
    first | exact (Z51.u4 ..).symm | rfl
theorem Z51.v (x0 : TServer) (x1 : Int) : V.evBody Z51.E Z51.con Tryz.f28 ((x0.1, x0.2, x1) : List TZone × Int × Int) = Z51.b x0 x1 (fun v4_1 => V.loopN (V.loopF Z51.E Tryz.f28.ntmps [1, 0, 1, 0] [] (V.codeOf Tryz.f28) (Z51.kt x0 x1)) V.KK (Z51.s4 x0 x1 v4_1)) := by kernel_rfl
theorem Z51.eq (x0 : TServer) (x1 : Int) : V.evBody Z51.E Z51.con Tryz.f28 ((x0.1, x0.2, x1) : List TZone × Int × Int) = Z51 x0 x1 := by
  rw [Z51.v]
  simp only [Z51.e4]
  rfl
theorem Z51.ok : V.Valid Tryz.prog 28 Z51.con :=
  V.fo (V.tab_cons Z194.ok V.tab_nil) Tryz.func28 (by kernel_rfl) (fun x y h => (show V.evBody Z51.E Z51.con Tryz.f28 x = _ from Z51.eq (x.1, x.2.1) x.2.2).trans (V.cfl (by kernel_rfl) h))
noncomputable abbrev Z103.con : V.Con := ⟨V.A3, V.eSigned, fun (x : V.D3) => Z103 (V.p3_0 x), [], [(true, 17)], [(true, 17)], [false, false, false, false, false, false, false, false, true, false, true, false, false, true, false, false, true], []⟩
noncomputable abbrev Z103.E : V.Env := V.mkE V.tys [(96, Z94.con)] [] [(1, 6)] [] [] []
noncomputable abbrev Z103.kt (x0 : TSigned) : V.Kt TSigned := V.ktOf Z103.E Z103.con Tryz.f70 (V.fl3 x0)
noncomputable abbrev Z103.s (x0 : TSigned) : V.St := ⟨[(0, .v true (V.lsSigned x0))], []⟩
theorem Z103.v0 (x0 : TSigned) : V.evBody Z103.E Z103.con Tryz.f70 (V.fl3 x0) = V.evC Z103.E Tryz.f70.ntmps (V.codeOf Tryz.f70) (Z103.kt x0) (Z103.s x0) := by kernel_rfl
theorem Z103.v (x0 : TSigned) : V.evC Z103.E Tryz.f70.ntmps (V.codeOf Tryz.f70) (Z103.kt x0) (Z103.s x0) = Z103 x0 := by kernel_rfl
theorem Z103.eq (x0 : TSigned) : V.evBody Z103.E Z103.con Tryz.f70 (V.fl3 x0) = Z103 x0 := (Z103.v0 x0).trans (Z103.v x0)
theorem Z103.ok : V.Valid Tryz.prog 70 Z103.con :=
  V.fo (V.tab_cons Z94.ok V.tab_nil) Tryz.func70 (by kernel_rfl) (fun x y h => (show V.evBody Z103.E Z103.con Tryz.f70 x = _ from Z103.eq (V.p3_0 x)).trans (V.cfl (by kernel_rfl) h))
noncomputable abbrev Z79.con : V.Con := ⟨(.cons (.sl V.eSigned) .nil), (.cons (.sl V.eSigned) .nil), fun (x : List TSigned) => Z79 x, [], [(false, 1)], [(false, 1)], [true], []⟩
noncomputable abbrev Z79.E : V.Env := V.mkE V.tys [(70, Z103.con)] [(6, [0, 3, 4], [(64000038400192, V.eSigned, true)])] [] [] [] []
noncomputable abbrev Z79.kt (x0 : List TSigned) : V.Kt (List TSigned) := V.ktOf Z79.E Z79.con Tryz.f45 ((x0) : List TSigned)
noncomputable abbrev Z79.s6 (x0 : List TSigned) (v6_1 : Int) (v6_2 : List TSigned) : V.St := ⟨[(0, .v false [.val (.sl V.eSigned x0)]), (3, .v false [.ref 64000038400192]), (4, .v false [.val (.int .i64 v6_1)])], [(64000038400192, .row V.eSigned true v6_2)]⟩
theorem Z79.r6 (x0 : List TSigned) (R : V.St → Option (List TSigned)) (v6_1 : Int) (v6_2 : List TSigned) : V.loopF Z79.E Tryz.f45.ntmps [1, 1, 0, 1, 0] [] (V.codeOf Tryz.f45) (Z79.kt x0) R (Z79.s6 x0 v6_1 v6_2) = Z79.g6 x0 (fun v6_1 v6_2 => R (Z79.s6 x0 v6_1 v6_2)) v6_1 v6_2 := by kernel_rfl
theorem Z79.e6 (x0 : List TSigned) : ∀ (n : Nat) (v6_1 : Int) (v6_2 : List TSigned), V.loopN (V.loopF Z79.E Tryz.f45.ntmps [1, 1, 0, 1, 0] [] (V.codeOf Tryz.f45) (Z79.kt x0)) n (Z79.s6 x0 v6_1 v6_2) = Z79.l6 x0 n v6_1 v6_2 := by
  intro n
  induction n with
  | zero => intros; rw [V.loopN_z]; rfl
  | succ n ih =>
    intro v6_1 v6_2
    rw [V.loopN_s, Z79.r6]
    simp only [ih]
    first | exact (Z79.u6 ..).symm | rfl
theorem Z79.v (x0 : List TSigned) : V.evBody Z79.E Z79.con Tryz.f45 ((x0) : List TSigned) = Z79.b x0 (fun v6_1 v6_2 => V.loopN (V.loopF Z79.E Tryz.f45.ntmps [1, 1, 0, 1, 0] [] (V.codeOf Tryz.f45) (Z79.kt x0)) V.KK (Z79.s6 x0 v6_1 v6_2)) := by kernel_rfl
theorem Z79.eq (x0 : List TSigned) : V.evBody Z79.E Z79.con Tryz.f45 ((x0) : List TSigned) = Z79 x0 := by
  rw [Z79.v]
  simp only [Z79.e6]
  rfl
theorem Z79.ok : V.Valid Tryz.prog 45 Z79.con :=
  V.fo (V.tab_cons Z103.ok V.tab_nil) Tryz.func45 (by kernel_rfl) (fun x y h => (show V.evBody Z79.E Z79.con Tryz.f45 x = _ from Z79.eq x).trans (V.cfl (by kernel_rfl) h))
noncomputable abbrev Z21.con : V.Con := ⟨(.cons (.sl V.eEntry) (.cons .str .nil)), (.cons (.int .i64) .nil), fun (x : List TEntry × ByteArray) => Z21 x.1 x.2, [], [(false, 1), (false, 1)], [(false, 1)], [false], []⟩
noncomputable abbrev Z21.E : V.Env := V.mkE V.tys [] [(4, [0, 1, 5], [])] [] [] [] []
noncomputable abbrev Z21.kt (x0 : List TEntry) (x1 : ByteArray) : V.Kt Int := V.ktOf Z21.E Z21.con Tryz.f46 ((x0, x1) : List TEntry × ByteArray)
noncomputable abbrev Z21.s4 (x0 : List TEntry) (x1 : ByteArray) (v4_2 : Int) : V.St := ⟨[(0, .v false [.val (.sl V.eEntry x0)]), (1, .v false [.val (.str x1)]), (5, .v false [.val (.int .i64 v4_2)])], []⟩
theorem Z21.r4 (x0 : List TEntry) (x1 : ByteArray) (R : V.St → Option Int) (v4_2 : Int) : V.loopF Z21.E Tryz.f46.ntmps [1, 0, 1, 0] [] (V.codeOf Tryz.f46) (Z21.kt x0 x1) R (Z21.s4 x0 x1 v4_2) = Z21.g4 x0 x1 (fun v4_2 => R (Z21.s4 x0 x1 v4_2)) v4_2 := by kernel_rfl
theorem Z21.e4 (x0 : List TEntry) (x1 : ByteArray) : ∀ (n : Nat) (v4_2 : Int), V.loopN (V.loopF Z21.E Tryz.f46.ntmps [1, 0, 1, 0] [] (V.codeOf Tryz.f46) (Z21.kt x0 x1)) n (Z21.s4 x0 x1 v4_2) = Z21.l4 x0 x1 n v4_2 := by
  intro n
  induction n with
  | zero => intros; rw [V.loopN_z]; rfl
  | succ n ih =>
    intro v4_2
    rw [V.loopN_s, Z21.r4]
    simp only [ih]
    first | exact (Z21.u4 ..).symm | rfl
theorem Z21.v (x0 : List TEntry) (x1 : ByteArray) : V.evBody Z21.E Z21.con Tryz.f46 ((x0, x1) : List TEntry × ByteArray) = Z21.b x0 x1 (fun v4_2 => V.loopN (V.loopF Z21.E Tryz.f46.ntmps [1, 0, 1, 0] [] (V.codeOf Tryz.f46) (Z21.kt x0 x1)) V.KK (Z21.s4 x0 x1 v4_2)) := by kernel_rfl
theorem Z21.eq (x0 : List TEntry) (x1 : ByteArray) : V.evBody Z21.E Z21.con Tryz.f46 ((x0, x1) : List TEntry × ByteArray) = Z21 x0 x1 := by
  rw [Z21.v]
  simp only [Z21.e4]
  rfl
theorem Z21.ok : V.Valid Tryz.prog 46 Z21.con :=
  V.fo V.tab_nil Tryz.func46 (by kernel_rfl) (fun x y h => (show V.evBody Z21.E Z21.con Tryz.f46 x = _ from Z21.eq x.1 x.2).trans (V.cfl (by kernel_rfl) h))
noncomputable abbrev Z196.con : V.Con := ⟨(.cons (.sl (.cons .str .nil)) .nil), (.cons (.sl (.cons .str .nil)) .nil), fun (x : List ByteArray) => Z196 x, [], [(false, 1)], [(false, 1)], [true], []⟩
noncomputable abbrev Z196.E : V.Env := V.mkE V.tys [] [] [] [] [] []
theorem Z196.eq (x0 : List ByteArray) : V.evBody Z196.E Z196.con Tryz.f71 ((x0) : List ByteArray) = Z196 x0 := by kernel_rfl
theorem Z196.ok : V.Valid Tryz.prog 71 Z196.con :=
  V.fo V.tab_nil Tryz.func71 (by kernel_rfl) (fun x y h => (show V.evBody Z196.E Z196.con Tryz.f71 x = _ from Z196.eq x).trans (V.cfl (by kernel_rfl) h))
noncomputable abbrev Z131.con : V.Con := ⟨V.eEntry, V.eEntry, fun (x : ByteArray × Int × Int × List ByteArray) => Z131 x, [], [(true, 4)], [(true, 4)], [false, false, false, true], []⟩
noncomputable abbrev Z131.E : V.Env := V.mkE V.tys [(71, Z196.con)] [] [(1, 9)] [] [] []
theorem Z131.eq (x0 : TEntry) : V.evBody Z131.E Z131.con Tryz.f47 ((x0.1, x0.2.1, x0.2.2.1, x0.2.2.2) : ByteArray × Int × Int × List ByteArray) = Z131 x0 := by kernel_rfl
theorem Z131.ok : V.Valid Tryz.prog 47 Z131.con :=
  V.fo (V.tab_cons Z196.ok V.tab_nil) Tryz.func47 (by kernel_rfl) (fun x y h => (show V.evBody Z131.E Z131.con Tryz.f47 x = _ from Z131.eq x).trans (V.cfl (by kernel_rfl) h))
noncomputable abbrev Z7.con : V.Con := ⟨(.cons (.sl (.cons (.int .i64) .nil)) (.cons (.int .i64) .nil)), (.cons (.sl (.cons (.int .i64) .nil)) .nil), fun (x : List Int × Int) => Z7 x.1 x.2, [], [(false, 1), (false, 1)], [(false, 1)], [true], []⟩
noncomputable abbrev Z7.E : V.Env := V.mkE V.tys [(69, Z80.con), (98, Z39.con)] [(10, [1, 5, 6], [(6, (.cons (.int .i64) .nil), false), (64000064000320, (.cons (.int .i64) .nil), true)]), (19, [1, 5, 6], [])] [] [] [] []
noncomputable abbrev Z7.kt (x0 : List Int) (x1 : Int) : V.Kt (List Int) := V.ktOf Z7.E Z7.con Tryz.f72 ((x0, x1) : List Int × Int)
noncomputable abbrev Z7.s19 (v10_0 : Int) (v10_1 : List Int) (v19_2 : List Int) : V.St := ⟨[(1, .v false [.val (.int .i64 v10_0)]), (5, .v false [.ref 64000121600320]), (6, .v false [.val (.sl (.cons (.int .i64) .nil) v10_1)])], [(64000121600320, .row (.cons (.int .i64) .nil) true v19_2)]⟩
noncomputable abbrev Z7.s10 (v10_0 : Int) (v10_1 : List Int) (v10_2 : List Int) : V.St := ⟨[(1, .v false [.val (.int .i64 v10_0)]), (5, .v false [.ref 64000064000320]), (6, .v false [.val (.sl (.cons (.int .i64) .nil) v10_1)])], [(64000064000320, .row (.cons (.int .i64) .nil) true v10_2)]⟩
theorem Z7.r19 (x0 : List Int) (x1 : Int) (v10_0 : Int) (v10_1 : List Int) (R10 : V.St → Option (List Int)) (v19_2 : List Int) : V.joinF Z7.E Tryz.f72.ntmps [1, 1, 1, 1, 0, 0, 0, 1, 0, 1] [R10] (V.codeOf Tryz.f72) (Z7.kt x0 x1) (Z7.s19 v10_0 v10_1 v19_2) = Z7.g19 v10_0 v10_1 (fun v10_0 v10_1 v10_2 => R10 (Z7.s10 v10_0 v10_1 v10_2)) v19_2 := by kernel_rfl
theorem Z7.e19 (x0 : List Int) (x1 : Int) (v10_0 : Int) (v10_1 : List Int) (R10 : V.St → Option (List Int)) (v19_2 : List Int) : V.jn (V.joinF Z7.E Tryz.f72.ntmps [1, 1, 1, 1, 0, 0, 0, 1, 0, 1] [R10] (V.codeOf Tryz.f72) (Z7.kt x0 x1)) (Z7.s19 v10_0 v10_1 v19_2) = Z7.l19 v10_0 v10_1 (fun v10_0 v10_1 v10_2 => R10 (Z7.s10 v10_0 v10_1 v10_2)) v19_2 := by
  rw [V.jn_eq, Z7.r19]
  rfl
theorem Z7.r10 (x0 : List Int) (x1 : Int) (R : V.St → Option (List Int)) (v10_0 : Int) (v10_1 : List Int) (v10_2 : List Int) : V.loopF Z7.E Tryz.f72.ntmps [1, 1, 1, 1, 0, 0] [] (V.codeOf Tryz.f72) (Z7.kt x0 x1) R (Z7.s10 v10_0 v10_1 v10_2) = Z7.g10 (fun v10_0 v10_1 v10_2 => R (Z7.s10 v10_0 v10_1 v10_2)) (fun v19_2 => V.jn (V.joinF Z7.E Tryz.f72.ntmps [1, 1, 1, 1, 0, 0, 0, 1, 0, 1] [R] (V.codeOf Tryz.f72) (Z7.kt x0 x1)) (Z7.s19 v10_0 v10_1 v19_2)) v10_0 v10_1 v10_2 := by kernel_rfl
theorem Z7.e10 (x0 : List Int) (x1 : Int) : ∀ (n : Nat) (v10_0 : Int) (v10_1 : List Int) (v10_2 : List Int), V.loopN (V.loopF Z7.E Tryz.f72.ntmps [1, 1, 1, 1, 0, 0] [] (V.codeOf Tryz.f72) (Z7.kt x0 x1)) n (Z7.s10 v10_0 v10_1 v10_2) = Z7.l10 n v10_0 v10_1 v10_2 := by
  intro n
  induction n with
  | zero => intros; rw [V.loopN_z]; rfl
  | succ n ih =>
    intro v10_0 v10_1 v10_2
    rw [V.loopN_s, Z7.r10]
    simp only [Z7.e19, ih]
    first | exact (Z7.u10 ..).symm | rfl
theorem Z7.v (x0 : List Int) (x1 : Int) : V.evBody Z7.E Z7.con Tryz.f72 ((x0, x1) : List Int × Int) = Z7.b x0 x1 (fun v10_0 v10_1 v10_2 => V.loopN (V.loopF Z7.E Tryz.f72.ntmps [1, 1, 1, 1, 0, 0] [] (V.codeOf Tryz.f72) (Z7.kt x0 x1)) V.KK (Z7.s10 v10_0 v10_1 v10_2)) := by kernel_rfl
theorem Z7.eq (x0 : List Int) (x1 : Int) : V.evBody Z7.E Z7.con Tryz.f72 ((x0, x1) : List Int × Int) = Z7 x0 x1 := by
  rw [Z7.v]
  simp only [Z7.e10]
  rfl
theorem Z7.ok : V.Valid Tryz.prog 72 Z7.con :=
  V.fo (V.tab_cons Z80.ok (V.tab_cons Z39.ok V.tab_nil)) Tryz.func72 (by kernel_rfl) (fun x y h => (show V.evBody Z7.E Z7.con Tryz.f72 x = _ from Z7.eq x.1 x.2).trans (V.cfl (by kernel_rfl) h))
noncomputable abbrev Z136.con : V.Con := ⟨(.cons (.sl V.eEntry) (.cons .str .nil)), (.cons (.int .i64) (.cons (.sl (.cons (.int .i64) .nil)) (.cons .bool .nil))), fun (x : List TEntry × ByteArray) => Z136 x.1 x.2, [], [(false, 1), (false, 1)], [(true, 2), (false, 1)], [false, true, false], []⟩
noncomputable abbrev Z136.E : V.Env := V.mkE V.tys [(46, Z21.con), (72, Z7.con), (73, Z50.con)] [] [] [] [] []
theorem Z136.eq (x0 : List TEntry) (x1 : ByteArray) : V.evBody Z136.E Z136.con Tryz.f48 ((x0, x1) : List TEntry × ByteArray) = Z136 x0 x1 := by kernel_rfl
theorem Z136.ok : V.Valid Tryz.prog 48 Z136.con :=
  V.fo (V.tab_cons Z21.ok (V.tab_cons Z7.ok (V.tab_cons Z50.ok V.tab_nil))) Tryz.func48 (by kernel_rfl) (fun x y h => (show V.evBody Z136.E Z136.con Tryz.f48 x = _ from Z136.eq x.1 x.2).trans (V.cfl (by kernel_rfl) h))
noncomputable abbrev Z78.con : V.Con := ⟨(.cons (.sl V.eEntry) (.cons .str .nil)), (.cons (.int .i64) .nil), fun (x : List TEntry × ByteArray) => Z78 x.1 x.2, [], [(false, 1), (false, 1)], [(false, 1)], [false], []⟩
noncomputable abbrev Z78.E : V.Env := V.mkE V.tys [(101, Z135.con)] [(6, [0, 1, 5, 6], [])] [] [] [] []
noncomputable abbrev Z78.kt (x0 : List TEntry) (x1 : ByteArray) : V.Kt Int := V.ktOf Z78.E Z78.con Tryz.f75 ((x0, x1) : List TEntry × ByteArray)
noncomputable abbrev Z78.s6 (x0 : List TEntry) (x1 : ByteArray) (v6_2 : Int) (v6_3 : Int) : V.St := ⟨[(0, .v false [.val (.sl V.eEntry x0)]), (1, .v false [.val (.str x1)]), (5, .v false [.val (.int .i64 v6_2)]), (6, .v false [.val (.int .i64 v6_3)])], []⟩
theorem Z78.r6 (x0 : List TEntry) (x1 : ByteArray) (R : V.St → Option Int) (v6_2 : Int) (v6_3 : Int) : V.loopF Z78.E Tryz.f75.ntmps [1, 1, 0, 1, 0] [] (V.codeOf Tryz.f75) (Z78.kt x0 x1) R (Z78.s6 x0 x1 v6_2 v6_3) = Z78.g6 x0 x1 (fun v6_2 v6_3 => R (Z78.s6 x0 x1 v6_2 v6_3)) v6_2 v6_3 := by kernel_rfl
theorem Z78.e6 (x0 : List TEntry) (x1 : ByteArray) : ∀ (n : Nat) (v6_2 : Int) (v6_3 : Int), V.loopN (V.loopF Z78.E Tryz.f75.ntmps [1, 1, 0, 1, 0] [] (V.codeOf Tryz.f75) (Z78.kt x0 x1)) n (Z78.s6 x0 x1 v6_2 v6_3) = Z78.l6 x0 x1 n v6_2 v6_3 := by
  intro n
  induction n with
  | zero => intros; rw [V.loopN_z]; rfl
  | succ n ih =>
    intro v6_2 v6_3
    rw [V.loopN_s, Z78.r6]
    simp only [ih]
    first | exact (Z78.u6 ..).symm | rfl
theorem Z78.v (x0 : List TEntry) (x1 : ByteArray) : V.evBody Z78.E Z78.con Tryz.f75 ((x0, x1) : List TEntry × ByteArray) = Z78.b x0 x1 (fun v6_2 v6_3 => V.loopN (V.loopF Z78.E Tryz.f75.ntmps [1, 1, 0, 1, 0] [] (V.codeOf Tryz.f75) (Z78.kt x0 x1)) V.KK (Z78.s6 x0 x1 v6_2 v6_3)) := by kernel_rfl
theorem Z78.eq (x0 : List TEntry) (x1 : ByteArray) : V.evBody Z78.E Z78.con Tryz.f75 ((x0, x1) : List TEntry × ByteArray) = Z78 x0 x1 := by
  rw [Z78.v]
  simp only [Z78.e6]
  rfl
theorem Z78.ok : V.Valid Tryz.prog 75 Z78.con :=
  V.fo (V.tab_cons Z135.ok V.tab_nil) Tryz.func75 (by kernel_rfl) (fun x y h => (show V.evBody Z78.E Z78.con Tryz.f75 x = _ from Z78.eq x.1 x.2).trans (V.cfl (by kernel_rfl) h))
noncomputable abbrev Z14.con : V.Con := ⟨(.cons (.sl V.eEntry) (.cons .str .nil)), V.eRGapBool, fun (x : List TEntry × ByteArray) => Z14 x.1 x.2, [], [(false, 1), (false, 1)], [(true, 13), (false, 1)], [false, false, false, false, true, false, false, false, true, false, true, false, true, false], []⟩
noncomputable abbrev Z14.E : V.Env := V.mkE V.tys [(44, Z6.con), (46, Z21.con), (47, Z131.con), (48, Z136.con), (74, Z28.con), (75, Z78.con)] [(5, [0, 1, 4, 21], []), (17, [0, 4, 6, 7], [(64000000000020488196, (.cons .str .nil), true), (64000000000020488202, (.cons (.int .i64) .nil), true)])] [] [] [] []
noncomputable abbrev Z14.kt (x0 : List TEntry) (x1 : ByteArray) : V.Kt TRGapBool := V.ktOf Z14.E Z14.con Tryz.f49 ((x0, x1) : List TEntry × ByteArray)
noncomputable abbrev Z14.s17 (x0 : List TEntry) (y2 : Int) (v17_12 : ByteArray) (v17_13 : Int) (v17_14 : Int) (v17_18 : Int) (v17_20 : List ByteArray) (v17_21 : List Int) : V.St := ⟨[(0, .v false [.val (.sl V.eEntry x0)]), (4, .v false [.ptr 64000 0]), (6, .v false [.val (.int .i64 y2)]), (7, .v false [.ptr 320128 0])], [(64000, .box [.val (.int .i64 (0 : Int)), .val (.str (⟨#[]⟩ : ByteArray)), .val (.int .i64 (0 : Int)), .val (.int .i64 (0 : Int)), .nil0, .val (.str (⟨#[]⟩ : ByteArray)), .val (.int .i64 (0 : Int)), .val (.int .i64 (0 : Int)), .nil0, .val (.int .i64 (0 : Int)), .nil0, .val (.int .i64 (0 : Int)), .nil0]), (320128, .box [.val (.int .i64 y2), .val (.str v17_12), .val (.int .i64 v17_13), .val (.int .i64 v17_14), .ref 64000000000020488196, .val (.str (⟨#[]⟩ : ByteArray)), .val (.int .i64 (0 : Int)), .val (.int .i64 (0 : Int)), .nil0, .val (.int .i64 v17_18), .ref 64000000000020488202, .val (.int .i64 (0 : Int)), .nil0]), (64000000000020488196, .row (.cons .str .nil) true v17_20), (64000000000020488202, .row (.cons (.int .i64) .nil) true v17_21)]⟩
noncomputable abbrev Z14.s5 (x0 : List TEntry) (x1 : ByteArray) (v5_2 : Bool) : V.St := ⟨[(0, .v false [.val (.sl V.eEntry x0)]), (1, .v false [.val (.str x1)]), (4, .v false [.ptr 64000 0]), (21, .v false [.val (.bool v5_2)])], [(64000, .box [.val (.int .i64 (0 : Int)), .val (.str (⟨#[]⟩ : ByteArray)), .val (.int .i64 (0 : Int)), .val (.int .i64 (0 : Int)), .nil0, .val (.str (⟨#[]⟩ : ByteArray)), .val (.int .i64 (0 : Int)), .val (.int .i64 (0 : Int)), .nil0, .val (.int .i64 (0 : Int)), .nil0, .val (.int .i64 (0 : Int)), .nil0])]⟩
theorem Z14.r17 (x0 : List TEntry) (x1 : ByteArray) (y2 : Int) (v17_12 : ByteArray) (v17_13 : Int) (v17_14 : Int) (v17_18 : Int) (v17_20 : List ByteArray) (v17_21 : List Int) : V.joinF Z14.E Tryz.f49.ntmps [1, 1, 1, 1] [] (V.codeOf Tryz.f49) (Z14.kt x0 x1) (Z14.s17 x0 y2 v17_12 v17_13 v17_14 v17_18 v17_20 v17_21) = Z14.g17 x0 y2 v17_12 v17_13 v17_14 v17_18 v17_20 v17_21 := by kernel_rfl
theorem Z14.e17 (x0 : List TEntry) (x1 : ByteArray) (y2 : Int) (v17_12 : ByteArray) (v17_13 : Int) (v17_14 : Int) (v17_18 : Int) (v17_20 : List ByteArray) (v17_21 : List Int) : V.jn (V.joinF Z14.E Tryz.f49.ntmps [1, 1, 1, 1] [] (V.codeOf Tryz.f49) (Z14.kt x0 x1)) (Z14.s17 x0 y2 v17_12 v17_13 v17_14 v17_18 v17_20 v17_21) = Z14.l17 x0 y2 v17_12 v17_13 v17_14 v17_18 v17_20 v17_21 := by
  rw [V.jn_eq, Z14.r17]
  rfl
theorem Z14.r5 (x0 : List TEntry) (x1 : ByteArray) (v5_2 : Bool) : V.joinF Z14.E Tryz.f49.ntmps [1, 0] [] (V.codeOf Tryz.f49) (Z14.kt x0 x1) (Z14.s5 x0 x1 v5_2) = Z14.g5 x0 x1 (fun y2 v17_12 v17_13 v17_14 v17_18 v17_20 v17_21 => V.jn (V.joinF Z14.E Tryz.f49.ntmps [1, 1, 1, 1] [] (V.codeOf Tryz.f49) (Z14.kt x0 x1)) (Z14.s17 x0 y2 v17_12 v17_13 v17_14 v17_18 v17_20 v17_21)) v5_2 := by kernel_rfl
theorem Z14.e5 (x0 : List TEntry) (x1 : ByteArray) (v5_2 : Bool) : V.jn (V.joinF Z14.E Tryz.f49.ntmps [1, 0] [] (V.codeOf Tryz.f49) (Z14.kt x0 x1)) (Z14.s5 x0 x1 v5_2) = Z14.l5 x0 x1 v5_2 := by
  rw [V.jn_eq, Z14.r5]
  simp only [Z14.e17]
  rfl
theorem Z14.v (x0 : List TEntry) (x1 : ByteArray) : V.evBody Z14.E Z14.con Tryz.f49 ((x0, x1) : List TEntry × ByteArray) = Z14.b x0 x1 (fun v5_2 => V.jn (V.joinF Z14.E Tryz.f49.ntmps [1, 0] [] (V.codeOf Tryz.f49) (Z14.kt x0 x1)) (Z14.s5 x0 x1 v5_2)) := by kernel_rfl
theorem Z14.eq (x0 : List TEntry) (x1 : ByteArray) : V.evBody Z14.E Z14.con Tryz.f49 ((x0, x1) : List TEntry × ByteArray) = Z14 x0 x1 := by
  rw [Z14.v]
  simp only [Z14.e5]
  rfl
theorem Z14.ok : V.Valid Tryz.prog 49 Z14.con :=
  V.fo (V.tab_cons Z6.ok (V.tab_cons Z21.ok (V.tab_cons Z131.ok (V.tab_cons Z136.ok (V.tab_cons Z28.ok (V.tab_cons Z78.ok V.tab_nil)))))) Tryz.func49 (by kernel_rfl) (fun x y h => (show V.evBody Z14.E Z14.con Tryz.f49 x = _ from Z14.eq x.1 x.2).trans (V.cfl (by kernel_rfl) h))
noncomputable abbrev Z89.con : V.Con := ⟨(.cons (.sl V.eSigned) (.cons (.sl V.eEntry) (.cons .str .nil))), V.eAnswer, fun (x : List TSigned × List TEntry × ByteArray) => Z89 (x.1, x.2.1) x.2.2, [], [(true, 2), (false, 1)], [(true, 21)], [true, false, false, false, false, true, false, true, false, false, false, false, true, false, false, false, true, false, true, false, true], []⟩
noncomputable abbrev Z89.E : V.Env := V.mkE V.tys [(43, Z141.con), (44, Z6.con), (45, Z79.con), (46, Z21.con), (47, Z131.con), (48, Z136.con), (49, Z14.con)] [(7, [1, 2, 4], [])] [] [] [] []
noncomputable abbrev Z89.kt (x0 : TZone) (x1 : ByteArray) : V.Kt TAnswer := V.ktOf Z89.E Z89.con Tryz.f29 ((x0.1, x0.2, x1) : List TSigned × List TEntry × ByteArray)
noncomputable abbrev Z89.s7 (x0 : TZone) (x1 : ByteArray) : V.St := ⟨[(1, .v false [.val (.str x1)]), (2, .v false [.ptr 64000 0]), (4, .v false [.ptr 64064 0])], [(64000, .box [.val (.sl V.eSigned x0.1), .val (.sl V.eEntry x0.2)]), (64064, .box [.nil0, .val (.bool false), .val (.str (⟨#[]⟩ : ByteArray)), .val (.int .i64 (0 : Int)), .val (.int .i64 (0 : Int)), .nil0, .val (.int .i64 (0 : Int)), .nil0, .val (.int .i64 (0 : Int)), .val (.str (⟨#[]⟩ : ByteArray)), .val (.int .i64 (0 : Int)), .val (.int .i64 (0 : Int)), .nil0, .val (.str (⟨#[]⟩ : ByteArray)), .val (.int .i64 (0 : Int)), .val (.int .i64 (0 : Int)), .nil0, .val (.int .i64 (0 : Int)), .nil0, .val (.int .i64 (0 : Int)), .nil0])]⟩
theorem Z89.r7 (x0 : TZone) (x1 : ByteArray) : V.joinF Z89.E Tryz.f29.ntmps [1] [] (V.codeOf Tryz.f29) (Z89.kt x0 x1) (Z89.s7 x0 x1) = Z89.g7 x0 x1 := by kernel_rfl
theorem Z89.e7 (x0 : TZone) (x1 : ByteArray) : V.jn (V.joinF Z89.E Tryz.f29.ntmps [1] [] (V.codeOf Tryz.f29) (Z89.kt x0 x1)) (Z89.s7 x0 x1) = Z89.l7 x0 x1 := by
  rw [V.jn_eq, Z89.r7]
  rfl
theorem Z89.v (x0 : TZone) (x1 : ByteArray) : V.evBody Z89.E Z89.con Tryz.f29 ((x0.1, x0.2, x1) : List TSigned × List TEntry × ByteArray) = Z89.b x0 x1 (V.jn (V.joinF Z89.E Tryz.f29.ntmps [1] [] (V.codeOf Tryz.f29) (Z89.kt x0 x1)) (Z89.s7 x0 x1)) := by kernel_rfl
theorem Z89.eq (x0 : TZone) (x1 : ByteArray) : V.evBody Z89.E Z89.con Tryz.f29 ((x0.1, x0.2, x1) : List TSigned × List TEntry × ByteArray) = Z89 x0 x1 := by
  rw [Z89.v]
  simp only [Z89.e7]
  rfl
theorem Z89.ok : V.Valid Tryz.prog 29 Z89.con :=
  V.fo (V.tab_cons Z141.ok (V.tab_cons Z6.ok (V.tab_cons Z79.ok (V.tab_cons Z21.ok (V.tab_cons Z131.ok (V.tab_cons Z136.ok (V.tab_cons Z14.ok V.tab_nil))))))) Tryz.func29 (by kernel_rfl) (fun x y h => (show V.evBody Z89.E Z89.con Tryz.f29 x = _ from Z89.eq (x.1, x.2.1) x.2.2).trans (V.cfl (by kernel_rfl) h))
noncomputable abbrev Z87.con : V.Con := ⟨(.cons (.sl (.cons (.sl V.eSigned) (.cons (.sl V.eEntry) .nil))) (.cons (.int .i64) (.cons (.int .i64) (.cons .str .nil)))), V.eAnswer, fun (x : List TZone × Int × Int × ByteArray) => Z87 (x.1, x.2.1) x.2.2.1 x.2.2.2, [], [(true, 2), (false, 1), (false, 1)], [(true, 21)], [true, false, false, false, false, true, false, true, false, false, false, false, true, false, false, false, true, false, true, false, true], []⟩
noncomputable abbrev Z87.E : V.Env := V.mkE V.tys [(28, Z51.con), (29, Z89.con)] [(9, [2, 3, 6, 7], [])] [] [] [] []
noncomputable abbrev Z87.kt (x0 : TServer) (x1 : Int) (x2 : ByteArray) : V.Kt TAnswer := V.ktOf Z87.E Z87.con Tryz.f14 ((x0.1, x0.2, x1, x2) : List TZone × Int × Int × ByteArray)
noncomputable abbrev Z87.s9 (x0 : TServer) (x2 : ByteArray) (y1 : Int) : V.St := ⟨[(2, .v false [.val (.str x2)]), (3, .v false [.ptr 64000 0]), (6, .v false [.ptr 64064 0]), (7, .v false [.val (.int .i64 y1)])], [(64000, .box [.val (.sl (.cons (.sl V.eSigned) (.cons (.sl V.eEntry) .nil)) x0.1), .val (.int .i64 x0.2)]), (64064, .box [.nil0, .val (.bool false), .val (.str (⟨#[]⟩ : ByteArray)), .val (.int .i64 (0 : Int)), .val (.int .i64 (0 : Int)), .nil0, .val (.int .i64 (0 : Int)), .nil0, .val (.int .i64 (0 : Int)), .val (.str (⟨#[]⟩ : ByteArray)), .val (.int .i64 (0 : Int)), .val (.int .i64 (0 : Int)), .nil0, .val (.str (⟨#[]⟩ : ByteArray)), .val (.int .i64 (0 : Int)), .val (.int .i64 (0 : Int)), .nil0, .val (.int .i64 (0 : Int)), .nil0, .val (.int .i64 (0 : Int)), .nil0])]⟩
theorem Z87.r9 (x0 : TServer) (x1 : Int) (x2 : ByteArray) (y1 : Int) : V.joinF Z87.E Tryz.f14.ntmps [1, 1] [] (V.codeOf Tryz.f14) (Z87.kt x0 x1 x2) (Z87.s9 x0 x2 y1) = Z87.g9 x0 x2 y1 := by kernel_rfl
theorem Z87.e9 (x0 : TServer) (x1 : Int) (x2 : ByteArray) (y1 : Int) : V.jn (V.joinF Z87.E Tryz.f14.ntmps [1, 1] [] (V.codeOf Tryz.f14) (Z87.kt x0 x1 x2)) (Z87.s9 x0 x2 y1) = Z87.l9 x0 x2 y1 := by
  rw [V.jn_eq, Z87.r9]
  rfl
theorem Z87.v (x0 : TServer) (x1 : Int) (x2 : ByteArray) : V.evBody Z87.E Z87.con Tryz.f14 ((x0.1, x0.2, x1, x2) : List TZone × Int × Int × ByteArray) = Z87.b x0 x1 x2 (fun y1 => V.jn (V.joinF Z87.E Tryz.f14.ntmps [1, 1] [] (V.codeOf Tryz.f14) (Z87.kt x0 x1 x2)) (Z87.s9 x0 x2 y1)) := by kernel_rfl
theorem Z87.eq (x0 : TServer) (x1 : Int) (x2 : ByteArray) : V.evBody Z87.E Z87.con Tryz.f14 ((x0.1, x0.2, x1, x2) : List TZone × Int × Int × ByteArray) = Z87 x0 x1 x2 := by
  rw [Z87.v]
  simp only [Z87.e9]
  rfl
theorem Z87.ok : V.Valid Tryz.prog 14 Z87.con :=
  V.fo (V.tab_cons Z51.ok (V.tab_cons Z89.ok V.tab_nil)) Tryz.func14 (by kernel_rfl) (fun x y h => (show V.evBody Z87.E Z87.con Tryz.f14 x = _ from Z87.eq (x.1, x.2.1) x.2.2.1 x.2.2.2).trans (V.cfl (by kernel_rfl) h))
noncomputable abbrev Z10.con : V.Con := ⟨(.cons (.sl (.cons (.sl (.cons (.sl V.eSigned) (.cons (.sl V.eEntry) .nil))) (.cons (.int .i64) .nil))) (.cons (.int .i64) (.cons .str .nil))), (.cons (.sl V.eAnswer) .nil), fun (x : List TServer × Int × ByteArray) => Z10 x.1 x.2.1 x.2.2, [], [(false, 1), (false, 1), (false, 1)], [(false, 1)], [true], []⟩
noncomputable abbrev Z10.E : V.Env := V.mkE V.tys [(14, Z87.con)] [(6, [0, 1, 2, 7, 8], [(64000038400448, V.eAnswer, true)]), (11, [0, 1, 2, 7, 8], [])] [] [] [] []
noncomputable abbrev Z10.kt (x0 : List TServer) (x1 : Int) (x2 : ByteArray) : V.Kt (List TAnswer) := V.ktOf Z10.E Z10.con Tryz.f5 ((x0, x1, x2) : List TServer × Int × ByteArray)
noncomputable abbrev Z10.s11 (x0 : List TServer) (x1 : Int) (x2 : ByteArray) (v6_3 : Int) (v6_4 : List TAnswer) : V.St := ⟨[(0, .v false [.val (.sl (.cons (.sl (.cons (.sl V.eSigned) (.cons (.sl V.eEntry) .nil))) (.cons (.int .i64) .nil)) x0)]), (1, .v false [.val (.int .i64 x1)]), (2, .v false [.val (.str x2)]), (7, .v false [.ref 64000070400448]), (8, .v false [.val (.int .i64 v6_3)])], [(64000070400448, .row V.eAnswer true v6_4)]⟩
noncomputable abbrev Z10.s6 (x0 : List TServer) (x1 : Int) (x2 : ByteArray) (v6_3 : Int) (v6_4 : List TAnswer) : V.St := ⟨[(0, .v false [.val (.sl (.cons (.sl (.cons (.sl V.eSigned) (.cons (.sl V.eEntry) .nil))) (.cons (.int .i64) .nil)) x0)]), (1, .v false [.val (.int .i64 x1)]), (2, .v false [.val (.str x2)]), (7, .v false [.ref 64000038400448]), (8, .v false [.val (.int .i64 v6_3)])], [(64000038400448, .row V.eAnswer true v6_4)]⟩
theorem Z10.r11 (x0 : List TServer) (x1 : Int) (x2 : ByteArray) (v6_3 : Int) (v6_4 : List TAnswer) (R6 : V.St → Option (List TAnswer)) : V.joinF Z10.E Tryz.f5.ntmps [1, 1, 0, 1, 0, 0] [R6] (V.codeOf Tryz.f5) (Z10.kt x0 x1 x2) (Z10.s11 x0 x1 x2 v6_3 v6_4) = Z10.g11 x0 x1 x2 v6_3 v6_4 (fun v6_3 v6_4 => R6 (Z10.s6 x0 x1 x2 v6_3 v6_4)) := by kernel_rfl
theorem Z10.e11 (x0 : List TServer) (x1 : Int) (x2 : ByteArray) (v6_3 : Int) (v6_4 : List TAnswer) (R6 : V.St → Option (List TAnswer)) : V.jn (V.joinF Z10.E Tryz.f5.ntmps [1, 1, 0, 1, 0, 0] [R6] (V.codeOf Tryz.f5) (Z10.kt x0 x1 x2)) (Z10.s11 x0 x1 x2 v6_3 v6_4) = Z10.l11 x0 x1 x2 v6_3 v6_4 (fun v6_3 v6_4 => R6 (Z10.s6 x0 x1 x2 v6_3 v6_4)) := by
  rw [V.jn_eq, Z10.r11]
  rfl
theorem Z10.r6 (x0 : List TServer) (x1 : Int) (x2 : ByteArray) (R : V.St → Option (List TAnswer)) (v6_3 : Int) (v6_4 : List TAnswer) : V.loopF Z10.E Tryz.f5.ntmps [1, 1, 0, 1, 0] [] (V.codeOf Tryz.f5) (Z10.kt x0 x1 x2) R (Z10.s6 x0 x1 x2 v6_3 v6_4) = Z10.g6 x0 x1 x2 (fun v6_3 v6_4 => R (Z10.s6 x0 x1 x2 v6_3 v6_4)) (V.jn (V.joinF Z10.E Tryz.f5.ntmps [1, 1, 0, 1, 0, 0] [R] (V.codeOf Tryz.f5) (Z10.kt x0 x1 x2)) (Z10.s11 x0 x1 x2 v6_3 v6_4)) v6_3 v6_4 := by kernel_rfl
theorem Z10.e6 (x0 : List TServer) (x1 : Int) (x2 : ByteArray) : ∀ (n : Nat) (v6_3 : Int) (v6_4 : List TAnswer), V.loopN (V.loopF Z10.E Tryz.f5.ntmps [1, 1, 0, 1, 0] [] (V.codeOf Tryz.f5) (Z10.kt x0 x1 x2)) n (Z10.s6 x0 x1 x2 v6_3 v6_4) = Z10.l6 x0 x1 x2 n v6_3 v6_4 := by
  intro n
  induction n with
  | zero => intros; rw [V.loopN_z]; rfl
  | succ n ih =>
    intro v6_3 v6_4
    rw [V.loopN_s, Z10.r6]
    simp only [Z10.e11, ih]
    first | exact (Z10.u6 ..).symm | rfl
theorem Z10.v (x0 : List TServer) (x1 : Int) (x2 : ByteArray) : V.evBody Z10.E Z10.con Tryz.f5 ((x0, x1, x2) : List TServer × Int × ByteArray) = Z10.b x0 x1 x2 (fun v6_3 v6_4 => V.loopN (V.loopF Z10.E Tryz.f5.ntmps [1, 1, 0, 1, 0] [] (V.codeOf Tryz.f5) (Z10.kt x0 x1 x2)) V.KK (Z10.s6 x0 x1 x2 v6_3 v6_4)) := by kernel_rfl
theorem Z10.eq (x0 : List TServer) (x1 : Int) (x2 : ByteArray) : V.evBody Z10.E Z10.con Tryz.f5 ((x0, x1, x2) : List TServer × Int × ByteArray) = Z10 x0 x1 x2 := by
  rw [Z10.v]
  simp only [Z10.e6]
  rfl
theorem Z10.ok : V.Valid Tryz.prog 5 Z10.con :=
  V.fo (V.tab_cons Z87.ok V.tab_nil) Tryz.func5 (by kernel_rfl) (fun x y h => (show V.evBody Z10.E Z10.con Tryz.f5 x = _ from Z10.eq x.1 x.2.1 x.2.2).trans (V.cfl (by kernel_rfl) h))
noncomputable abbrev Z84.con : V.Con := ⟨(.cons (.int .i64) (.cons (.int .i64) (.cons (.int .i64) .nil))), (.cons .bool .nil), fun (x : Int × Int × Int) => Z84 x.1 x.2.1 x.2.2, [], [(false, 1), (false, 1), (false, 1)], [(false, 1)], [false], []⟩
noncomputable abbrev Z84.E : V.Env := V.mkE V.tys [] [] [] [] [] []
theorem Z84.eq (x0 : Int) (x1 : Int) (x2 : Int) : V.evBody Z84.E Z84.con Tryz.f81 ((x0, x1, x2) : Int × Int × Int) = Z84 x0 x1 x2 := by kernel_rfl
theorem Z84.ok : V.Valid Tryz.prog 81 Z84.con :=
  V.fo V.tab_nil Tryz.func81 (by kernel_rfl) (fun x y h => (show V.evBody Z84.E Z84.con Tryz.f81 x = _ from Z84.eq x.1 x.2.1 x.2.2).trans (V.cfl (by kernel_rfl) h))
noncomputable abbrev Z124.con : V.Con := ⟨(.cons (.int .i64) .nil), (.cons .bool .nil), fun (x : Int) => Z124 x, [], [(false, 1)], [(false, 1)], [false], []⟩
noncomputable abbrev Z124.E : V.Env := V.mkE V.tys [(81, Z84.con)] [] [] [] [] []
theorem Z124.eq (x0 : Int) : V.evBody Z124.E Z124.con Tryz.f136 ((x0) : Int) = Z124 x0 := by kernel_rfl
theorem Z124.ok : V.Valid Tryz.prog 136 Z124.con :=
  V.fo (V.tab_cons Z84.ok V.tab_nil) Tryz.func136 (by kernel_rfl) (fun x y h => (show V.evBody Z124.E Z124.con Tryz.f136 x = _ from Z124.eq x).trans (V.cfl (by kernel_rfl) h))
noncomputable abbrev Z118.con : V.Con := ⟨V.A2, (.cons .bool .nil), fun (x : V.D2) => Z118 (V.p2_0 x), [], [(true, 16)], [(false, 1)], [false], []⟩
noncomputable abbrev Z118.E : V.Env := V.mkE V.tys [] [] [] [] [] []
noncomputable abbrev Z118.kt (x0 : THead) : V.Kt Bool := V.ktOf Z118.E Z118.con Tryz.f165 (V.fl2 x0)
noncomputable abbrev Z118.s (x0 : THead) : V.St := ⟨[(0, .v true (V.lsHead x0))], []⟩
theorem Z118.v0 (x0 : THead) : V.evBody Z118.E Z118.con Tryz.f165 (V.fl2 x0) = V.evC Z118.E Tryz.f165.ntmps (V.codeOf Tryz.f165) (Z118.kt x0) (Z118.s x0) := by kernel_rfl
theorem Z118.v (x0 : THead) : V.evC Z118.E Tryz.f165.ntmps (V.codeOf Tryz.f165) (Z118.kt x0) (Z118.s x0) = Z118 x0 := by kernel_rfl
theorem Z118.eq (x0 : THead) : V.evBody Z118.E Z118.con Tryz.f165 (V.fl2 x0) = Z118 x0 := (Z118.v0 x0).trans (Z118.v x0)
theorem Z118.ok : V.Valid Tryz.prog 165 Z118.con :=
  V.fo V.tab_nil Tryz.func165 (by kernel_rfl) (fun x y h => (show V.evBody Z118.E Z118.con Tryz.f165 x = _ from Z118.eq (V.p2_0 x)).trans (V.cfl (by kernel_rfl) h))
noncomputable abbrev Z43.con : V.Con := ⟨(.cons (.sl (.cons (.int .i64) .nil)) .nil), (.cons .bool .nil), fun (x : List Int) => Z43 x, [], [(false, 1)], [(false, 1)], [false], []⟩
noncomputable abbrev Z43.E : V.Env := V.mkE V.tys [] [(4, [0, 5, 6], [])] [(4, 12)] [] [] []
noncomputable abbrev Z43.kt (x0 : List Int) : V.Kt Bool := V.ktOf Z43.E Z43.con Tryz.f188 ((x0) : List Int)
noncomputable abbrev Z43.s4 (x0 : List Int) (v4_1 : Int) (v4_2 : Int) : V.St := ⟨[(0, .v false [.val (.sl (.cons (.int .i64) .nil) x0)]), (5, .v false [.val (.int .i64 v4_1)]), (6, .v false [.val (.int .i64 v4_2)])], []⟩
theorem Z43.r4 (x0 : List Int) (R : V.St → Option Bool) (v4_1 : Int) (v4_2 : Int) : V.loopF Z43.E Tryz.f188.ntmps [1, 0, 1, 0] [] (V.codeOf Tryz.f188) (Z43.kt x0) R (Z43.s4 x0 v4_1 v4_2) = Z43.g4 x0 (fun v4_1 v4_2 => R (Z43.s4 x0 v4_1 v4_2)) v4_1 v4_2 := by kernel_rfl
theorem Z43.e4 (x0 : List Int) : ∀ (n : Nat) (v4_1 : Int) (v4_2 : Int), V.loopN (V.loopF Z43.E Tryz.f188.ntmps [1, 0, 1, 0] [] (V.codeOf Tryz.f188) (Z43.kt x0)) n (Z43.s4 x0 v4_1 v4_2) = Z43.l4 x0 n v4_1 v4_2 := by
  intro n
  induction n with
  | zero => intros; rw [V.loopN_z]; rfl
  | succ n ih =>
    intro v4_1 v4_2
    rw [V.loopN_s, Z43.r4]
    simp only [ih]
    first | exact (Z43.u4 ..).symm | rfl
theorem Z43.v (x0 : List Int) : V.evBody Z43.E Z43.con Tryz.f188 ((x0) : List Int) = Z43.b x0 (fun v4_1 v4_2 => V.loopN (V.loopF Z43.E Tryz.f188.ntmps [1, 0, 1, 0] [] (V.codeOf Tryz.f188) (Z43.kt x0)) V.KK (Z43.s4 x0 v4_1 v4_2)) := by kernel_rfl
theorem Z43.eq (x0 : List Int) : V.evBody Z43.E Z43.con Tryz.f188 ((x0) : List Int) = Z43 x0 := by
  rw [Z43.v]
  simp only [Z43.e4]
  rfl
theorem Z43.ok : V.Valid Tryz.prog 188 Z43.con :=
  V.fo V.tab_nil Tryz.func188 (by kernel_rfl) (fun x y h => (show V.evBody Z43.E Z43.con Tryz.f188 x = _ from Z43.eq x).trans (V.cfl (by kernel_rfl) h))
noncomputable abbrev Z133.con : V.Con := ⟨(.cons (.int .i64) .nil), (.cons .bool .nil), fun (x : Int) => Z133 x, [], [(false, 1)], [(false, 1)], [false], []⟩
noncomputable abbrev Z133.E : V.Env := V.mkE V.tys [(81, Z84.con)] [] [] [] [] []
theorem Z133.eq (x0 : Int) : V.evBody Z133.E Z133.con Tryz.f189 ((x0) : Int) = Z133 x0 := by kernel_rfl
theorem Z133.ok : V.Valid Tryz.prog 189 Z133.con :=
  V.fo (V.tab_cons Z84.ok V.tab_nil) Tryz.func189 (by kernel_rfl) (fun x y h => (show V.evBody Z133.E Z133.con Tryz.f189 x = _ from Z133.eq x).trans (V.cfl (by kernel_rfl) h))
noncomputable abbrev Z123.con : V.Con := ⟨(.cons (.sl (.cons (.int .i64) .nil)) (.cons (.int .i64) .nil)), (.cons .bool .nil), fun (x : List Int × Int) => Z123 x, [], [(true, 2)], [(false, 1)], [false], []⟩
noncomputable abbrev Z123.E : V.Env := V.mkE V.tys [(81, Z84.con), (188, Z43.con), (189, Z133.con)] [] [] [] [] []
theorem Z123.eq (x0 : TKeys) : V.evBody Z123.E Z123.con Tryz.f166 ((x0.1, x0.2) : List Int × Int) = Z123 x0 := by kernel_rfl
theorem Z123.ok : V.Valid Tryz.prog 166 Z123.con :=
  V.fo (V.tab_cons Z84.ok (V.tab_cons Z43.ok (V.tab_cons Z133.ok V.tab_nil))) Tryz.func166 (by kernel_rfl) (fun x y h => (show V.evBody Z123.E Z123.con Tryz.f166 x = _ from Z123.eq x).trans (V.cfl (by kernel_rfl) h))
noncomputable abbrev Z119.con : V.Con := ⟨(.cons (.sl (.cons (.int .i64) .nil)) (.cons (.int .i64) .nil)), (.cons .bool .nil), fun (x : List Int × Int) => Z119 x, [], [(true, 2)], [(false, 1)], [false], []⟩
noncomputable abbrev Z119.E : V.Env := V.mkE V.tys [] [] [] [] [] []
theorem Z119.eq (x0 : TKeys) : V.evBody Z119.E Z119.con Tryz.f169 ((x0.1, x0.2) : List Int × Int) = Z119 x0 := by kernel_rfl
theorem Z119.ok : V.Valid Tryz.prog 169 Z119.con :=
  V.fo V.tab_nil Tryz.func169 (by kernel_rfl) (fun x y h => (show V.evBody Z119.E Z119.con Tryz.f169 x = _ from Z119.eq x).trans (V.cfl (by kernel_rfl) h))
noncomputable abbrev Z176.con : V.Con := ⟨(.cons (.sl (.cons (.int .i64) .nil)) (.cons (.int .i64) .nil)), (.cons .bool .nil), fun (x : List Int × Int) => Z176 x, [], [(true, 2)], [(false, 1)], [false], []⟩
noncomputable abbrev Z176.E : V.Env := V.mkE V.tys [(166, Z123.con), (169, Z119.con)] [] [] [] [] []
theorem Z176.eq (x0 : TKeys) : V.evBody Z176.E Z176.con Tryz.f167 ((x0.1, x0.2) : List Int × Int) = Z176 x0 := by kernel_rfl
theorem Z176.ok : V.Valid Tryz.prog 167 Z176.con :=
  V.fo (V.tab_cons Z123.ok (V.tab_cons Z119.ok V.tab_nil)) Tryz.func167 (by kernel_rfl) (fun x y h => (show V.evBody Z176.E Z176.con Tryz.f167 x = _ from Z176.eq x).trans (V.cfl (by kernel_rfl) h))
noncomputable abbrev Z201.con : V.Con := ⟨(.cons (.int .i64) (.cons (.sl (.cons (.int .i64) .nil)) (.cons (.int .i64) .nil))), (.cons .bool .nil), fun (x : Int × List Int × Int) => Z201 x.1 x.2, [], [(false, 1), (true, 2)], [(false, 1)], [false], []⟩
noncomputable abbrev Z201.E : V.Env := V.mkE V.tys [(81, Z84.con), (169, Z119.con)] [] [] [] [] []
theorem Z201.eq (x0 : Int) (x1 : TKeys) : V.evBody Z201.E Z201.con Tryz.f168 ((x0, x1.1, x1.2) : Int × List Int × Int) = Z201 x0 x1 := by kernel_rfl
theorem Z201.ok : V.Valid Tryz.prog 168 Z201.con :=
  V.fo (V.tab_cons Z84.ok (V.tab_cons Z119.ok V.tab_nil)) Tryz.func168 (by kernel_rfl) (fun x y h => (show V.evBody Z201.E Z201.con Tryz.f168 x = _ from Z201.eq x.1 x.2).trans (V.cfl (by kernel_rfl) h))
noncomputable abbrev Z93.con : V.Con := ⟨V.A2, (.cons .bool .nil), fun (x : V.D2) => Z93 (V.p2_0 x), [], [(true, 16)], [(false, 1)], [false], []⟩
noncomputable abbrev Z93.E : V.Env := V.mkE V.tys [(81, Z84.con), (136, Z124.con), (165, Z118.con), (166, Z123.con), (167, Z176.con), (168, Z201.con), (169, Z119.con)] [] [] [] [] []
noncomputable abbrev Z93.kt (x0 : THead) : V.Kt Bool := V.ktOf Z93.E Z93.con Tryz.f146 (V.fl2 x0)
noncomputable abbrev Z93.s (x0 : THead) : V.St := ⟨[(0, .v true (V.lsHead x0))], []⟩
theorem Z93.v0 (x0 : THead) : V.evBody Z93.E Z93.con Tryz.f146 (V.fl2 x0) = V.evC Z93.E Tryz.f146.ntmps (V.codeOf Tryz.f146) (Z93.kt x0) (Z93.s x0) := by kernel_rfl
theorem Z93.v (x0 : THead) : V.evC Z93.E Tryz.f146.ntmps (V.codeOf Tryz.f146) (Z93.kt x0) (Z93.s x0) = Z93 x0 := by kernel_rfl
theorem Z93.eq (x0 : THead) : V.evBody Z93.E Z93.con Tryz.f146 (V.fl2 x0) = Z93 x0 := (Z93.v0 x0).trans (Z93.v x0)
theorem Z93.ok : V.Valid Tryz.prog 146 Z93.con :=
  V.fo (V.tab_cons Z84.ok (V.tab_cons Z124.ok (V.tab_cons Z118.ok (V.tab_cons Z123.ok (V.tab_cons Z176.ok (V.tab_cons Z201.ok (V.tab_cons Z119.ok V.tab_nil))))))) Tryz.func146 (by kernel_rfl) (fun x y h => (show V.evBody Z93.E Z93.con Tryz.f146 x = _ from Z93.eq (V.p2_0 x)).trans (V.cfl (by kernel_rfl) h))
noncomputable abbrev Z120.con : V.Con := ⟨(.cons (.sl (.cons (.int .i64) .nil)) (.cons (.int .i64) .nil)), (.cons (.sl (.cons (.int .i64) .nil)) .nil), fun (x : List Int × Int) => Z120 x, [], [(true, 2)], [(false, 1)], [true], []⟩
noncomputable abbrev Z120.E : V.Env := V.mkE V.tys [] [] [] [] [] []
theorem Z120.eq (x0 : TKeys) : V.evBody Z120.E Z120.con Tryz.f170 ((x0.1, x0.2) : List Int × Int) = Z120 x0 := by kernel_rfl
theorem Z120.ok : V.Valid Tryz.prog 170 Z120.con :=
  V.fo V.tab_nil Tryz.func170 (by kernel_rfl) (fun x y h => (show V.evBody Z120.E Z120.con Tryz.f170 x = _ from Z120.eq x).trans (V.cfl (by kernel_rfl) h))
noncomputable abbrev Z144.con : V.Con := ⟨(.cons (.int .i64) (.cons (.int .i64) .nil)), (.cons (.int .i64) .nil), fun (x : Int × Int) => Z144 x.1 x.2, [], [(false, 1), (false, 1)], [(false, 1)], [false], []⟩
noncomputable abbrev Z144.E : V.Env := V.mkE V.tys [(81, Z84.con)] [] [] [] [] []
theorem Z144.eq (x0 : Int) (x1 : Int) : V.evBody Z144.E Z144.con Tryz.f152 ((x0, x1) : Int × Int) = Z144 x0 x1 := by kernel_rfl
theorem Z144.ok : V.Valid Tryz.prog 152 Z144.con :=
  V.fo (V.tab_cons Z84.ok V.tab_nil) Tryz.func152 (by kernel_rfl) (fun x y h => (show V.evBody Z144.E Z144.con Tryz.f152 x = _ from Z144.eq x.1 x.2).trans (V.cfl (by kernel_rfl) h))
noncomputable abbrev Z15.con : V.Con := ⟨(.cons (.sl (.cons (.int .i64) .nil)) .nil), (.cons (.int .i64) .nil), fun (x : List Int) => Z15 x, [], [(false, 1)], [(false, 1)], [false], []⟩
noncomputable abbrev Z15.E : V.Env := V.mkE V.tys [(152, Z144.con)] [(6, [3, 6, 7, 8], [])] [] [] [] []
noncomputable abbrev Z15.kt (x0 : List Int) : V.Kt Int := V.ktOf Z15.E Z15.con Tryz.f134 ((x0) : List Int)
noncomputable abbrev Z15.s6 (x0 : List Int) (v6_0 : Int) (v6_2 : Int) (v6_3 : Int) : V.St := ⟨[(3, .v false [.val (.int .i64 v6_0)]), (6, .v false [.val (.sl (.cons (.int .i64) .nil) x0)]), (7, .v false [.val (.int .i64 v6_2)]), (8, .v false [.val (.int .i64 v6_3)])], []⟩
theorem Z15.r6 (x0 : List Int) (R : V.St → Option Int) (v6_0 : Int) (v6_2 : Int) (v6_3 : Int) : V.loopF Z15.E Tryz.f134.ntmps [1, 1, 0, 1, 0] [] (V.codeOf Tryz.f134) (Z15.kt x0) R (Z15.s6 x0 v6_0 v6_2 v6_3) = Z15.g6 x0 (fun v6_0 v6_2 v6_3 => R (Z15.s6 x0 v6_0 v6_2 v6_3)) v6_0 v6_2 v6_3 := by kernel_rfl
theorem Z15.e6 (x0 : List Int) : ∀ (n : Nat) (v6_0 : Int) (v6_2 : Int) (v6_3 : Int), V.loopN (V.loopF Z15.E Tryz.f134.ntmps [1, 1, 0, 1, 0] [] (V.codeOf Tryz.f134) (Z15.kt x0)) n (Z15.s6 x0 v6_0 v6_2 v6_3) = Z15.l6 x0 n v6_0 v6_2 v6_3 := by
  intro n
  induction n with
  | zero => intros; rw [V.loopN_z]; rfl
  | succ n ih =>
    intro v6_0 v6_2 v6_3
    rw [V.loopN_s, Z15.r6]
    simp only [ih]
    first | exact (Z15.u6 ..).symm | rfl
theorem Z15.v (x0 : List Int) : V.evBody Z15.E Z15.con Tryz.f134 ((x0) : List Int) = Z15.b x0 (fun v6_0 v6_2 v6_3 => V.loopN (V.loopF Z15.E Tryz.f134.ntmps [1, 1, 0, 1, 0] [] (V.codeOf Tryz.f134) (Z15.kt x0)) V.KK (Z15.s6 x0 v6_0 v6_2 v6_3)) := by kernel_rfl
theorem Z15.eq (x0 : List Int) : V.evBody Z15.E Z15.con Tryz.f134 ((x0) : List Int) = Z15 x0 := by
  rw [Z15.v]
  simp only [Z15.e6]
  rfl
theorem Z15.ok : V.Valid Tryz.prog 134 Z15.con :=
  V.fo (V.tab_cons Z144.ok V.tab_nil) Tryz.func134 (by kernel_rfl) (fun x y h => (show V.evBody Z15.E Z15.con Tryz.f134 x = _ from Z15.eq x).trans (V.cfl (by kernel_rfl) h))
noncomputable abbrev Z175.con : V.Con := ⟨(.cons (.sl (.cons (.int .i64) .nil)) (.cons (.int .i64) (.cons (.int .i64) .nil))), (.cons (.int .i64) .nil), fun (x : List Int × Int × Int) => Z175 (x.1, x.2.1) x.2.2, [], [(true, 2), (false, 1)], [(false, 1)], [false], []⟩
noncomputable abbrev Z175.E : V.Env := V.mkE V.tys [(134, Z15.con), (170, Z120.con)] [] [] [] [] []
theorem Z175.eq (x0 : TKeys) (x1 : Int) : V.evBody Z175.E Z175.con Tryz.f147 ((x0.1, x0.2, x1) : List Int × Int × Int) = Z175 x0 x1 := by kernel_rfl
theorem Z175.ok : V.Valid Tryz.prog 147 Z175.con :=
  V.fo (V.tab_cons Z15.ok (V.tab_cons Z120.ok V.tab_nil)) Tryz.func147 (by kernel_rfl) (fun x y h => (show V.evBody Z175.E Z175.con Tryz.f147 x = _ from Z175.eq (x.1, x.2.1) x.2.2).trans (V.cfl (by kernel_rfl) h))
noncomputable abbrev Z152.con : V.Con := ⟨(.cons .bool .nil), (.cons (.int .i64) .nil), fun (x : Bool) => Z152 x, [], [(false, 1)], [(false, 1)], [false], []⟩
noncomputable abbrev Z152.E : V.Env := V.mkE V.tys [] [] [] [] [] []
theorem Z152.eq (x0 : Bool) : V.evBody Z152.E Z152.con Tryz.f192 ((x0) : Bool) = Z152 x0 := by kernel_rfl
theorem Z152.ok : V.Valid Tryz.prog 192 Z152.con :=
  V.fo V.tab_nil Tryz.func192 (by kernel_rfl) (fun x y h => (show V.evBody Z152.E Z152.con Tryz.f192 x = _ from Z152.eq x).trans (V.cfl (by kernel_rfl) h))
noncomputable abbrev Z86.con : V.Con := ⟨(.cons (.sl (.cons (.int .i64) .nil)) (.cons (.int .i64) .nil)), (.cons (.sl (.cons (.int .i64) .nil)) .nil), fun (x : List Int × Int) => Z86 x.1 x.2, [], [(false, 1), (false, 1)], [(false, 1)], [true], [0]⟩
noncomputable abbrev Z86.E : V.Env := V.mkE V.tys [] [(7, [0, 1], [])] [] [] [] []
noncomputable abbrev Z86.kt (x0 : List Int) (x1 : Int) : V.Kt (List Int) := V.ktOf Z86.E Z86.con Tryz.f202 ((x0, x1) : List Int × Int)
noncomputable abbrev Z86.s7 (x1 : Int) : V.St := ⟨[(0, .v false [.nil0]), (1, .v false [.val (.int .i64 x1)])], []⟩
theorem Z86.r7 (x0 : List Int) (x1 : Int) : V.joinF Z86.E Tryz.f202.ntmps [1] [] (V.codeOf Tryz.f202) (Z86.kt x0 x1) (Z86.s7 x1) = Z86.g7 x1 := by kernel_rfl
theorem Z86.e7 (x0 : List Int) (x1 : Int) : V.jn (V.joinF Z86.E Tryz.f202.ntmps [1] [] (V.codeOf Tryz.f202) (Z86.kt x0 x1)) (Z86.s7 x1) = Z86.l7 x1 := by
  rw [V.jn_eq, Z86.r7]
  rfl
theorem Z86.v (x0 : List Int) (x1 : Int) : V.evBody Z86.E Z86.con Tryz.f202 ((x0, x1) : List Int × Int) = Z86.b x0 x1 (V.jn (V.joinF Z86.E Tryz.f202.ntmps [1] [] (V.codeOf Tryz.f202) (Z86.kt x0 x1)) (Z86.s7 x1)) := by kernel_rfl
theorem Z86.eq (x0 : List Int) (x1 : Int) : V.evBody Z86.E Z86.con Tryz.f202 ((x0, x1) : List Int × Int) = Z86 x0 x1 := by
  rw [Z86.v]
  simp only [Z86.e7]
  rfl
theorem Z86.ok : V.Valid Tryz.prog 202 Z86.con :=
  V.fo V.tab_nil Tryz.func202 (by kernel_rfl) (fun x y h => (show V.evBody Z86.E Z86.con Tryz.f202 x = _ from Z86.eq x.1 x.2).trans (V.cfl (by kernel_rfl) h))
noncomputable abbrev Z5.con : V.Con := ⟨(.cons (.sl (.cons (.sl (.cons (.int .i64) .nil)) .nil)) .nil), (.cons (.sl (.cons (.int .i64) .nil)) .nil), fun (x : List (List Int)) => Z5 x, [], [(false, 1)], [(false, 1)], [true], []⟩
noncomputable abbrev Z5.E : V.Env := V.mkE V.tys [(202, Z86.con)] [(6, [0, 3, 9, 10, 11], []), (22, [6, 25, 26, 27], [])] [] [] [] []
noncomputable abbrev Z5.kt (x0 : List (List Int)) : V.Kt (List Int) := V.ktOf Z5.E Z5.con Tryz.f191 ((x0) : List (List Int))
noncomputable abbrev Z5.s22 (x0 : List (List Int)) (v22_1 : Int) (v22_2 : Int) (v22_3 : List Int) : V.St := ⟨[(6, .v false [.ref 64000140800384]), (25, .v false [.val (.sl (.cons (.sl (.cons (.int .i64) .nil)) .nil) x0)]), (26, .v false [.val (.int .i64 v22_1)]), (27, .v false [.val (.int .i64 v22_2)])], [(64000140800384, .row (.cons (.int .i64) .nil) true v22_3)]⟩
noncomputable abbrev Z5.s6 (x0 : List (List Int)) (v6_1 : Int) (v6_3 : Int) (v6_4 : Int) : V.St := ⟨[(0, .v false [.val (.sl (.cons (.sl (.cons (.int .i64) .nil)) .nil) x0)]), (3, .v false [.val (.int .i64 v6_1)]), (9, .v false [.val (.sl (.cons (.sl (.cons (.int .i64) .nil)) .nil) x0)]), (10, .v false [.val (.int .i64 v6_3)]), (11, .v false [.val (.int .i64 v6_4)])], []⟩
theorem Z5.r22 (x0 : List (List Int)) (R : V.St → Option (List Int)) (v22_1 : Int) (v22_2 : Int) (v22_3 : List Int) : V.loopF Z5.E Tryz.f191.ntmps [1, 1, 1, 1, 0, 1, 0] [] (V.codeOf Tryz.f191) (Z5.kt x0) R (Z5.s22 x0 v22_1 v22_2 v22_3) = Z5.g22 x0 (fun v22_1 v22_2 v22_3 => R (Z5.s22 x0 v22_1 v22_2 v22_3)) v22_1 v22_2 v22_3 := by kernel_rfl
theorem Z5.e22 (x0 : List (List Int)) : ∀ (n : Nat) (v22_1 : Int) (v22_2 : Int) (v22_3 : List Int), V.loopN (V.loopF Z5.E Tryz.f191.ntmps [1, 1, 1, 1, 0, 1, 0] [] (V.codeOf Tryz.f191) (Z5.kt x0)) n (Z5.s22 x0 v22_1 v22_2 v22_3) = Z5.l22 x0 n v22_1 v22_2 v22_3 := by
  intro n
  induction n with
  | zero => intros; rw [V.loopN_z]; rfl
  | succ n ih =>
    intro v22_1 v22_2 v22_3
    rw [V.loopN_s, Z5.r22]
    simp only [ih]
    first | exact (Z5.u22 ..).symm | rfl
theorem Z5.r6 (x0 : List (List Int)) (R : V.St → Option (List Int)) (v6_1 : Int) (v6_3 : Int) (v6_4 : Int) : V.loopF Z5.E Tryz.f191.ntmps [1, 1, 0, 1, 0] [] (V.codeOf Tryz.f191) (Z5.kt x0) R (Z5.s6 x0 v6_1 v6_3 v6_4) = Z5.g6 x0 (fun v6_1 v6_3 v6_4 => R (Z5.s6 x0 v6_1 v6_3 v6_4)) (fun v22_1 v22_2 v22_3 => V.loopN (V.loopF Z5.E Tryz.f191.ntmps [1, 1, 1, 1, 0, 1, 0] [] (V.codeOf Tryz.f191) (Z5.kt x0)) V.KK (Z5.s22 x0 v22_1 v22_2 v22_3)) v6_1 v6_3 v6_4 := by kernel_rfl
theorem Z5.e6 (x0 : List (List Int)) : ∀ (n : Nat) (v6_1 : Int) (v6_3 : Int) (v6_4 : Int), V.loopN (V.loopF Z5.E Tryz.f191.ntmps [1, 1, 0, 1, 0] [] (V.codeOf Tryz.f191) (Z5.kt x0)) n (Z5.s6 x0 v6_1 v6_3 v6_4) = Z5.l6 x0 n v6_1 v6_3 v6_4 := by
  intro n
  induction n with
  | zero => intros; rw [V.loopN_z]; rfl
  | succ n ih =>
    intro v6_1 v6_3 v6_4
    rw [V.loopN_s, Z5.r6]
    simp only [Z5.e22, ih]
    first | exact (Z5.u6 ..).symm | rfl
theorem Z5.v (x0 : List (List Int)) : V.evBody Z5.E Z5.con Tryz.f191 ((x0) : List (List Int)) = Z5.b x0 (fun v6_1 v6_3 v6_4 => V.loopN (V.loopF Z5.E Tryz.f191.ntmps [1, 1, 0, 1, 0] [] (V.codeOf Tryz.f191) (Z5.kt x0)) V.KK (Z5.s6 x0 v6_1 v6_3 v6_4)) := by kernel_rfl
theorem Z5.eq (x0 : List (List Int)) : V.evBody Z5.E Z5.con Tryz.f191 ((x0) : List (List Int)) = Z5 x0 := by
  rw [Z5.v]
  simp only [Z5.e6]
  rfl
theorem Z5.ok : V.Valid Tryz.prog 191 Z5.con :=
  V.fo (V.tab_cons Z86.ok V.tab_nil) Tryz.func191 (by kernel_rfl) (fun x y h => (show V.evBody Z5.E Z5.con Tryz.f191 x = _ from Z5.eq x).trans (V.cfl (by kernel_rfl) h))
noncomputable abbrev Z95.con : V.Con := ⟨V.A2, (.cons (.sl (.cons (.int .i64) .nil)) .nil), fun (x : V.D2) => Z95 (V.p2_0 x), [], [(true, 16)], [(false, 1)], [true], []⟩
noncomputable abbrev Z95.E : V.Env := V.mkE V.tys [(170, Z120.con), (191, Z5.con), (192, Z152.con)] [] [(1, 33)] [] [] []
noncomputable abbrev Z95.kt (x0 : THead) : V.Kt (List Int) := V.ktOf Z95.E Z95.con Tryz.f172 (V.fl2 x0)
noncomputable abbrev Z95.s (x0 : THead) : V.St := ⟨[(0, .v true (V.lsHead x0))], []⟩
theorem Z95.v0 (x0 : THead) : V.evBody Z95.E Z95.con Tryz.f172 (V.fl2 x0) = V.evC Z95.E Tryz.f172.ntmps (V.codeOf Tryz.f172) (Z95.kt x0) (Z95.s x0) := by kernel_rfl
theorem Z95.v (x0 : THead) : V.evC Z95.E Tryz.f172.ntmps (V.codeOf Tryz.f172) (Z95.kt x0) (Z95.s x0) = Z95 x0 := by kernel_rfl
theorem Z95.eq (x0 : THead) : V.evBody Z95.E Z95.con Tryz.f172 (V.fl2 x0) = Z95 x0 := (Z95.v0 x0).trans (Z95.v x0)
theorem Z95.ok : V.Valid Tryz.prog 172 Z95.con :=
  V.fo (V.tab_cons Z120.ok (V.tab_cons Z5.ok (V.tab_cons Z152.ok V.tab_nil))) Tryz.func172 (by kernel_rfl) (fun x y h => (show V.evBody Z95.E Z95.con Tryz.f172 x = _ from Z95.eq (V.p2_0 x)).trans (V.cfl (by kernel_rfl) h))
noncomputable abbrev Z169.con : V.Con := ⟨(.cons (.int .i64) (.cons (.sl (.cons (.int .i64) .nil)) .nil)), (.cons (.int .i64) .nil), fun (x : Int × List Int) => Z169 x.1 x.2, [], [(false, 1), (false, 1)], [(false, 1)], [false], []⟩
noncomputable abbrev Z169.E : V.Env := V.mkE V.tys [(134, Z15.con), (191, Z5.con)] [] [] [128320] [] []
theorem Z169.eq (x0 : Int) (x1 : List Int) : V.evBody Z169.E Z169.con Tryz.f209 ((x0, x1) : Int × List Int) = Z169 x0 x1 := by kernel_rfl
theorem Z169.ok : V.Valid Tryz.prog 209 Z169.con :=
  V.fo (V.tab_cons Z15.ok (V.tab_cons Z5.ok V.tab_nil)) Tryz.func209 (by kernel_rfl) (fun x y h => (show V.evBody Z169.E Z169.con Tryz.f209 x = _ from Z169.eq x.1 x.2).trans (V.cfl (by kernel_rfl) h))
noncomputable abbrev Z173.con : V.Con := ⟨(.cons (.int .i64) (.cons (.sl (.cons (.int .i64) .nil)) .nil)), (.cons (.int .i64) .nil), fun (x : Int × List Int) => Z173 x.1 x.2, [], [(false, 1), (false, 1)], [(false, 1)], [false], []⟩
noncomputable abbrev Z173.E : V.Env := V.mkE V.tys [(209, Z169.con)] [] [] [] [] []
theorem Z173.eq (x0 : Int) (x1 : List Int) : V.evBody Z173.E Z173.con Tryz.f207 ((x0, x1) : Int × List Int) = Z173 x0 x1 := by kernel_rfl
theorem Z173.ok : V.Valid Tryz.prog 207 Z173.con :=
  V.fo (V.tab_cons Z169.ok V.tab_nil) Tryz.func207 (by kernel_rfl) (fun x y h => (show V.evBody Z173.E Z173.con Tryz.f207 x = _ from Z173.eq x.1 x.2).trans (V.cfl (by kernel_rfl) h))
noncomputable abbrev Z167.con : V.Con := ⟨(.cons (.int .i64) (.cons (.int .i64) (.cons (.sl (.cons (.int .i64) .nil)) .nil))), (.cons .bool .nil), fun (x : Int × Int × List Int) => Z167 (x.1, x.2.1) x.2.2, [], [(true, 2), (false, 1)], [(false, 1)], [false], []⟩
noncomputable abbrev Z167.E : V.Env := V.mkE V.tys [(189, Z133.con), (207, Z173.con)] [] [(1, 10)] [] [] []
theorem Z167.eq (x0 : TSig) (x1 : List Int) : V.evBody Z167.E Z167.con Tryz.f201 ((x0.1, x0.2, x1) : Int × Int × List Int) = Z167 x0 x1 := by kernel_rfl
theorem Z167.ok : V.Valid Tryz.prog 201 Z167.con :=
  V.fo (V.tab_cons Z133.ok (V.tab_cons Z173.ok V.tab_nil)) Tryz.func201 (by kernel_rfl) (fun x y h => (show V.evBody Z167.E Z167.con Tryz.f201 x = _ from Z167.eq (x.1, x.2.1) x.2.2).trans (V.cfl (by kernel_rfl) h))
noncomputable abbrev Z197.con : V.Con := ⟨(.cons (.int .i64) (.cons (.int .i64) (.cons (.ptr (.cons (.int .i64) .nil)) (.cons (.ptr (.cons (.sl (.cons (.int .i64) .nil)) .nil)) .nil)))), (.cons .bool .nil), fun (x : Int × Int × Int × List Int) => Z197 (x.1, x.2.1) x.2.2.1 x.2.2.2, [], [(true, 2), (false, 1), (false, 1)], [(false, 1)], [false], []⟩
noncomputable abbrev Z197.E : V.Env := V.mkE V.tys [(201, Z167.con)] [] [] [] [] []
theorem Z197.eq (x0 : TSig) (x1 : Int) (x2 : List Int) : V.evBody Z197.E Z197.con Tryz.f200 ((x0.1, x0.2, x1, x2) : Int × Int × Int × List Int) = Z197 x0 x1 x2 := by kernel_rfl
theorem Z197.ok : V.Valid Tryz.prog 200 Z197.con :=
  V.fo (V.tab_cons Z167.ok V.tab_nil) Tryz.func200 (by kernel_rfl) (fun x y h => (show V.evBody Z197.E Z197.con Tryz.f200 x = _ from Z197.eq (x.1, x.2.1) x.2.2.1 x.2.2.2).trans (V.cfl (by kernel_rfl) h))
noncomputable abbrev Z33.con : V.Con := ⟨(.cons (.sl (.cons (.int .i64) (.cons (.int .i64) .nil))) (.cons (.fn 200 false .nil (.cons (.ptr (.cons (.int .i64) .nil)) (.cons (.ptr (.cons (.sl (.cons (.int .i64) .nil)) .nil)) .nil))) .nil)), (.cons (.int .i64) .nil), fun (x : List TSig × (Unit) × (Int × List Int)) => Z33 x.1 x.2, [], [(false, 1), (false, 1)], [(false, 1)], [false], []⟩
noncomputable abbrev Z33.E : V.Env := V.mkE V.tys [(200, Z197.con)] [(4, [0, 1, 7, 8], [])] [] [] [] []
noncomputable abbrev Z33.kt (x0 : List TSig) (x1 : (Unit) × (Int × List Int)) : V.Kt Int := V.ktOf Z33.E Z33.con Tryz.f206 ((x0, x1) : List TSig × (Unit) × (Int × List Int))
noncomputable abbrev Z33.s4 (x0 : List TSig) (x1 : (Unit) × (Int × List Int)) (v4_2 : Int) (v4_3 : Int) : V.St := ⟨[(0, .v false [.val (.sl (.cons (.int .i64) (.cons (.int .i64) .nil)) x0)]), (1, .v false [.val (.fn 200 false .nil (.cons (.ptr (.cons (.int .i64) .nil)) (.cons (.ptr (.cons (.sl (.cons (.int .i64) .nil)) .nil)) .nil)) () x1.2)]), (7, .v false [.val (.int .i64 v4_2)]), (8, .v false [.val (.int .i64 v4_3)])], []⟩
theorem Z33.r4 (x0 : List TSig) (x1 : (Unit) × (Int × List Int)) (R : V.St → Option Int) (v4_2 : Int) (v4_3 : Int) : V.loopF Z33.E Tryz.f206.ntmps [1, 0, 1, 0] [] (V.codeOf Tryz.f206) (Z33.kt x0 x1) R (Z33.s4 x0 x1 v4_2 v4_3) = Z33.g4 x0 x1 (fun v4_2 v4_3 => R (Z33.s4 x0 x1 v4_2 v4_3)) v4_2 v4_3 := by kernel_rfl
theorem Z33.e4 (x0 : List TSig) (x1 : (Unit) × (Int × List Int)) : ∀ (n : Nat) (v4_2 : Int) (v4_3 : Int), V.loopN (V.loopF Z33.E Tryz.f206.ntmps [1, 0, 1, 0] [] (V.codeOf Tryz.f206) (Z33.kt x0 x1)) n (Z33.s4 x0 x1 v4_2 v4_3) = Z33.l4 x0 x1 n v4_2 v4_3 := by
  intro n
  induction n with
  | zero => intros; rw [V.loopN_z]; rfl
  | succ n ih =>
    intro v4_2 v4_3
    rw [V.loopN_s, Z33.r4]
    simp only [ih]
    first | exact (Z33.u4 ..).symm | rfl
theorem Z33.v (x0 : List TSig) (x1 : (Unit) × (Int × List Int)) : V.evBody Z33.E Z33.con Tryz.f206 ((x0, x1) : List TSig × (Unit) × (Int × List Int)) = Z33.b x0 x1 (fun v4_2 v4_3 => V.loopN (V.loopF Z33.E Tryz.f206.ntmps [1, 0, 1, 0] [] (V.codeOf Tryz.f206) (Z33.kt x0 x1)) V.KK (Z33.s4 x0 x1 v4_2 v4_3)) := by kernel_rfl
theorem Z33.eq (x0 : List TSig) (x1 : (Unit) × (Int × List Int)) : V.evBody Z33.E Z33.con Tryz.f206 ((x0, x1) : List TSig × (Unit) × (Int × List Int)) = Z33 x0 x1 := by
  rw [Z33.v]
  simp only [Z33.e4]
  rfl
theorem Z33.ok : V.Valid Tryz.prog 206 Z33.con :=
  V.fo (V.tab_cons Z197.ok V.tab_nil) Tryz.func206 (by kernel_rfl) (fun x y h => (show V.evBody Z33.E Z33.con Tryz.f206 x = _ from Z33.eq x.1 x.2).trans (V.cfl (by kernel_rfl) h))
noncomputable abbrev Z183.con : V.Con := ⟨(.cons (.sl (.cons (.int .i64) (.cons (.int .i64) .nil))) (.cons (.fn 200 false .nil (.cons (.ptr (.cons (.int .i64) .nil)) (.cons (.ptr (.cons (.sl (.cons (.int .i64) .nil)) .nil)) .nil))) .nil)), (.cons .bool .nil), fun (x : List TSig × (Unit) × (Int × List Int)) => Z183 x.1 x.2, [], [(false, 1), (false, 1)], [(false, 1)], [false], []⟩
noncomputable abbrev Z183.E : V.Env := V.mkE V.tys [(206, Z33.con)] [] [] [] [] []
theorem Z183.eq (x0 : List TSig) (x1 : (Unit) × (Int × List Int)) : V.evBody Z183.E Z183.con Tryz.f199 ((x0, x1) : List TSig × (Unit) × (Int × List Int)) = Z183 x0 x1 := by kernel_rfl
theorem Z183.ok : V.Valid Tryz.prog 199 Z183.con :=
  V.fo (V.tab_cons Z33.ok V.tab_nil) Tryz.func199 (by kernel_rfl) (fun x y h => (show V.evBody Z183.E Z183.con Tryz.f199 x = _ from Z183.eq x.1 x.2).trans (V.cfl (by kernel_rfl) h))
noncomputable abbrev Z41.con : V.Con := ⟨(.cons (.sl (.cons (.int .i64) .nil)) (.cons (.int .i64) (.cons (.sl (.cons (.int .i64) .nil)) (.cons (.sl (.cons (.int .i64) (.cons (.int .i64) .nil))) .nil)))), (.cons (.int .i64) .nil), fun (x : List Int × Int × List Int × List TSig) => Z41 (x.1, x.2.1) x.2.2.1 x.2.2.2, [], [(true, 2), (false, 1), (false, 1)], [(false, 1)], [false], []⟩
noncomputable abbrev Z41.E : V.Env := V.mkE V.tys [(199, Z183.con)] [(6, [2, 4, 7, 11, 12, 13], [])] [] [] [] []
noncomputable abbrev Z41.kt (x0 : TKeys) (x1 : List Int) (x2 : List TSig) : V.Kt Int := V.ktOf Z41.E Z41.con Tryz.f190 ((x0.1, x0.2, x1, x2) : List Int × Int × List Int × List TSig)
noncomputable abbrev Z41.s6 (x0 : TKeys) (x1 : List Int) (x2 : List TSig) (v6_1 : Int) (v6_3 : Int) (v6_4 : Int) : V.St := ⟨[(2, .v false [.val (.sl (.cons (.int .i64) (.cons (.int .i64) .nil)) x2)]), (4, .v false [.ptr 64064 0]), (7, .v false [.val (.int .i64 v6_1)]), (11, .v false [.val (.sl (.cons (.int .i64) .nil) x0.1)]), (12, .v false [.val (.int .i64 v6_3)]), (13, .v false [.val (.int .i64 v6_4)])], [(64064, .box [.val (.sl (.cons (.int .i64) .nil) x1)])]⟩
theorem Z41.r6 (x0 : TKeys) (x1 : List Int) (x2 : List TSig) (R : V.St → Option Int) (v6_1 : Int) (v6_3 : Int) (v6_4 : Int) : V.loopF Z41.E Tryz.f190.ntmps [1, 1, 0, 1, 0] [] (V.codeOf Tryz.f190) (Z41.kt x0 x1 x2) R (Z41.s6 x0 x1 x2 v6_1 v6_3 v6_4) = Z41.g6 x0 x1 x2 (fun v6_1 v6_3 v6_4 => R (Z41.s6 x0 x1 x2 v6_1 v6_3 v6_4)) v6_1 v6_3 v6_4 := by kernel_rfl
theorem Z41.e6 (x0 : TKeys) (x1 : List Int) (x2 : List TSig) : ∀ (n : Nat) (v6_1 : Int) (v6_3 : Int) (v6_4 : Int), V.loopN (V.loopF Z41.E Tryz.f190.ntmps [1, 1, 0, 1, 0] [] (V.codeOf Tryz.f190) (Z41.kt x0 x1 x2)) n (Z41.s6 x0 x1 x2 v6_1 v6_3 v6_4) = Z41.l6 x0 x1 x2 n v6_1 v6_3 v6_4 := by
  intro n
  induction n with
  | zero => intros; rw [V.loopN_z]; rfl
  | succ n ih =>
    intro v6_1 v6_3 v6_4
    rw [V.loopN_s, Z41.r6]
    simp only [ih]
    first | exact (Z41.u6 ..).symm | rfl
theorem Z41.v (x0 : TKeys) (x1 : List Int) (x2 : List TSig) : V.evBody Z41.E Z41.con Tryz.f190 ((x0.1, x0.2, x1, x2) : List Int × Int × List Int × List TSig) = Z41.b x0 x1 x2 (fun v6_1 v6_3 v6_4 => V.loopN (V.loopF Z41.E Tryz.f190.ntmps [1, 1, 0, 1, 0] [] (V.codeOf Tryz.f190) (Z41.kt x0 x1 x2)) V.KK (Z41.s6 x0 x1 x2 v6_1 v6_3 v6_4)) := by kernel_rfl
theorem Z41.eq (x0 : TKeys) (x1 : List Int) (x2 : List TSig) : V.evBody Z41.E Z41.con Tryz.f190 ((x0.1, x0.2, x1, x2) : List Int × Int × List Int × List TSig) = Z41 x0 x1 x2 := by
  rw [Z41.v]
  simp only [Z41.e6]
  rfl
theorem Z41.ok : V.Valid Tryz.prog 190 Z41.con :=
  V.fo (V.tab_cons Z183.ok V.tab_nil) Tryz.func190 (by kernel_rfl) (fun x y h => (show V.evBody Z41.E Z41.con Tryz.f190 x = _ from Z41.eq (x.1, x.2.1) x.2.2.1 x.2.2.2).trans (V.cfl (by kernel_rfl) h))
noncomputable abbrev Z168.con : V.Con := ⟨(.cons (.sl (.cons (.int .i64) .nil)) (.cons (.int .i64) (.cons (.sl (.cons (.int .i64) .nil)) (.cons (.sl (.cons (.int .i64) (.cons (.int .i64) .nil))) .nil)))), (.cons .bool .nil), fun (x : List Int × Int × List Int × List TSig) => Z168 (x.1, x.2.1) x.2.2.1 x.2.2.2, [], [(true, 2), (false, 1), (false, 1)], [(false, 1)], [false], []⟩
noncomputable abbrev Z168.E : V.Env := V.mkE V.tys [(166, Z123.con), (190, Z41.con)] [] [(1, 9)] [] [] []
theorem Z168.eq (x0 : TKeys) (x1 : List Int) (x2 : List TSig) : V.evBody Z168.E Z168.con Tryz.f171 ((x0.1, x0.2, x1, x2) : List Int × Int × List Int × List TSig) = Z168 x0 x1 x2 := by kernel_rfl
theorem Z168.ok : V.Valid Tryz.prog 171 Z168.con :=
  V.fo (V.tab_cons Z123.ok (V.tab_cons Z41.ok V.tab_nil)) Tryz.func171 (by kernel_rfl) (fun x y h => (show V.evBody Z168.E Z168.con Tryz.f171 x = _ from Z168.eq (x.1, x.2.1) x.2.2.1 x.2.2.2).trans (V.cfl (by kernel_rfl) h))
noncomputable abbrev Z91.con : V.Con := ⟨V.A6, (.cons .bool .nil), fun (x : V.D6) => Z91 (V.p6_0 x) (V.p6_1 x), [], [(true, 17), (true, 2)], [(false, 1)], [false], []⟩
noncomputable abbrev Z91.E : V.Env := V.mkE V.tys [(171, Z168.con), (172, Z95.con)] [] [(1, 6)] [] [] []
noncomputable abbrev Z91.kt (x0 : TSigned) (x1 : TKeys) : V.Kt Bool := V.ktOf Z91.E Z91.con Tryz.f148 (V.fl6 x0 x1)
noncomputable abbrev Z91.s (x0 : TSigned) (x1 : TKeys) : V.St := ⟨[(0, .v true (V.lsSigned x0)), (1, .v true [.val (.sl (.cons (.int .i64) .nil) x1.1), .val (.int .i64 x1.2)])], []⟩
theorem Z91.v0 (x0 : TSigned) (x1 : TKeys) : V.evBody Z91.E Z91.con Tryz.f148 (V.fl6 x0 x1) = V.evC Z91.E Tryz.f148.ntmps (V.codeOf Tryz.f148) (Z91.kt x0 x1) (Z91.s x0 x1) := by kernel_rfl
theorem Z91.v (x0 : TSigned) (x1 : TKeys) : V.evC Z91.E Tryz.f148.ntmps (V.codeOf Tryz.f148) (Z91.kt x0 x1) (Z91.s x0 x1) = Z91 x0 x1 := by kernel_rfl
theorem Z91.eq (x0 : TSigned) (x1 : TKeys) : V.evBody Z91.E Z91.con Tryz.f148 (V.fl6 x0 x1) = Z91 x0 x1 := (Z91.v0 x0 x1).trans (Z91.v x0 x1)
theorem Z91.ok : V.Valid Tryz.prog 148 Z91.con :=
  V.fo (V.tab_cons Z168.ok (V.tab_cons Z95.ok V.tab_nil)) Tryz.func148 (by kernel_rfl) (fun x y h => (show V.evBody Z91.E Z91.con Tryz.f148 x = _ from Z91.eq (V.p6_0 x) (V.p6_1 x)).trans (V.cfl (by kernel_rfl) h))
noncomputable abbrev Z105.con : V.Con := ⟨V.A3, (.cons .bool .nil), fun (x : V.D3) => Z105 (V.p3_0 x), [], [(true, 17)], [(false, 1)], [false], []⟩
noncomputable abbrev Z105.E : V.Env := V.mkE V.tys [(146, Z93.con), (147, Z175.con), (148, Z91.con)] [] [(2, 31)] [] [] []
noncomputable abbrev Z105.kt (x0 : TSigned) : V.Kt Bool := V.ktOf Z105.E Z105.con Tryz.f128 (V.fl3 x0)
noncomputable abbrev Z105.s (x0 : TSigned) : V.St := ⟨[(0, .v true (V.lsSigned x0))], []⟩
theorem Z105.v0 (x0 : TSigned) : V.evBody Z105.E Z105.con Tryz.f128 (V.fl3 x0) = V.evC Z105.E Tryz.f128.ntmps (V.codeOf Tryz.f128) (Z105.kt x0) (Z105.s x0) := by kernel_rfl
theorem Z105.v (x0 : TSigned) : V.evC Z105.E Tryz.f128.ntmps (V.codeOf Tryz.f128) (Z105.kt x0) (Z105.s x0) = Z105 x0 := by kernel_rfl
theorem Z105.eq (x0 : TSigned) : V.evBody Z105.E Z105.con Tryz.f128 (V.fl3 x0) = Z105 x0 := (Z105.v0 x0).trans (Z105.v x0)
theorem Z105.ok : V.Valid Tryz.prog 128 Z105.con :=
  V.fo (V.tab_cons Z93.ok (V.tab_cons Z175.ok (V.tab_cons Z91.ok V.tab_nil))) Tryz.func128 (by kernel_rfl) (fun x y h => (show V.evBody Z105.E Z105.con Tryz.f128 x = _ from Z105.eq (V.p3_0 x)).trans (V.cfl (by kernel_rfl) h))
noncomputable abbrev Z104.con : V.Con := ⟨V.A2, (.cons (.int .i64) .nil), fun (x : V.D2) => Z104 (V.p2_0 x), [], [(true, 16)], [(false, 1)], [false], []⟩
noncomputable abbrev Z104.E : V.Env := V.mkE V.tys [(134, Z15.con), (172, Z95.con)] [] [] [] [] []
noncomputable abbrev Z104.kt (x0 : THead) : V.Kt Int := V.ktOf Z104.E Z104.con Tryz.f193 (V.fl2 x0)
noncomputable abbrev Z104.s (x0 : THead) : V.St := ⟨[(0, .v true (V.lsHead x0))], []⟩
theorem Z104.v0 (x0 : THead) : V.evBody Z104.E Z104.con Tryz.f193 (V.fl2 x0) = V.evC Z104.E Tryz.f193.ntmps (V.codeOf Tryz.f193) (Z104.kt x0) (Z104.s x0) := by kernel_rfl
theorem Z104.v (x0 : THead) : V.evC Z104.E Tryz.f193.ntmps (V.codeOf Tryz.f193) (Z104.kt x0) (Z104.s x0) = Z104 x0 := by kernel_rfl
theorem Z104.eq (x0 : THead) : V.evBody Z104.E Z104.con Tryz.f193 (V.fl2 x0) = Z104 x0 := (Z104.v0 x0).trans (Z104.v x0)
theorem Z104.ok : V.Valid Tryz.prog 193 Z104.con :=
  V.fo (V.tab_cons Z15.ok (V.tab_cons Z95.ok V.tab_nil)) Tryz.func193 (by kernel_rfl) (fun x y h => (show V.evBody Z104.E Z104.con Tryz.f193 x = _ from Z104.eq (V.p2_0 x)).trans (V.cfl (by kernel_rfl) h))
noncomputable abbrev Z108.con : V.Con := ⟨V.A4, (.cons .bool .nil), fun (x : V.D4) => Z108 (V.p4_0 x) (V.p4_1 x), [], [(true, 16), (true, 16)], [(false, 1)], [false], []⟩
noncomputable abbrev Z108.E : V.Env := V.mkE V.tys [(193, Z104.con)] [] [(1, 25)] [] [] []
noncomputable abbrev Z108.kt (x0 : THead) (x1 : THead) : V.Kt Bool := V.ktOf Z108.E Z108.con Tryz.f173 (V.fl4 x0 x1)
noncomputable abbrev Z108.s (x0 : THead) (x1 : THead) : V.St := ⟨[(0, .v true (V.lsHead x0)), (1, .v true (V.lsHead x1))], []⟩
theorem Z108.v0 (x0 : THead) (x1 : THead) : V.evBody Z108.E Z108.con Tryz.f173 (V.fl4 x0 x1) = V.evC Z108.E Tryz.f173.ntmps (V.codeOf Tryz.f173) (Z108.kt x0 x1) (Z108.s x0 x1) := by kernel_rfl
theorem Z108.v (x0 : THead) (x1 : THead) : V.evC Z108.E Tryz.f173.ntmps (V.codeOf Tryz.f173) (Z108.kt x0 x1) (Z108.s x0 x1) = Z108 x0 x1 := by kernel_rfl
theorem Z108.eq (x0 : THead) (x1 : THead) : V.evBody Z108.E Z108.con Tryz.f173 (V.fl4 x0 x1) = Z108 x0 x1 := (Z108.v0 x0 x1).trans (Z108.v x0 x1)
theorem Z108.ok : V.Valid Tryz.prog 173 Z108.con :=
  V.fo (V.tab_cons Z104.ok V.tab_nil) Tryz.func173 (by kernel_rfl) (fun x y h => (show V.evBody Z108.E Z108.con Tryz.f173 x = _ from Z108.eq (V.p4_0 x) (V.p4_1 x)).trans (V.cfl (by kernel_rfl) h))
noncomputable abbrev Z109.con : V.Con := ⟨V.A5, (.cons (.int .i64) .nil), fun (x : V.D5) => Z109 (V.p5_0 x) (V.p5_1 x), [], [(true, 16), (true, 17)], [(false, 1)], [false], []⟩
noncomputable abbrev Z109.E : V.Env := V.mkE V.tys [(148, Z91.con)] [] [] [] [] []
noncomputable abbrev Z109.kt (x0 : THead) (x1 : TSigned) : V.Kt Int := V.ktOf Z109.E Z109.con Tryz.f174 (V.fl5 x0 x1)
noncomputable abbrev Z109.s (x0 : THead) (x1 : TSigned) : V.St := ⟨[(0, .v true (V.lsHead x0)), (1, .v true (V.lsSigned x1))], []⟩
theorem Z109.v0 (x0 : THead) (x1 : TSigned) : V.evBody Z109.E Z109.con Tryz.f174 (V.fl5 x0 x1) = V.evC Z109.E Tryz.f174.ntmps (V.codeOf Tryz.f174) (Z109.kt x0 x1) (Z109.s x0 x1) := by kernel_rfl
theorem Z109.v (x0 : THead) (x1 : TSigned) : V.evC Z109.E Tryz.f174.ntmps (V.codeOf Tryz.f174) (Z109.kt x0 x1) (Z109.s x0 x1) = Z109 x0 x1 := by kernel_rfl
theorem Z109.eq (x0 : THead) (x1 : TSigned) : V.evBody Z109.E Z109.con Tryz.f174 (V.fl5 x0 x1) = Z109 x0 x1 := (Z109.v0 x0 x1).trans (Z109.v x0 x1)
theorem Z109.ok : V.Valid Tryz.prog 174 Z109.con :=
  V.fo (V.tab_cons Z91.ok V.tab_nil) Tryz.func174 (by kernel_rfl) (fun x y h => (show V.evBody Z109.E Z109.con Tryz.f174 x = _ from Z109.eq (V.p5_0 x) (V.p5_1 x)).trans (V.cfl (by kernel_rfl) h))
noncomputable abbrev Z27.con : V.Con := ⟨(.cons (.sl (.cons (.int .i64) .nil)) (.cons (.sl (.cons (.int .i64) .nil)) .nil)), (.cons .bool .nil), fun (x : List Int × List Int) => Z27 x.1 x.2, [], [(false, 1), (false, 1)], [(false, 1)], [false], []⟩
noncomputable abbrev Z27.E : V.Env := V.mkE V.tys [] [(8, [0, 1, 12, 13], [])] [(6, 8)] [] [] []
noncomputable abbrev Z27.kt (x0 : List Int) (x1 : List Int) : V.Kt Bool := V.ktOf Z27.E Z27.con Tryz.f203 ((x0, x1) : List Int × List Int)
noncomputable abbrev Z27.s8 (x0 : List Int) (x1 : List Int) (v8_2 : Int) (v8_3 : Int) : V.St := ⟨[(0, .v false [.val (.sl (.cons (.int .i64) .nil) x0)]), (1, .v false [.val (.sl (.cons (.int .i64) .nil) x1)]), (12, .v false [.val (.int .i64 v8_2)]), (13, .v false [.val (.int .i64 v8_3)])], []⟩
theorem Z27.r8 (x0 : List Int) (x1 : List Int) (R : V.St → Option Bool) (v8_2 : Int) (v8_3 : Int) : V.loopF Z27.E Tryz.f203.ntmps [1, 1, 0, 1, 0] [] (V.codeOf Tryz.f203) (Z27.kt x0 x1) R (Z27.s8 x0 x1 v8_2 v8_3) = Z27.g8 x0 x1 (fun v8_2 v8_3 => R (Z27.s8 x0 x1 v8_2 v8_3)) v8_2 v8_3 := by kernel_rfl
theorem Z27.e8 (x0 : List Int) (x1 : List Int) : ∀ (n : Nat) (v8_2 : Int) (v8_3 : Int), V.loopN (V.loopF Z27.E Tryz.f203.ntmps [1, 1, 0, 1, 0] [] (V.codeOf Tryz.f203) (Z27.kt x0 x1)) n (Z27.s8 x0 x1 v8_2 v8_3) = Z27.l8 x0 x1 n v8_2 v8_3 := by
  intro n
  induction n with
  | zero => intros; rw [V.loopN_z]; rfl
  | succ n ih =>
    intro v8_2 v8_3
    rw [V.loopN_s, Z27.r8]
    simp only [ih]
    first | exact (Z27.u8 ..).symm | rfl
theorem Z27.v (x0 : List Int) (x1 : List Int) : V.evBody Z27.E Z27.con Tryz.f203 ((x0, x1) : List Int × List Int) = Z27.b x0 x1 (fun v8_2 v8_3 => V.loopN (V.loopF Z27.E Tryz.f203.ntmps [1, 1, 0, 1, 0] [] (V.codeOf Tryz.f203) (Z27.kt x0 x1)) V.KK (Z27.s8 x0 x1 v8_2 v8_3)) := by kernel_rfl
theorem Z27.eq (x0 : List Int) (x1 : List Int) : V.evBody Z27.E Z27.con Tryz.f203 ((x0, x1) : List Int × List Int) = Z27 x0 x1 := by
  rw [Z27.v]
  simp only [Z27.e8]
  rfl
theorem Z27.ok : V.Valid Tryz.prog 203 Z27.con :=
  V.fo V.tab_nil Tryz.func203 (by kernel_rfl) (fun x y h => (show V.evBody Z27.E Z27.con Tryz.f203 x = _ from Z27.eq x.1 x.2).trans (V.cfl (by kernel_rfl) h))
noncomputable abbrev Z126.con : V.Con := ⟨(.cons (.sl (.cons (.int .i64) .nil)) (.cons (.int .i64) (.cons (.sl (.cons (.int .i64) .nil)) (.cons (.int .i64) .nil)))), (.cons .bool .nil), fun (x : List Int × Int × List Int × Int) => Z126 (x.1, x.2.1) x.2.2, [], [(true, 2), (true, 2)], [(false, 1)], [false], []⟩
noncomputable abbrev Z126.E : V.Env := V.mkE V.tys [(203, Z27.con)] [] [] [] [] []
theorem Z126.eq (x0 : TKeys) (x1 : TKeys) : V.evBody Z126.E Z126.con Tryz.f194 ((x0.1, x0.2, x1.1, x1.2) : List Int × Int × List Int × Int) = Z126 x0 x1 := by kernel_rfl
theorem Z126.ok : V.Valid Tryz.prog 194 Z126.con :=
  V.fo (V.tab_cons Z27.ok V.tab_nil) Tryz.func194 (by kernel_rfl) (fun x y h => (show V.evBody Z126.E Z126.con Tryz.f194 x = _ from Z126.eq (x.1, x.2.1) x.2.2).trans (V.cfl (by kernel_rfl) h))
noncomputable abbrev Z96.con : V.Con := ⟨V.A4, (.cons .bool .nil), fun (x : V.D4) => Z96 (V.p4_0 x) (V.p4_1 x), [], [(true, 16), (true, 16)], [(false, 1)], [false], []⟩
noncomputable abbrev Z96.E : V.Env := V.mkE V.tys [] [] [] [] [] []
noncomputable abbrev Z96.kt (x0 : THead) (x1 : THead) : V.Kt Bool := V.ktOf Z96.E Z96.con Tryz.f195 (V.fl4 x0 x1)
noncomputable abbrev Z96.s (x0 : THead) (x1 : THead) : V.St := ⟨[(0, .v true (V.lsHead x0)), (1, .v true (V.lsHead x1))], []⟩
theorem Z96.v0 (x0 : THead) (x1 : THead) : V.evBody Z96.E Z96.con Tryz.f195 (V.fl4 x0 x1) = V.evC Z96.E Tryz.f195.ntmps (V.codeOf Tryz.f195) (Z96.kt x0 x1) (Z96.s x0 x1) := by kernel_rfl
theorem Z96.v (x0 : THead) (x1 : THead) : V.evC Z96.E Tryz.f195.ntmps (V.codeOf Tryz.f195) (Z96.kt x0 x1) (Z96.s x0 x1) = Z96 x0 x1 := by kernel_rfl
theorem Z96.eq (x0 : THead) (x1 : THead) : V.evBody Z96.E Z96.con Tryz.f195 (V.fl4 x0 x1) = Z96 x0 x1 := (Z96.v0 x0 x1).trans (Z96.v x0 x1)
theorem Z96.ok : V.Valid Tryz.prog 195 Z96.con :=
  V.fo V.tab_nil Tryz.func195 (by kernel_rfl) (fun x y h => (show V.evBody Z96.E Z96.con Tryz.f195 x = _ from Z96.eq (V.p4_0 x) (V.p4_1 x)).trans (V.cfl (by kernel_rfl) h))
noncomputable abbrev Z8.con : V.Con := ⟨V.A5, (.cons (.int .i64) .nil), fun (x : V.D5) => Z8 (V.p5_0 x) (V.p5_1 x), [], [(true, 16), (true, 17)], [(false, 1)], [false], []⟩
noncomputable abbrev Z8.E : V.Env := V.mkE V.tys [(148, Z91.con), (169, Z119.con), (194, Z126.con), (195, Z96.con)] [(11, [2, 3, 5, 11], []), (15, [2, 3, 25], [])] [] [] [] []
noncomputable abbrev Z8.kt (x0 : THead) (x1 : TSigned) : V.Kt Int := V.ktOf Z8.E Z8.con Tryz.f175 (V.fl5 x0 x1)
noncomputable abbrev Z8.s15 (x0 : THead) (x1 : TSigned) (v15_0 : Bool) : V.St := ⟨[(2, .v false [.ptr 64000 0]), (3, .v false [.ptr 64064 0]), (25, .v false [.val (.bool v15_0)])], [(64000, .box (V.lsHead x0)), (64064, .box (V.lsSigned x1))]⟩
noncomputable abbrev Z8.s11 (x0 : THead) (x1 : TSigned) (v11_0 : Bool) : V.St := ⟨[(2, .v false [.ptr 64000 0]), (3, .v false [.ptr 64064 0]), (5, .v false [.ptr 128128 0]), (11, .v false [.val (.bool v11_0)])], [(64000, .box (V.lsHead x0)), (64064, .box (V.lsSigned x1)), (128128, .box [.val (.int .i64 x1.1), .val (.int .i64 x1.2.1), .val (.int .i64 x1.2.2.1), .val (.int .i64 x1.2.2.2.1), .val (.int .i64 x1.2.2.2.2.1), .val (.int .i64 x1.2.2.2.2.2.1), .val (.int .i64 x1.2.2.2.2.2.2.1), .val (.int .i64 x1.2.2.2.2.2.2.2.1), .val (.sl (.cons (.int .i64) .nil) x1.2.2.2.2.2.2.2.2.1), .val (.int .i64 x1.2.2.2.2.2.2.2.2.2.1), .val (.sl (.cons (.int .i64) .nil) x1.2.2.2.2.2.2.2.2.2.2.1), .val (.int .i64 x1.2.2.2.2.2.2.2.2.2.2.2.1), .val (.int .i64 x1.2.2.2.2.2.2.2.2.2.2.2.2.1), .val (.sl (.cons (.int .i64) .nil) x1.2.2.2.2.2.2.2.2.2.2.2.2.2.1), .val (.int .i64 x1.2.2.2.2.2.2.2.2.2.2.2.2.2.2.1), .val (.bool x1.2.2.2.2.2.2.2.2.2.2.2.2.2.2.2.1)])]⟩
theorem Z8.r15 (x0 : THead) (x1 : TSigned) (v15_0 : Bool) : V.joinF Z8.E Tryz.f175.ntmps [1, 1, 0, 0, 1, 1, 1, 1] [] (V.codeOf Tryz.f175) (Z8.kt x0 x1) (Z8.s15 x0 x1 v15_0) = Z8.g15 x0 x1 v15_0 := by kernel_rfl
theorem Z8.e15 (x0 : THead) (x1 : TSigned) (v15_0 : Bool) : V.jn (V.joinF Z8.E Tryz.f175.ntmps [1, 1, 0, 0, 1, 1, 1, 1] [] (V.codeOf Tryz.f175) (Z8.kt x0 x1)) (Z8.s15 x0 x1 v15_0) = Z8.l15 x0 x1 v15_0 := by
  rw [V.jn_eq, Z8.r15]
  rfl
theorem Z8.r11 (x0 : THead) (x1 : TSigned) (v11_0 : Bool) : V.joinF Z8.E Tryz.f175.ntmps [1, 1, 0, 0, 1, 1] [] (V.codeOf Tryz.f175) (Z8.kt x0 x1) (Z8.s11 x0 x1 v11_0) = Z8.g11 x0 x1 (fun v15_0 => V.jn (V.joinF Z8.E Tryz.f175.ntmps [1, 1, 0, 0, 1, 1, 1, 1] [] (V.codeOf Tryz.f175) (Z8.kt x0 x1)) (Z8.s15 x0 x1 v15_0)) v11_0 := by kernel_rfl
theorem Z8.e11 (x0 : THead) (x1 : TSigned) (v11_0 : Bool) : V.jn (V.joinF Z8.E Tryz.f175.ntmps [1, 1, 0, 0, 1, 1] [] (V.codeOf Tryz.f175) (Z8.kt x0 x1)) (Z8.s11 x0 x1 v11_0) = Z8.l11 x0 x1 v11_0 := by
  rw [V.jn_eq, Z8.r11]
  simp only [Z8.e15]
  rfl
noncomputable abbrev Z8.s (x0 : THead) (x1 : TSigned) : V.St := ⟨[(0, .v true (V.lsHead x0)), (1, .v true (V.lsSigned x1))], []⟩
theorem Z8.v0 (x0 : THead) (x1 : TSigned) : V.evBody Z8.E Z8.con Tryz.f175 (V.fl5 x0 x1) = V.evC Z8.E Tryz.f175.ntmps (V.codeOf Tryz.f175) (Z8.kt x0 x1) (Z8.s x0 x1) := by kernel_rfl
theorem Z8.v (x0 : THead) (x1 : TSigned) : V.evC Z8.E Tryz.f175.ntmps (V.codeOf Tryz.f175) (Z8.kt x0 x1) (Z8.s x0 x1) = Z8.b x0 x1 (fun v11_0 => V.jn (V.joinF Z8.E Tryz.f175.ntmps [1, 1, 0, 0, 1, 1] [] (V.codeOf Tryz.f175) (Z8.kt x0 x1)) (Z8.s11 x0 x1 v11_0)) := by kernel_rfl
theorem Z8.eq (x0 : THead) (x1 : TSigned) : V.evBody Z8.E Z8.con Tryz.f175 (V.fl5 x0 x1) = Z8 x0 x1 := by
  rw [Z8.v0, Z8.v]
  simp only [Z8.e11]
  rfl
theorem Z8.ok : V.Valid Tryz.prog 175 Z8.con :=
  V.fo (V.tab_cons Z91.ok (V.tab_cons Z119.ok (V.tab_cons Z126.ok (V.tab_cons Z96.ok V.tab_nil)))) Tryz.func175 (by kernel_rfl) (fun x y h => (show V.evBody Z8.E Z8.con Tryz.f175 x = _ from Z8.eq (V.p5_0 x) (V.p5_1 x)).trans (V.cfl (by kernel_rfl) h))
noncomputable abbrev Z9.con : V.Con := ⟨V.A5, (.cons (.int .i64) .nil), fun (x : V.D5) => Z9 (V.p5_0 x) (V.p5_1 x), [], [(true, 16), (true, 17)], [(false, 1)], [false], []⟩
noncomputable abbrev Z9.E : V.Env := V.mkE V.tys [(148, Z91.con), (169, Z119.con), (194, Z126.con), (195, Z96.con)] [(7, [2, 3, 5, 6], []), (13, [2, 3, 37], [])] [] [] [] []
noncomputable abbrev Z9.kt (x0 : THead) (x1 : TSigned) : V.Kt Int := V.ktOf Z9.E Z9.con Tryz.f176 (V.fl5 x0 x1)
noncomputable abbrev Z9.s13 (x0 : THead) (x1 : TSigned) (v13_0 : Bool) : V.St := ⟨[(2, .v false [.ptr 64000 0]), (3, .v false [.ptr 64064 0]), (37, .v false [.val (.bool v13_0)])], [(64000, .box (V.lsHead x0)), (64064, .box (V.lsSigned x1))]⟩
noncomputable abbrev Z9.s7 (x0 : THead) (x1 : TSigned) (v7_0 : Bool) : V.St := ⟨[(2, .v false [.ptr 64000 0]), (3, .v false [.ptr 64064 0]), (5, .v false [.ptr 128128 0]), (6, .v false [.val (.bool v7_0)])], [(64000, .box (V.lsHead x0)), (64064, .box (V.lsSigned x1)), (128128, .box [.val (.int .i64 x1.1), .val (.int .i64 x1.2.1), .val (.int .i64 x1.2.2.1), .val (.int .i64 x1.2.2.2.1), .val (.int .i64 x1.2.2.2.2.1), .val (.int .i64 x1.2.2.2.2.2.1), .val (.int .i64 x1.2.2.2.2.2.2.1), .val (.int .i64 x1.2.2.2.2.2.2.2.1), .val (.sl (.cons (.int .i64) .nil) x1.2.2.2.2.2.2.2.2.1), .val (.int .i64 x1.2.2.2.2.2.2.2.2.2.1), .val (.sl (.cons (.int .i64) .nil) x1.2.2.2.2.2.2.2.2.2.2.1), .val (.int .i64 x1.2.2.2.2.2.2.2.2.2.2.2.1), .val (.int .i64 x1.2.2.2.2.2.2.2.2.2.2.2.2.1), .val (.sl (.cons (.int .i64) .nil) x1.2.2.2.2.2.2.2.2.2.2.2.2.2.1), .val (.int .i64 x1.2.2.2.2.2.2.2.2.2.2.2.2.2.2.1), .val (.bool x1.2.2.2.2.2.2.2.2.2.2.2.2.2.2.2.1)])]⟩
theorem Z9.r13 (x0 : THead) (x1 : TSigned) (v13_0 : Bool) : V.joinF Z9.E Tryz.f176.ntmps [1, 1, 1, 0, 0, 1, 1] [] (V.codeOf Tryz.f176) (Z9.kt x0 x1) (Z9.s13 x0 x1 v13_0) = Z9.g13 x0 x1 v13_0 := by kernel_rfl
theorem Z9.e13 (x0 : THead) (x1 : TSigned) (v13_0 : Bool) : V.jn (V.joinF Z9.E Tryz.f176.ntmps [1, 1, 1, 0, 0, 1, 1] [] (V.codeOf Tryz.f176) (Z9.kt x0 x1)) (Z9.s13 x0 x1 v13_0) = Z9.l13 x0 x1 v13_0 := by
  rw [V.jn_eq, Z9.r13]
  rfl
theorem Z9.r7 (x0 : THead) (x1 : TSigned) (v7_0 : Bool) : V.joinF Z9.E Tryz.f176.ntmps [1, 1] [] (V.codeOf Tryz.f176) (Z9.kt x0 x1) (Z9.s7 x0 x1 v7_0) = Z9.g7 x0 x1 (fun v13_0 => V.jn (V.joinF Z9.E Tryz.f176.ntmps [1, 1, 1, 0, 0, 1, 1] [] (V.codeOf Tryz.f176) (Z9.kt x0 x1)) (Z9.s13 x0 x1 v13_0)) v7_0 := by kernel_rfl
theorem Z9.e7 (x0 : THead) (x1 : TSigned) (v7_0 : Bool) : V.jn (V.joinF Z9.E Tryz.f176.ntmps [1, 1] [] (V.codeOf Tryz.f176) (Z9.kt x0 x1)) (Z9.s7 x0 x1 v7_0) = Z9.l7 x0 x1 v7_0 := by
  rw [V.jn_eq, Z9.r7]
  simp only [Z9.e13]
  rfl
noncomputable abbrev Z9.s (x0 : THead) (x1 : TSigned) : V.St := ⟨[(0, .v true (V.lsHead x0)), (1, .v true (V.lsSigned x1))], []⟩
theorem Z9.v0 (x0 : THead) (x1 : TSigned) : V.evBody Z9.E Z9.con Tryz.f176 (V.fl5 x0 x1) = V.evC Z9.E Tryz.f176.ntmps (V.codeOf Tryz.f176) (Z9.kt x0 x1) (Z9.s x0 x1) := by kernel_rfl
theorem Z9.v (x0 : THead) (x1 : TSigned) : V.evC Z9.E Tryz.f176.ntmps (V.codeOf Tryz.f176) (Z9.kt x0 x1) (Z9.s x0 x1) = Z9.b x0 x1 (fun v7_0 => V.jn (V.joinF Z9.E Tryz.f176.ntmps [1, 1] [] (V.codeOf Tryz.f176) (Z9.kt x0 x1)) (Z9.s7 x0 x1 v7_0)) := by kernel_rfl
theorem Z9.eq (x0 : THead) (x1 : TSigned) : V.evBody Z9.E Z9.con Tryz.f176 (V.fl5 x0 x1) = Z9 x0 x1 := by
  rw [Z9.v0, Z9.v]
  simp only [Z9.e7]
  rfl
theorem Z9.ok : V.Valid Tryz.prog 176 Z9.con :=
  V.fo (V.tab_cons Z91.ok (V.tab_cons Z119.ok (V.tab_cons Z126.ok (V.tab_cons Z96.ok V.tab_nil)))) Tryz.func176 (by kernel_rfl) (fun x y h => (show V.evBody Z9.E Z9.con Tryz.f176 x = _ from Z9.eq (V.p5_0 x) (V.p5_1 x)).trans (V.cfl (by kernel_rfl) h))
noncomputable abbrev Z30.con : V.Con := ⟨V.A5, (.cons (.int .i64) .nil), fun (x : V.D5) => Z30 (V.p5_0 x) (V.p5_1 x), [], [(true, 16), (true, 17)], [(false, 1)], [false], []⟩
noncomputable abbrev Z30.E : V.Env := V.mkE V.tys [(146, Z93.con), (173, Z108.con), (174, Z109.con), (175, Z8.con), (176, Z9.con)] [(5, [2, 3, 5], [])] [] [] [] []
noncomputable abbrev Z30.kt (x0 : THead) (x1 : TSigned) : V.Kt Int := V.ktOf Z30.E Z30.con Tryz.f149 (V.fl5 x0 x1)
noncomputable abbrev Z30.s5 (x0 : THead) (x1 : TSigned) (v5_0 : Bool) : V.St := ⟨[(2, .v false [.ptr 64000 0]), (3, .v false [.ptr 64064 0]), (5, .v false [.val (.bool v5_0)])], [(64000, .box (V.lsHead x0)), (64064, .box (V.lsSigned x1))]⟩
theorem Z30.r5 (x0 : THead) (x1 : TSigned) (v5_0 : Bool) : V.joinF Z30.E Tryz.f149.ntmps [1, 0, 0] [] (V.codeOf Tryz.f149) (Z30.kt x0 x1) (Z30.s5 x0 x1 v5_0) = Z30.g5 x0 x1 v5_0 := by kernel_rfl
theorem Z30.e5 (x0 : THead) (x1 : TSigned) (v5_0 : Bool) : V.jn (V.joinF Z30.E Tryz.f149.ntmps [1, 0, 0] [] (V.codeOf Tryz.f149) (Z30.kt x0 x1)) (Z30.s5 x0 x1 v5_0) = Z30.l5 x0 x1 v5_0 := by
  rw [V.jn_eq, Z30.r5]
  rfl
noncomputable abbrev Z30.s (x0 : THead) (x1 : TSigned) : V.St := ⟨[(0, .v true (V.lsHead x0)), (1, .v true (V.lsSigned x1))], []⟩
theorem Z30.v0 (x0 : THead) (x1 : TSigned) : V.evBody Z30.E Z30.con Tryz.f149 (V.fl5 x0 x1) = V.evC Z30.E Tryz.f149.ntmps (V.codeOf Tryz.f149) (Z30.kt x0 x1) (Z30.s x0 x1) := by kernel_rfl
theorem Z30.v (x0 : THead) (x1 : TSigned) : V.evC Z30.E Tryz.f149.ntmps (V.codeOf Tryz.f149) (Z30.kt x0 x1) (Z30.s x0 x1) = Z30.b x0 x1 (fun v5_0 => V.jn (V.joinF Z30.E Tryz.f149.ntmps [1, 0, 0] [] (V.codeOf Tryz.f149) (Z30.kt x0 x1)) (Z30.s5 x0 x1 v5_0)) := by kernel_rfl
theorem Z30.eq (x0 : THead) (x1 : TSigned) : V.evBody Z30.E Z30.con Tryz.f149 (V.fl5 x0 x1) = Z30 x0 x1 := by
  rw [Z30.v0, Z30.v]
  simp only [Z30.e5]
  rfl
theorem Z30.ok : V.Valid Tryz.prog 149 Z30.con :=
  V.fo (V.tab_cons Z93.ok (V.tab_cons Z108.ok (V.tab_cons Z109.ok (V.tab_cons Z8.ok (V.tab_cons Z9.ok V.tab_nil))))) Tryz.func149 (by kernel_rfl) (fun x y h => (show V.evBody Z30.E Z30.con Tryz.f149 x = _ from Z30.eq (V.p5_0 x) (V.p5_1 x)).trans (V.cfl (by kernel_rfl) h))
noncomputable abbrev Z106.con : V.Con := ⟨V.A5, (.cons .bool .nil), fun (x : V.D5) => Z106 (V.p5_0 x) (V.p5_1 x), [], [(true, 16), (true, 17)], [(false, 1)], [false], []⟩
noncomputable abbrev Z106.E : V.Env := V.mkE V.tys [(149, Z30.con)] [] [] [] [] []
noncomputable abbrev Z106.kt (x0 : THead) (x1 : TSigned) : V.Kt Bool := V.ktOf Z106.E Z106.con Tryz.f129 (V.fl5 x0 x1)
noncomputable abbrev Z106.s (x0 : THead) (x1 : TSigned) : V.St := ⟨[(0, .v true (V.lsHead x0)), (1, .v true (V.lsSigned x1))], []⟩
theorem Z106.v0 (x0 : THead) (x1 : TSigned) : V.evBody Z106.E Z106.con Tryz.f129 (V.fl5 x0 x1) = V.evC Z106.E Tryz.f129.ntmps (V.codeOf Tryz.f129) (Z106.kt x0 x1) (Z106.s x0 x1) := by kernel_rfl
theorem Z106.v (x0 : THead) (x1 : TSigned) : V.evC Z106.E Tryz.f129.ntmps (V.codeOf Tryz.f129) (Z106.kt x0 x1) (Z106.s x0 x1) = Z106 x0 x1 := by kernel_rfl
theorem Z106.eq (x0 : THead) (x1 : TSigned) : V.evBody Z106.E Z106.con Tryz.f129 (V.fl5 x0 x1) = Z106 x0 x1 := (Z106.v0 x0 x1).trans (Z106.v x0 x1)
theorem Z106.ok : V.Valid Tryz.prog 129 Z106.con :=
  V.fo (V.tab_cons Z30.ok V.tab_nil) Tryz.func129 (by kernel_rfl) (fun x y h => (show V.evBody Z106.E Z106.con Tryz.f129 x = _ from Z106.eq (V.p5_0 x) (V.p5_1 x)).trans (V.cfl (by kernel_rfl) h))
noncomputable abbrev Z36.con : V.Con := ⟨(.cons (.sl V.eSigned) .nil), (.cons (.int .i64) .nil), fun (x : List TSigned) => Z36 x, [], [(false, 1)], [(false, 1)], [false], []⟩
noncomputable abbrev Z36.E : V.Env := V.mkE V.tys [(128, Z105.con), (129, Z106.con)] [(4, [0, 5, 6, 7], [])] [(4, 18)] [] [] []
noncomputable abbrev Z36.kt (x0 : List TSigned) : V.Kt Int := V.ktOf Z36.E Z36.con Tryz.f104 ((x0) : List TSigned)
noncomputable abbrev Z36.s4 (x0 : List TSigned) (v4_2 : Int) (v4_3 : Int) : V.St := ⟨[(0, .v false [.val (.sl V.eSigned x0)]), (5, .v false [.val (.sl V.eSigned x0)]), (6, .v false [.val (.int .i64 v4_2)]), (7, .v false [.val (.int .i64 v4_3)])], []⟩
theorem Z36.r4 (x0 : List TSigned) (R : V.St → Option Int) (v4_2 : Int) (v4_3 : Int) : V.loopF Z36.E Tryz.f104.ntmps [1, 0, 1, 0] [] (V.codeOf Tryz.f104) (Z36.kt x0) R (Z36.s4 x0 v4_2 v4_3) = Z36.g4 x0 (fun v4_2 v4_3 => R (Z36.s4 x0 v4_2 v4_3)) v4_2 v4_3 := by kernel_rfl
theorem Z36.e4 (x0 : List TSigned) : ∀ (n : Nat) (v4_2 : Int) (v4_3 : Int), V.loopN (V.loopF Z36.E Tryz.f104.ntmps [1, 0, 1, 0] [] (V.codeOf Tryz.f104) (Z36.kt x0)) n (Z36.s4 x0 v4_2 v4_3) = Z36.l4 x0 n v4_2 v4_3 := by
  intro n
  induction n with
  | zero => intros; rw [V.loopN_z]; rfl
  | succ n ih =>
    intro v4_2 v4_3
    rw [V.loopN_s, Z36.r4]
    simp only [ih]
    first | exact (Z36.u4 ..).symm | rfl
theorem Z36.v (x0 : List TSigned) : V.evBody Z36.E Z36.con Tryz.f104 ((x0) : List TSigned) = Z36.b x0 (fun v4_2 v4_3 => V.loopN (V.loopF Z36.E Tryz.f104.ntmps [1, 0, 1, 0] [] (V.codeOf Tryz.f104) (Z36.kt x0)) V.KK (Z36.s4 x0 v4_2 v4_3)) := by kernel_rfl
theorem Z36.eq (x0 : List TSigned) : V.evBody Z36.E Z36.con Tryz.f104 ((x0) : List TSigned) = Z36 x0 := by
  rw [Z36.v]
  simp only [Z36.e4]
  rfl
theorem Z36.ok : V.Valid Tryz.prog 104 Z36.con :=
  V.fo (V.tab_cons Z105.ok (V.tab_cons Z106.ok V.tab_nil)) Tryz.func104 (by kernel_rfl) (fun x y h => (show V.evBody Z36.E Z36.con Tryz.f104 x = _ from Z36.eq x).trans (V.cfl (by kernel_rfl) h))
noncomputable abbrev Z164.con : V.Con := ⟨(.cons (.sl V.eSigned) .nil), (.cons .bool .nil), fun (x : List TSigned) => Z164 x, [], [(false, 1)], [(false, 1)], [false], []⟩
noncomputable abbrev Z164.E : V.Env := V.mkE V.tys [(81, Z84.con), (104, Z36.con)] [] [] [] [] []
theorem Z164.eq (x0 : List TSigned) : V.evBody Z164.E Z164.con Tryz.f79 ((x0) : List TSigned) = Z164 x0 := by kernel_rfl
theorem Z164.ok : V.Valid Tryz.prog 79 Z164.con :=
  V.fo (V.tab_cons Z84.ok (V.tab_cons Z36.ok V.tab_nil)) Tryz.func79 (by kernel_rfl) (fun x y h => (show V.evBody Z164.E Z164.con Tryz.f79 x = _ from Z164.eq x).trans (V.cfl (by kernel_rfl) h))
noncomputable abbrev Z139.con : V.Con := ⟨(.cons (.sl V.eSigned) .nil), V.eHead, fun (x : List TSigned) => Z139 x, [], [(false, 1)], [(true, 16)], [false, false, false, false, false, false, false, false, false, false, false, false, false, false, false, false], []⟩
noncomputable abbrev Z139.E : V.Env := V.mkE V.tys [] [] [] [] [] []
theorem Z139.eq (x0 : List TSigned) : V.evBody Z139.E Z139.con Tryz.f78 ((x0) : List TSigned) = Z139 x0 := by kernel_rfl
theorem Z139.ok : V.Valid Tryz.prog 78 Z139.con :=
  V.fo V.tab_nil Tryz.func78 (by kernel_rfl) (fun x y h => (show V.evBody Z139.E Z139.con Tryz.f78 x = _ from Z139.eq x).trans (V.cfl (by kernel_rfl) h))
noncomputable abbrev Z17.con : V.Con := ⟨(.cons .str .nil), (.cons .bool .nil), fun (x : ByteArray) => Z17 x, [], [(false, 1)], [(false, 1)], [false], []⟩
noncomputable abbrev Z17.E : V.Env := V.mkE V.tys [(81, Z84.con)] [(4, [0, 6, 7], [])] [] [] [] []
noncomputable abbrev Z17.kt (x0 : ByteArray) : V.Kt Bool := V.ktOf Z17.E Z17.con Tryz.f55 ((x0) : ByteArray)
noncomputable abbrev Z17.s4 (x0 : ByteArray) (v4_1 : Int) (v4_2 : Int) : V.St := ⟨[(0, .v false [.val (.str x0)]), (6, .v false [.val (.int .i64 v4_1)]), (7, .v false [.val (.int .i64 v4_2)])], []⟩
theorem Z17.r4 (x0 : ByteArray) (R : V.St → Option Bool) (v4_1 : Int) (v4_2 : Int) : V.loopF Z17.E Tryz.f55.ntmps [1, 0, 1, 0] [] (V.codeOf Tryz.f55) (Z17.kt x0) R (Z17.s4 x0 v4_1 v4_2) = Z17.g4 x0 (fun v4_1 v4_2 => R (Z17.s4 x0 v4_1 v4_2)) v4_1 v4_2 := by kernel_rfl
theorem Z17.e4 (x0 : ByteArray) : ∀ (n : Nat) (v4_1 : Int) (v4_2 : Int), V.loopN (V.loopF Z17.E Tryz.f55.ntmps [1, 0, 1, 0] [] (V.codeOf Tryz.f55) (Z17.kt x0)) n (Z17.s4 x0 v4_1 v4_2) = Z17.l4 x0 n v4_1 v4_2 := by
  intro n
  induction n with
  | zero => intros; rw [V.loopN_z]; rfl
  | succ n ih =>
    intro v4_1 v4_2
    rw [V.loopN_s, Z17.r4]
    simp only [ih]
    first | exact (Z17.u4 ..).symm | rfl
theorem Z17.v (x0 : ByteArray) : V.evBody Z17.E Z17.con Tryz.f55 ((x0) : ByteArray) = Z17.b x0 (fun v4_1 v4_2 => V.loopN (V.loopF Z17.E Tryz.f55.ntmps [1, 0, 1, 0] [] (V.codeOf Tryz.f55) (Z17.kt x0)) V.KK (Z17.s4 x0 v4_1 v4_2)) := by kernel_rfl
theorem Z17.eq (x0 : ByteArray) : V.evBody Z17.E Z17.con Tryz.f55 ((x0) : ByteArray) = Z17 x0 := by
  rw [Z17.v]
  simp only [Z17.e4]
  rfl
theorem Z17.ok : V.Valid Tryz.prog 55 Z17.con :=
  V.fo (V.tab_cons Z84.ok V.tab_nil) Tryz.func55 (by kernel_rfl) (fun x y h => (show V.evBody Z17.E Z17.con Tryz.f55 x = _ from Z17.eq x).trans (V.cfl (by kernel_rfl) h))
noncomputable abbrev Z199.con : V.Con := ⟨(.cons .str .nil), (.cons .bool .nil), fun (x : ByteArray) => Z199 x, [], [(false, 1)], [(false, 1)], [false], []⟩
noncomputable abbrev Z199.E : V.Env := V.mkE V.tys [(55, Z17.con)] [] [] [] [] []
theorem Z199.eq (x0 : ByteArray) : V.evBody Z199.E Z199.con Tryz.f155 ((x0) : ByteArray) = Z199 x0 := by kernel_rfl
theorem Z199.ok : V.Valid Tryz.prog 155 Z199.con :=
  V.fo (V.tab_cons Z17.ok V.tab_nil) Tryz.func155 (by kernel_rfl) (fun x y h => (show V.evBody Z199.E Z199.con Tryz.f155 x = _ from Z199.eq x).trans (V.cfl (by kernel_rfl) h))
noncomputable abbrev Z83.con : V.Con := ⟨(.cons (.sl (.cons .str .nil)) (.cons (.fn 155 false .nil .nil) .nil)), (.cons (.int .i64) .nil), fun (x : List ByteArray × (Unit) × (Unit)) => Z83 x.1 x.2, [], [(false, 1), (false, 1)], [(false, 1)], [false], []⟩
noncomputable abbrev Z83.E : V.Env := V.mkE V.tys [(155, Z199.con)] [(4, [0, 1, 7, 8], [])] [] [] [] []
noncomputable abbrev Z83.kt (x0 : List ByteArray) (x1 : (Unit) × (Unit)) : V.Kt Int := V.ktOf Z83.E Z83.con Tryz.f178 ((x0, x1) : List ByteArray × (Unit) × (Unit))
noncomputable abbrev Z83.s4 (x0 : List ByteArray) (v4_1 : Int) (v4_2 : Int) : V.St := ⟨[(0, .v false [.val (.sl (.cons .str .nil) x0)]), (1, .v false [.val (.fn 155 false .nil .nil () ())]), (7, .v false [.val (.int .i64 v4_1)]), (8, .v false [.val (.int .i64 v4_2)])], []⟩
theorem Z83.r4 (x0 : List ByteArray) (x1 : (Unit) × (Unit)) (R : V.St → Option Int) (v4_1 : Int) (v4_2 : Int) : V.loopF Z83.E Tryz.f178.ntmps [1, 0, 1, 0] [] (V.codeOf Tryz.f178) (Z83.kt x0 x1) R (Z83.s4 x0 v4_1 v4_2) = Z83.g4 x0 (fun v4_1 v4_2 => R (Z83.s4 x0 v4_1 v4_2)) v4_1 v4_2 := by kernel_rfl
theorem Z83.e4 (x0 : List ByteArray) (x1 : (Unit) × (Unit)) : ∀ (n : Nat) (v4_1 : Int) (v4_2 : Int), V.loopN (V.loopF Z83.E Tryz.f178.ntmps [1, 0, 1, 0] [] (V.codeOf Tryz.f178) (Z83.kt x0 x1)) n (Z83.s4 x0 v4_1 v4_2) = Z83.l4 x0 n v4_1 v4_2 := by
  intro n
  induction n with
  | zero => intros; rw [V.loopN_z]; rfl
  | succ n ih =>
    intro v4_1 v4_2
    rw [V.loopN_s, Z83.r4]
    simp only [ih]
    first | exact (Z83.u4 ..).symm | rfl
theorem Z83.v (x0 : List ByteArray) (x1 : (Unit) × (Unit)) : V.evBody Z83.E Z83.con Tryz.f178 ((x0, x1) : List ByteArray × (Unit) × (Unit)) = Z83.b x0 x1 (fun v4_1 v4_2 => V.loopN (V.loopF Z83.E Tryz.f178.ntmps [1, 0, 1, 0] [] (V.codeOf Tryz.f178) (Z83.kt x0 x1)) V.KK (Z83.s4 x0 v4_1 v4_2)) := by kernel_rfl
theorem Z83.eq (x0 : List ByteArray) (x1 : (Unit) × (Unit)) : V.evBody Z83.E Z83.con Tryz.f178 ((x0, x1) : List ByteArray × (Unit) × (Unit)) = Z83 x0 x1 := by
  rw [Z83.v]
  simp only [Z83.e4]
  rfl
theorem Z83.ok : V.Valid Tryz.prog 178 Z83.con :=
  V.fo (V.tab_cons Z199.ok V.tab_nil) Tryz.func178 (by kernel_rfl) (fun x y h => (show V.evBody Z83.E Z83.con Tryz.f178 x = _ from Z83.eq x.1 x.2).trans (V.cfl (by kernel_rfl) h))
noncomputable abbrev Z184.con : V.Con := ⟨(.cons (.sl (.cons .str .nil)) (.cons (.fn 155 false .nil .nil) .nil)), (.cons .bool .nil), fun (x : List ByteArray × (Unit) × (Unit)) => Z184 x.1 x.2, [], [(false, 1), (false, 1)], [(false, 1)], [false], []⟩
noncomputable abbrev Z184.E : V.Env := V.mkE V.tys [(178, Z83.con)] [] [] [] [] []
theorem Z184.eq (x0 : List ByteArray) (x1 : (Unit) × (Unit)) : V.evBody Z184.E Z184.con Tryz.f154 ((x0, x1) : List ByteArray × (Unit) × (Unit)) = Z184 x0 x1 := by kernel_rfl
theorem Z184.ok : V.Valid Tryz.prog 154 Z184.con :=
  V.fo (V.tab_cons Z83.ok V.tab_nil) Tryz.func154 (by kernel_rfl) (fun x y h => (show V.evBody Z184.E Z184.con Tryz.f154 x = _ from Z184.eq x.1 x.2).trans (V.cfl (by kernel_rfl) h))
noncomputable abbrev Z166.con : V.Con := ⟨(.cons (.sl (.cons .str .nil)) .nil), (.cons .bool .nil), fun (x : List ByteArray) => Z166 x, [], [(false, 1)], [(false, 1)], [false], []⟩
noncomputable abbrev Z166.E : V.Env := V.mkE V.tys [(81, Z84.con), (154, Z184.con)] [] [] [] [] []
theorem Z166.eq (x0 : List ByteArray) : V.evBody Z166.E Z166.con Tryz.f137 ((x0) : List ByteArray) = Z166 x0 := by kernel_rfl
theorem Z166.ok : V.Valid Tryz.prog 137 Z166.con :=
  V.fo (V.tab_cons Z84.ok (V.tab_cons Z184.ok V.tab_nil)) Tryz.func137 (by kernel_rfl) (fun x y h => (show V.evBody Z166.E Z166.con Tryz.f137 x = _ from Z166.eq x).trans (V.cfl (by kernel_rfl) h))
noncomputable abbrev Z165.con : V.Con := ⟨V.eEntry, (.cons .bool .nil), fun (x : ByteArray × Int × Int × List ByteArray) => Z165 x, [], [(true, 4)], [(false, 1)], [false], []⟩
noncomputable abbrev Z165.E : V.Env := V.mkE V.tys [(55, Z17.con), (81, Z84.con), (136, Z124.con), (137, Z166.con)] [] [] [] [] []
theorem Z165.eq (x0 : TEntry) : V.evBody Z165.E Z165.con Tryz.f110 ((x0.1, x0.2.1, x0.2.2.1, x0.2.2.2) : ByteArray × Int × Int × List ByteArray) = Z165 x0 := by kernel_rfl
theorem Z165.ok : V.Valid Tryz.prog 110 Z165.con :=
  V.fo (V.tab_cons Z17.ok (V.tab_cons Z84.ok (V.tab_cons Z124.ok (V.tab_cons Z166.ok V.tab_nil)))) Tryz.func110 (by kernel_rfl) (fun x y h => (show V.evBody Z165.E Z165.con Tryz.f110 x = _ from Z165.eq x).trans (V.cfl (by kernel_rfl) h))
noncomputable abbrev Z205.con : V.Con := ⟨.cons .str (.cons .str .nil), .cons (.int .i64) .nil, fun (x : ByteArray × ByteArray) => Z205 x.1 x.2, [], [(false, 1), (false, 1)], [(false, 1)], [false], []⟩
theorem Z205.ok : V.Valid Tryz.prog 156 Z205.con :=
  V.cmp_valid (ρ := ⟨fun n => bif Nat.beq n 213 then 156 else 179, fun t => bif Nat.beq t 3 then 3 else 9, fun x => x⟩) { mixed := V.mixed, f213 := by kernel_rfl, f265 := by kernel_rfl, t3 := by kernel_rfl, a3 := fun w => rfl, z3 := fun w => rfl, v3 := fun w => rfl, t9 := by kernel_rfl, a9 := fun w => rfl, z9 := fun w => rfl, v9 := fun w => rfl }
noncomputable abbrev Z204.con : V.Con := ⟨(.cons .str (.cons .str .nil)), (.cons (.int .i64) .nil), fun (x : ByteArray × ByteArray) => Z204 x.1 x.2, [], [(false, 1), (false, 1)], [(false, 1)], [false], []⟩
noncomputable abbrev Z204.E : V.Env := V.mkE V.tys [(156, Z205.con)] [] [] [] [] []
theorem Z204.eq (x0 : ByteArray) (x1 : ByteArray) : V.evBody Z204.E Z204.con Tryz.f138 ((x0, x1) : ByteArray × ByteArray) = Z204 x0 x1 := by kernel_rfl
theorem Z204.ok : V.Valid Tryz.prog 138 Z204.con :=
  V.fo (V.tab_cons Z205.ok V.tab_nil) Tryz.func138 (by kernel_rfl) (fun x y h => (show V.evBody Z204.E Z204.con Tryz.f138 x = _ from Z204.eq x.1 x.2).trans (V.cfl (by kernel_rfl) h))
noncomputable abbrev Z137.con : V.Con := ⟨(.cons .str (.cons .str .nil)), (.cons (.int .i64) .nil), fun (x : ByteArray × ByteArray) => Z137 x.1 x.2, [], [(false, 1), (false, 1)], [(false, 1)], [false], []⟩
noncomputable abbrev Z137.E : V.Env := V.mkE V.tys [(138, Z204.con)] [] [] [] [] []
theorem Z137.eq (x0 : ByteArray) (x1 : ByteArray) : V.evBody Z137.E Z137.con Tryz.f111 ((x0, x1) : ByteArray × ByteArray) = Z137 x0 x1 := by kernel_rfl
theorem Z137.ok : V.Valid Tryz.prog 111 Z137.con :=
  V.fo (V.tab_cons Z204.ok V.tab_nil) Tryz.func111 (by kernel_rfl) (fun x y h => (show V.evBody Z137.E Z137.con Tryz.f111 x = _ from Z137.eq x.1 x.2).trans (V.cfl (by kernel_rfl) h))
noncomputable abbrev Z23.con : V.Con := ⟨(.cons (.sl V.eEntry) .nil), (.cons .bool .nil), fun (x : List TEntry) => Z23 x, [], [(false, 1)], [(false, 1)], [false], []⟩
noncomputable abbrev Z23.E : V.Env := V.mkE V.tys [(110, Z165.con), (111, Z137.con)] [(4, [0, 5, 6, 7], [])] [(4, 15)] [] [] []
noncomputable abbrev Z23.kt (x0 : List TEntry) : V.Kt Bool := V.ktOf Z23.E Z23.con Tryz.f88 ((x0) : List TEntry)
noncomputable abbrev Z23.s4 (x0 : List TEntry) (v4_2 : Int) (v4_3 : Int) : V.St := ⟨[(0, .v false [.val (.sl V.eEntry x0)]), (5, .v false [.val (.sl V.eEntry x0)]), (6, .v false [.val (.int .i64 v4_2)]), (7, .v false [.val (.int .i64 v4_3)])], []⟩
theorem Z23.r4 (x0 : List TEntry) (R : V.St → Option Bool) (v4_2 : Int) (v4_3 : Int) : V.loopF Z23.E Tryz.f88.ntmps [1, 0, 1, 0] [] (V.codeOf Tryz.f88) (Z23.kt x0) R (Z23.s4 x0 v4_2 v4_3) = Z23.g4 x0 (fun v4_2 v4_3 => R (Z23.s4 x0 v4_2 v4_3)) v4_2 v4_3 := by kernel_rfl
theorem Z23.e4 (x0 : List TEntry) : ∀ (n : Nat) (v4_2 : Int) (v4_3 : Int), V.loopN (V.loopF Z23.E Tryz.f88.ntmps [1, 0, 1, 0] [] (V.codeOf Tryz.f88) (Z23.kt x0)) n (Z23.s4 x0 v4_2 v4_3) = Z23.l4 x0 n v4_2 v4_3 := by
  intro n
  induction n with
  | zero => intros; rw [V.loopN_z]; rfl
  | succ n ih =>
    intro v4_2 v4_3
    rw [V.loopN_s, Z23.r4]
    simp only [ih]
    first | exact (Z23.u4 ..).symm | rfl
theorem Z23.v (x0 : List TEntry) : V.evBody Z23.E Z23.con Tryz.f88 ((x0) : List TEntry) = Z23.b x0 (fun v4_2 v4_3 => V.loopN (V.loopF Z23.E Tryz.f88.ntmps [1, 0, 1, 0] [] (V.codeOf Tryz.f88) (Z23.kt x0)) V.KK (Z23.s4 x0 v4_2 v4_3)) := by kernel_rfl
theorem Z23.eq (x0 : List TEntry) : V.evBody Z23.E Z23.con Tryz.f88 ((x0) : List TEntry) = Z23 x0 := by
  rw [Z23.v]
  simp only [Z23.e4]
  rfl
theorem Z23.ok : V.Valid Tryz.prog 88 Z23.con :=
  V.fo (V.tab_cons Z165.ok (V.tab_cons Z137.ok V.tab_nil)) Tryz.func88 (by kernel_rfl) (fun x y h => (show V.evBody Z23.E Z23.con Tryz.f88 x = _ from Z23.eq x).trans (V.cfl (by kernel_rfl) h))
noncomputable abbrev Z58.con : V.Con := ⟨(.cons (.sl (.cons (.int .u8) .nil)) .nil), (.cons (.sl (.cons (.int .i64) .nil)) .nil), fun (x : List Int) => Z58 x, [], [(false, 1)], [(false, 1)], [true], []⟩
noncomputable abbrev Z58.E : V.Env := V.mkE V.tys [] [(6, [3, 9, 10, 11], [])] [] [] [] []
noncomputable abbrev Z58.kt (x0 : List Int) : V.Kt (List Int) := V.ktOf Z58.E Z58.con Tryz.f177 ((x0) : List Int)
noncomputable abbrev Z58.s6 (x0 : List Int) (v6_1 : Int) (v6_2 : Int) (v6_3 : List Int) : V.St := ⟨[(3, .v false [.ref 64000038400192]), (9, .v false [.val (.sl (.cons (.int .u8) .nil) x0)]), (10, .v false [.val (.int .i64 v6_1)]), (11, .v false [.val (.int .i64 v6_2)])], [(64000038400192, .row (.cons (.int .i64) .nil) true v6_3)]⟩
theorem Z58.r6 (x0 : List Int) (R : V.St → Option (List Int)) (v6_1 : Int) (v6_2 : Int) (v6_3 : List Int) : V.loopF Z58.E Tryz.f177.ntmps [1, 1, 0, 1, 0] [] (V.codeOf Tryz.f177) (Z58.kt x0) R (Z58.s6 x0 v6_1 v6_2 v6_3) = Z58.g6 x0 (fun v6_1 v6_2 v6_3 => R (Z58.s6 x0 v6_1 v6_2 v6_3)) v6_1 v6_2 v6_3 := by kernel_rfl
theorem Z58.e6 (x0 : List Int) : ∀ (n : Nat) (v6_1 : Int) (v6_2 : Int) (v6_3 : List Int), V.loopN (V.loopF Z58.E Tryz.f177.ntmps [1, 1, 0, 1, 0] [] (V.codeOf Tryz.f177) (Z58.kt x0)) n (Z58.s6 x0 v6_1 v6_2 v6_3) = Z58.l6 x0 n v6_1 v6_2 v6_3 := by
  intro n
  induction n with
  | zero => intros; rw [V.loopN_z]; rfl
  | succ n ih =>
    intro v6_1 v6_2 v6_3
    rw [V.loopN_s, Z58.r6]
    simp only [ih]
    first | exact (Z58.u6 ..).symm | rfl
theorem Z58.v (x0 : List Int) : V.evBody Z58.E Z58.con Tryz.f177 ((x0) : List Int) = Z58.b x0 (fun v6_1 v6_2 v6_3 => V.loopN (V.loopF Z58.E Tryz.f177.ntmps [1, 1, 0, 1, 0] [] (V.codeOf Tryz.f177) (Z58.kt x0)) V.KK (Z58.s6 x0 v6_1 v6_2 v6_3)) := by kernel_rfl
theorem Z58.eq (x0 : List Int) : V.evBody Z58.E Z58.con Tryz.f177 ((x0) : List Int) = Z58 x0 := by
  rw [Z58.v]
  simp only [Z58.e6]
  rfl
theorem Z58.ok : V.Valid Tryz.prog 177 Z58.con :=
  V.fo V.tab_nil Tryz.func177 (by kernel_rfl) (fun x y h => (show V.evBody Z58.E Z58.con Tryz.f177 x = _ from Z58.eq x).trans (V.cfl (by kernel_rfl) h))
noncomputable abbrev Z143.con : V.Con := ⟨(.cons .str .nil), (.cons (.sl (.cons (.int .i64) .nil)) .nil), fun (x : ByteArray) => Z143 x, [], [(false, 1)], [(false, 1)], [true], []⟩
noncomputable abbrev Z143.E : V.Env := V.mkE V.tys [(177, Z58.con)] [] [] [] [] []
theorem Z143.eq (x0 : ByteArray) : V.evBody Z143.E Z143.con Tryz.f153 ((x0) : ByteArray) = Z143 x0 := by kernel_rfl
theorem Z143.ok : V.Valid Tryz.prog 153 Z143.con :=
  V.fo (V.tab_cons Z58.ok V.tab_nil) Tryz.func153 (by kernel_rfl) (fun x y h => (show V.evBody Z143.E Z143.con Tryz.f153 x = _ from Z143.eq x).trans (V.cfl (by kernel_rfl) h))
end Go.Proofs.YtddgjofdkdmmmaaGreat
