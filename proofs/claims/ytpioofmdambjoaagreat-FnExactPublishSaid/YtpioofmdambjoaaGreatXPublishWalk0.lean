/- That the functions compute it. -/
import Derived.Test.YtpioofmdambjoaaGreatXPublishPure0
import Derived.Test.YtpioofmdambjoaaGreatProg
namespace Go.Proofs.YtpioofmdambjoaaGreat
set_option linter.unusedVariables false
set_option maxRecDepth 100000
namespace V
abbrev eEntry : ETy := (.cons .str (.cons (.int .i64) (.cons (.int .i64) (.cons (.sl (.cons .str .nil)) .nil))))
abbrev eHead : ETy := (.cons (.int .i64) (.cons (.int .i64) (.cons (.int .i64) (.cons (.int .i64) (.cons (.int .i64) (.cons (.int .i64) (.cons (.int .i64) (.cons (.int .i64) (.cons (.sl (.cons (.int .i64) .nil)) (.cons (.int .i64) (.cons (.sl (.cons (.int .i64) .nil)) (.cons (.int .i64) (.cons (.int .i64) (.cons (.sl (.cons (.int .i64) .nil)) (.cons (.int .i64) (.cons .bool .nil))))))))))))))))
abbrev eRHeadBool : ETy := (.cons (.int .i64) (.cons (.int .i64) (.cons (.int .i64) (.cons (.int .i64) (.cons (.int .i64) (.cons (.int .i64) (.cons (.int .i64) (.cons (.int .i64) (.cons (.sl (.cons (.int .i64) .nil)) (.cons (.int .i64) (.cons (.sl (.cons (.int .i64) .nil)) (.cons (.int .i64) (.cons (.int .i64) (.cons (.sl (.cons (.int .i64) .nil)) (.cons (.int .i64) (.cons .bool (.cons .bool .nil)))))))))))))))))
abbrev eSigned : ETy := (.cons (.int .i64) (.cons (.int .i64) (.cons (.int .i64) (.cons (.int .i64) (.cons (.int .i64) (.cons (.int .i64) (.cons (.int .i64) (.cons (.int .i64) (.cons (.sl (.cons (.int .i64) .nil)) (.cons (.int .i64) (.cons (.sl (.cons (.int .i64) .nil)) (.cons (.int .i64) (.cons (.int .i64) (.cons (.sl (.cons (.int .i64) .nil)) (.cons (.int .i64) (.cons .bool (.cons (.sl (.cons (.int .i64) (.cons (.int .i64) .nil))) .nil)))))))))))))))))
abbrev D0 : Type := Int × Int × Int × Int × Int × Int × Int × Int × List Int × Int × List Int × Int × Int × List Int × Int × Bool × Int
abbrev A0 : ETy := (.cons (.int .i64) (.cons (.int .i64) (.cons (.int .i64) (.cons (.int .i64) (.cons (.int .i64) (.cons (.int .i64) (.cons (.int .i64) (.cons (.int .i64) (.cons (.sl (.cons (.int .i64) .nil)) (.cons (.int .i64) (.cons (.sl (.cons (.int .i64) .nil)) (.cons (.int .i64) (.cons (.int .i64) (.cons (.sl (.cons (.int .i64) .nil)) (.cons (.int .i64) (.cons .bool (.cons (.int .i64) .nil)))))))))))))))))
abbrev fl0 (x0 : THead) (x1 : Int) : D0 := (x0.1, x0.2.1, x0.2.2.1, x0.2.2.2.1, x0.2.2.2.2.1, x0.2.2.2.2.2.1, x0.2.2.2.2.2.2.1, x0.2.2.2.2.2.2.2.1, x0.2.2.2.2.2.2.2.2.1, x0.2.2.2.2.2.2.2.2.2.1, x0.2.2.2.2.2.2.2.2.2.2.1, x0.2.2.2.2.2.2.2.2.2.2.2.1, x0.2.2.2.2.2.2.2.2.2.2.2.2.1, x0.2.2.2.2.2.2.2.2.2.2.2.2.2.1, x0.2.2.2.2.2.2.2.2.2.2.2.2.2.2.1, x0.2.2.2.2.2.2.2.2.2.2.2.2.2.2.2, x1)
abbrev p0_0 (x : D0) : THead := (x.1, x.2.1, x.2.2.1, x.2.2.2.1, x.2.2.2.2.1, x.2.2.2.2.2.1, x.2.2.2.2.2.2.1, x.2.2.2.2.2.2.2.1, x.2.2.2.2.2.2.2.2.1, x.2.2.2.2.2.2.2.2.2.1, x.2.2.2.2.2.2.2.2.2.2.1, x.2.2.2.2.2.2.2.2.2.2.2.1, x.2.2.2.2.2.2.2.2.2.2.2.2.1, x.2.2.2.2.2.2.2.2.2.2.2.2.2.1, x.2.2.2.2.2.2.2.2.2.2.2.2.2.2.1, x.2.2.2.2.2.2.2.2.2.2.2.2.2.2.2.1)
abbrev p0_1 (x : D0) : Int := x.2.2.2.2.2.2.2.2.2.2.2.2.2.2.2.2
abbrev D1 : Type := Int × Int × Int × Int × Int × Int × Int × Int × List Int × Int × List Int × Int × Int × List Int × Int × Bool × List TSig × Int
abbrev A1 : ETy := (.cons (.int .i64) (.cons (.int .i64) (.cons (.int .i64) (.cons (.int .i64) (.cons (.int .i64) (.cons (.int .i64) (.cons (.int .i64) (.cons (.int .i64) (.cons (.sl (.cons (.int .i64) .nil)) (.cons (.int .i64) (.cons (.sl (.cons (.int .i64) .nil)) (.cons (.int .i64) (.cons (.int .i64) (.cons (.sl (.cons (.int .i64) .nil)) (.cons (.int .i64) (.cons .bool (.cons (.sl (.cons (.int .i64) (.cons (.int .i64) .nil))) (.cons (.int .i64) .nil))))))))))))))))))
abbrev fl1 (x0 : TSigned) (x1 : Int) : D1 := (x0.1, x0.2.1, x0.2.2.1, x0.2.2.2.1, x0.2.2.2.2.1, x0.2.2.2.2.2.1, x0.2.2.2.2.2.2.1, x0.2.2.2.2.2.2.2.1, x0.2.2.2.2.2.2.2.2.1, x0.2.2.2.2.2.2.2.2.2.1, x0.2.2.2.2.2.2.2.2.2.2.1, x0.2.2.2.2.2.2.2.2.2.2.2.1, x0.2.2.2.2.2.2.2.2.2.2.2.2.1, x0.2.2.2.2.2.2.2.2.2.2.2.2.2.1, x0.2.2.2.2.2.2.2.2.2.2.2.2.2.2.1, x0.2.2.2.2.2.2.2.2.2.2.2.2.2.2.2.1, x0.2.2.2.2.2.2.2.2.2.2.2.2.2.2.2.2, x1)
abbrev p1_0 (x : D1) : TSigned := (x.1, x.2.1, x.2.2.1, x.2.2.2.1, x.2.2.2.2.1, x.2.2.2.2.2.1, x.2.2.2.2.2.2.1, x.2.2.2.2.2.2.2.1, x.2.2.2.2.2.2.2.2.1, x.2.2.2.2.2.2.2.2.2.1, x.2.2.2.2.2.2.2.2.2.2.1, x.2.2.2.2.2.2.2.2.2.2.2.1, x.2.2.2.2.2.2.2.2.2.2.2.2.1, x.2.2.2.2.2.2.2.2.2.2.2.2.2.1, x.2.2.2.2.2.2.2.2.2.2.2.2.2.2.1, x.2.2.2.2.2.2.2.2.2.2.2.2.2.2.2.1, x.2.2.2.2.2.2.2.2.2.2.2.2.2.2.2.2.1)
abbrev p1_1 (x : D1) : Int := x.2.2.2.2.2.2.2.2.2.2.2.2.2.2.2.2.2
abbrev D2 : Type := Int × Int × Int × Int × Int × Int × Int × Int × List Int × Int × List Int × Int × Int × List Int × Int × Bool
abbrev A2 : ETy := eHead
abbrev fl2 (x0 : THead) : D2 := (x0.1, x0.2.1, x0.2.2.1, x0.2.2.2.1, x0.2.2.2.2.1, x0.2.2.2.2.2.1, x0.2.2.2.2.2.2.1, x0.2.2.2.2.2.2.2.1, x0.2.2.2.2.2.2.2.2.1, x0.2.2.2.2.2.2.2.2.2.1, x0.2.2.2.2.2.2.2.2.2.2.1, x0.2.2.2.2.2.2.2.2.2.2.2.1, x0.2.2.2.2.2.2.2.2.2.2.2.2.1, x0.2.2.2.2.2.2.2.2.2.2.2.2.2.1, x0.2.2.2.2.2.2.2.2.2.2.2.2.2.2.1, x0.2.2.2.2.2.2.2.2.2.2.2.2.2.2.2)
abbrev p2_0 (x : D2) : THead := x
abbrev D3 : Type := Int × Int × Int × Int × Int × Int × Int × Int × List Int × Int × List Int × Int × Int × List Int × Int × Bool × List TSig
abbrev A3 : ETy := eSigned
abbrev fl3 (x0 : TSigned) : D3 := (x0.1, x0.2.1, x0.2.2.1, x0.2.2.2.1, x0.2.2.2.2.1, x0.2.2.2.2.2.1, x0.2.2.2.2.2.2.1, x0.2.2.2.2.2.2.2.1, x0.2.2.2.2.2.2.2.2.1, x0.2.2.2.2.2.2.2.2.2.1, x0.2.2.2.2.2.2.2.2.2.2.1, x0.2.2.2.2.2.2.2.2.2.2.2.1, x0.2.2.2.2.2.2.2.2.2.2.2.2.1, x0.2.2.2.2.2.2.2.2.2.2.2.2.2.1, x0.2.2.2.2.2.2.2.2.2.2.2.2.2.2.1, x0.2.2.2.2.2.2.2.2.2.2.2.2.2.2.2.1, x0.2.2.2.2.2.2.2.2.2.2.2.2.2.2.2.2)
abbrev p3_0 (x : D3) : TSigned := x
abbrev D4 : Type := Int × Int × Int × Int × Int × Int × Int × Int × List Int × Int × List Int × Int × Int × List Int × Int × Bool × Int × Int × Int × Int × Int × Int × Int × Int × List Int × Int × List Int × Int × Int × List Int × Int × Bool
abbrev A4 : ETy := (.cons (.int .i64) (.cons (.int .i64) (.cons (.int .i64) (.cons (.int .i64) (.cons (.int .i64) (.cons (.int .i64) (.cons (.int .i64) (.cons (.int .i64) (.cons (.sl (.cons (.int .i64) .nil)) (.cons (.int .i64) (.cons (.sl (.cons (.int .i64) .nil)) (.cons (.int .i64) (.cons (.int .i64) (.cons (.sl (.cons (.int .i64) .nil)) (.cons (.int .i64) (.cons .bool (.cons (.int .i64) (.cons (.int .i64) (.cons (.int .i64) (.cons (.int .i64) (.cons (.int .i64) (.cons (.int .i64) (.cons (.int .i64) (.cons (.int .i64) (.cons (.sl (.cons (.int .i64) .nil)) (.cons (.int .i64) (.cons (.sl (.cons (.int .i64) .nil)) (.cons (.int .i64) (.cons (.int .i64) (.cons (.sl (.cons (.int .i64) .nil)) (.cons (.int .i64) (.cons .bool .nil))))))))))))))))))))))))))))))))
abbrev fl4 (x0 : THead) (x1 : THead) : D4 := (x0.1, x0.2.1, x0.2.2.1, x0.2.2.2.1, x0.2.2.2.2.1, x0.2.2.2.2.2.1, x0.2.2.2.2.2.2.1, x0.2.2.2.2.2.2.2.1, x0.2.2.2.2.2.2.2.2.1, x0.2.2.2.2.2.2.2.2.2.1, x0.2.2.2.2.2.2.2.2.2.2.1, x0.2.2.2.2.2.2.2.2.2.2.2.1, x0.2.2.2.2.2.2.2.2.2.2.2.2.1, x0.2.2.2.2.2.2.2.2.2.2.2.2.2.1, x0.2.2.2.2.2.2.2.2.2.2.2.2.2.2.1, x0.2.2.2.2.2.2.2.2.2.2.2.2.2.2.2, x1.1, x1.2.1, x1.2.2.1, x1.2.2.2.1, x1.2.2.2.2.1, x1.2.2.2.2.2.1, x1.2.2.2.2.2.2.1, x1.2.2.2.2.2.2.2.1, x1.2.2.2.2.2.2.2.2.1, x1.2.2.2.2.2.2.2.2.2.1, x1.2.2.2.2.2.2.2.2.2.2.1, x1.2.2.2.2.2.2.2.2.2.2.2.1, x1.2.2.2.2.2.2.2.2.2.2.2.2.1, x1.2.2.2.2.2.2.2.2.2.2.2.2.2.1, x1.2.2.2.2.2.2.2.2.2.2.2.2.2.2.1, x1.2.2.2.2.2.2.2.2.2.2.2.2.2.2.2)
abbrev p4_0 (x : D4) : THead := (x.1, x.2.1, x.2.2.1, x.2.2.2.1, x.2.2.2.2.1, x.2.2.2.2.2.1, x.2.2.2.2.2.2.1, x.2.2.2.2.2.2.2.1, x.2.2.2.2.2.2.2.2.1, x.2.2.2.2.2.2.2.2.2.1, x.2.2.2.2.2.2.2.2.2.2.1, x.2.2.2.2.2.2.2.2.2.2.2.1, x.2.2.2.2.2.2.2.2.2.2.2.2.1, x.2.2.2.2.2.2.2.2.2.2.2.2.2.1, x.2.2.2.2.2.2.2.2.2.2.2.2.2.2.1, x.2.2.2.2.2.2.2.2.2.2.2.2.2.2.2.1)
abbrev p4_1 (x : D4) : THead := x.2.2.2.2.2.2.2.2.2.2.2.2.2.2.2.2
abbrev D5 : Type := Int × Int × Int × Int × Int × Int × Int × Int × List Int × Int × List Int × Int × Int × List Int × Int × Bool × Int × Int × Int × Int × Int × Int × Int × Int × List Int × Int × List Int × Int × Int × List Int × Int × Bool × List TSig
abbrev A5 : ETy := (.cons (.int .i64) (.cons (.int .i64) (.cons (.int .i64) (.cons (.int .i64) (.cons (.int .i64) (.cons (.int .i64) (.cons (.int .i64) (.cons (.int .i64) (.cons (.sl (.cons (.int .i64) .nil)) (.cons (.int .i64) (.cons (.sl (.cons (.int .i64) .nil)) (.cons (.int .i64) (.cons (.int .i64) (.cons (.sl (.cons (.int .i64) .nil)) (.cons (.int .i64) (.cons .bool (.cons (.int .i64) (.cons (.int .i64) (.cons (.int .i64) (.cons (.int .i64) (.cons (.int .i64) (.cons (.int .i64) (.cons (.int .i64) (.cons (.int .i64) (.cons (.sl (.cons (.int .i64) .nil)) (.cons (.int .i64) (.cons (.sl (.cons (.int .i64) .nil)) (.cons (.int .i64) (.cons (.int .i64) (.cons (.sl (.cons (.int .i64) .nil)) (.cons (.int .i64) (.cons .bool (.cons (.sl (.cons (.int .i64) (.cons (.int .i64) .nil))) .nil)))))))))))))))))))))))))))))))))
abbrev fl5 (x0 : THead) (x1 : TSigned) : D5 := (x0.1, x0.2.1, x0.2.2.1, x0.2.2.2.1, x0.2.2.2.2.1, x0.2.2.2.2.2.1, x0.2.2.2.2.2.2.1, x0.2.2.2.2.2.2.2.1, x0.2.2.2.2.2.2.2.2.1, x0.2.2.2.2.2.2.2.2.2.1, x0.2.2.2.2.2.2.2.2.2.2.1, x0.2.2.2.2.2.2.2.2.2.2.2.1, x0.2.2.2.2.2.2.2.2.2.2.2.2.1, x0.2.2.2.2.2.2.2.2.2.2.2.2.2.1, x0.2.2.2.2.2.2.2.2.2.2.2.2.2.2.1, x0.2.2.2.2.2.2.2.2.2.2.2.2.2.2.2, x1.1, x1.2.1, x1.2.2.1, x1.2.2.2.1, x1.2.2.2.2.1, x1.2.2.2.2.2.1, x1.2.2.2.2.2.2.1, x1.2.2.2.2.2.2.2.1, x1.2.2.2.2.2.2.2.2.1, x1.2.2.2.2.2.2.2.2.2.1, x1.2.2.2.2.2.2.2.2.2.2.1, x1.2.2.2.2.2.2.2.2.2.2.2.1, x1.2.2.2.2.2.2.2.2.2.2.2.2.1, x1.2.2.2.2.2.2.2.2.2.2.2.2.2.1, x1.2.2.2.2.2.2.2.2.2.2.2.2.2.2.1, x1.2.2.2.2.2.2.2.2.2.2.2.2.2.2.2.1, x1.2.2.2.2.2.2.2.2.2.2.2.2.2.2.2.2)
abbrev p5_0 (x : D5) : THead := (x.1, x.2.1, x.2.2.1, x.2.2.2.1, x.2.2.2.2.1, x.2.2.2.2.2.1, x.2.2.2.2.2.2.1, x.2.2.2.2.2.2.2.1, x.2.2.2.2.2.2.2.2.1, x.2.2.2.2.2.2.2.2.2.1, x.2.2.2.2.2.2.2.2.2.2.1, x.2.2.2.2.2.2.2.2.2.2.2.1, x.2.2.2.2.2.2.2.2.2.2.2.2.1, x.2.2.2.2.2.2.2.2.2.2.2.2.2.1, x.2.2.2.2.2.2.2.2.2.2.2.2.2.2.1, x.2.2.2.2.2.2.2.2.2.2.2.2.2.2.2.1)
abbrev p5_1 (x : D5) : TSigned := x.2.2.2.2.2.2.2.2.2.2.2.2.2.2.2.2
abbrev D6 : Type := List Int × List Int × Int × Int × Int × Int × Int × Int × Int × Int × Int × List Int × Int × List Int × Int × Int × List Int × Int × Bool
abbrev A6 : ETy := (.cons (.sl (.cons (.int .i64) .nil)) (.cons (.sl (.cons (.int .i64) .nil)) (.cons (.int .i64) (.cons (.int .i64) (.cons (.int .i64) (.cons (.int .i64) (.cons (.int .i64) (.cons (.int .i64) (.cons (.int .i64) (.cons (.int .i64) (.cons (.int .i64) (.cons (.sl (.cons (.int .i64) .nil)) (.cons (.int .i64) (.cons (.sl (.cons (.int .i64) .nil)) (.cons (.int .i64) (.cons (.int .i64) (.cons (.sl (.cons (.int .i64) .nil)) (.cons (.int .i64) (.cons .bool .nil)))))))))))))))))))
abbrev fl6 (x0 : List Int) (x1 : TKeys) (x2 : THead) : D6 := (x0, x1.1, x1.2, x2.1, x2.2.1, x2.2.2.1, x2.2.2.2.1, x2.2.2.2.2.1, x2.2.2.2.2.2.1, x2.2.2.2.2.2.2.1, x2.2.2.2.2.2.2.2.1, x2.2.2.2.2.2.2.2.2.1, x2.2.2.2.2.2.2.2.2.2.1, x2.2.2.2.2.2.2.2.2.2.2.1, x2.2.2.2.2.2.2.2.2.2.2.2.1, x2.2.2.2.2.2.2.2.2.2.2.2.2.1, x2.2.2.2.2.2.2.2.2.2.2.2.2.2.1, x2.2.2.2.2.2.2.2.2.2.2.2.2.2.2.1, x2.2.2.2.2.2.2.2.2.2.2.2.2.2.2.2)
abbrev p6_0 (x : D6) : List Int := x.1
abbrev p6_1 (x : D6) : TKeys := (x.2.1, x.2.2.1)
abbrev p6_2 (x : D6) : THead := x.2.2.2
abbrev D7 : Type := Int × Int × Int × Int × Int × Int × Int × Int × List Int × Int × List Int × Int × Int × List Int × Int × Bool × Int × Int × Int × Int × Int × Int × Int × Int × List Int × Int × List Int × Int × Int × List Int × Int × Bool × List Int
abbrev A7 : ETy := (.cons (.int .i64) (.cons (.int .i64) (.cons (.int .i64) (.cons (.int .i64) (.cons (.int .i64) (.cons (.int .i64) (.cons (.int .i64) (.cons (.int .i64) (.cons (.sl (.cons (.int .i64) .nil)) (.cons (.int .i64) (.cons (.sl (.cons (.int .i64) .nil)) (.cons (.int .i64) (.cons (.int .i64) (.cons (.sl (.cons (.int .i64) .nil)) (.cons (.int .i64) (.cons .bool (.cons (.int .i64) (.cons (.int .i64) (.cons (.int .i64) (.cons (.int .i64) (.cons (.int .i64) (.cons (.int .i64) (.cons (.int .i64) (.cons (.int .i64) (.cons (.sl (.cons (.int .i64) .nil)) (.cons (.int .i64) (.cons (.sl (.cons (.int .i64) .nil)) (.cons (.int .i64) (.cons (.int .i64) (.cons (.sl (.cons (.int .i64) .nil)) (.cons (.int .i64) (.cons .bool (.cons (.sl (.cons (.int .i64) .nil)) .nil)))))))))))))))))))))))))))))))))
abbrev fl7 (x0 : THead) (x1 : THead) (x2 : List Int) : D7 := (x0.1, x0.2.1, x0.2.2.1, x0.2.2.2.1, x0.2.2.2.2.1, x0.2.2.2.2.2.1, x0.2.2.2.2.2.2.1, x0.2.2.2.2.2.2.2.1, x0.2.2.2.2.2.2.2.2.1, x0.2.2.2.2.2.2.2.2.2.1, x0.2.2.2.2.2.2.2.2.2.2.1, x0.2.2.2.2.2.2.2.2.2.2.2.1, x0.2.2.2.2.2.2.2.2.2.2.2.2.1, x0.2.2.2.2.2.2.2.2.2.2.2.2.2.1, x0.2.2.2.2.2.2.2.2.2.2.2.2.2.2.1, x0.2.2.2.2.2.2.2.2.2.2.2.2.2.2.2, x1.1, x1.2.1, x1.2.2.1, x1.2.2.2.1, x1.2.2.2.2.1, x1.2.2.2.2.2.1, x1.2.2.2.2.2.2.1, x1.2.2.2.2.2.2.2.1, x1.2.2.2.2.2.2.2.2.1, x1.2.2.2.2.2.2.2.2.2.1, x1.2.2.2.2.2.2.2.2.2.2.1, x1.2.2.2.2.2.2.2.2.2.2.2.1, x1.2.2.2.2.2.2.2.2.2.2.2.2.1, x1.2.2.2.2.2.2.2.2.2.2.2.2.2.1, x1.2.2.2.2.2.2.2.2.2.2.2.2.2.2.1, x1.2.2.2.2.2.2.2.2.2.2.2.2.2.2.2, x2)
abbrev p7_0 (x : D7) : THead := (x.1, x.2.1, x.2.2.1, x.2.2.2.1, x.2.2.2.2.1, x.2.2.2.2.2.1, x.2.2.2.2.2.2.1, x.2.2.2.2.2.2.2.1, x.2.2.2.2.2.2.2.2.1, x.2.2.2.2.2.2.2.2.2.1, x.2.2.2.2.2.2.2.2.2.2.1, x.2.2.2.2.2.2.2.2.2.2.2.1, x.2.2.2.2.2.2.2.2.2.2.2.2.1, x.2.2.2.2.2.2.2.2.2.2.2.2.2.1, x.2.2.2.2.2.2.2.2.2.2.2.2.2.2.1, x.2.2.2.2.2.2.2.2.2.2.2.2.2.2.2.1)
abbrev p7_1 (x : D7) : THead := (x.2.2.2.2.2.2.2.2.2.2.2.2.2.2.2.2.1, x.2.2.2.2.2.2.2.2.2.2.2.2.2.2.2.2.2.1, x.2.2.2.2.2.2.2.2.2.2.2.2.2.2.2.2.2.2.1, x.2.2.2.2.2.2.2.2.2.2.2.2.2.2.2.2.2.2.2.1, x.2.2.2.2.2.2.2.2.2.2.2.2.2.2.2.2.2.2.2.2.1, x.2.2.2.2.2.2.2.2.2.2.2.2.2.2.2.2.2.2.2.2.2.1, x.2.2.2.2.2.2.2.2.2.2.2.2.2.2.2.2.2.2.2.2.2.2.1, x.2.2.2.2.2.2.2.2.2.2.2.2.2.2.2.2.2.2.2.2.2.2.2.1, x.2.2.2.2.2.2.2.2.2.2.2.2.2.2.2.2.2.2.2.2.2.2.2.2.1, x.2.2.2.2.2.2.2.2.2.2.2.2.2.2.2.2.2.2.2.2.2.2.2.2.2.1, x.2.2.2.2.2.2.2.2.2.2.2.2.2.2.2.2.2.2.2.2.2.2.2.2.2.2.1, x.2.2.2.2.2.2.2.2.2.2.2.2.2.2.2.2.2.2.2.2.2.2.2.2.2.2.2.1, x.2.2.2.2.2.2.2.2.2.2.2.2.2.2.2.2.2.2.2.2.2.2.2.2.2.2.2.2.1, x.2.2.2.2.2.2.2.2.2.2.2.2.2.2.2.2.2.2.2.2.2.2.2.2.2.2.2.2.2.1, x.2.2.2.2.2.2.2.2.2.2.2.2.2.2.2.2.2.2.2.2.2.2.2.2.2.2.2.2.2.2.1, x.2.2.2.2.2.2.2.2.2.2.2.2.2.2.2.2.2.2.2.2.2.2.2.2.2.2.2.2.2.2.2.1)
abbrev p7_2 (x : D7) : List Int := x.2.2.2.2.2.2.2.2.2.2.2.2.2.2.2.2.2.2.2.2.2.2.2.2.2.2.2.2.2.2.2.2
abbrev D8 : Type := List TSigned × Int × Int × Int × Int × Int × Int × Int × Int × List Int × Int × List Int × Int × Int × List Int × Int × Bool × List TSig
abbrev A8 : ETy := (.cons (.sl eSigned) (.cons (.int .i64) (.cons (.int .i64) (.cons (.int .i64) (.cons (.int .i64) (.cons (.int .i64) (.cons (.int .i64) (.cons (.int .i64) (.cons (.int .i64) (.cons (.sl (.cons (.int .i64) .nil)) (.cons (.int .i64) (.cons (.sl (.cons (.int .i64) .nil)) (.cons (.int .i64) (.cons (.int .i64) (.cons (.sl (.cons (.int .i64) .nil)) (.cons (.int .i64) (.cons .bool (.cons (.sl (.cons (.int .i64) (.cons (.int .i64) .nil))) .nil))))))))))))))))))
abbrev fl8 (x0 : List TSigned) (x1 : TSigned) : D8 := (x0, x1.1, x1.2.1, x1.2.2.1, x1.2.2.2.1, x1.2.2.2.2.1, x1.2.2.2.2.2.1, x1.2.2.2.2.2.2.1, x1.2.2.2.2.2.2.2.1, x1.2.2.2.2.2.2.2.2.1, x1.2.2.2.2.2.2.2.2.2.1, x1.2.2.2.2.2.2.2.2.2.2.1, x1.2.2.2.2.2.2.2.2.2.2.2.1, x1.2.2.2.2.2.2.2.2.2.2.2.2.1, x1.2.2.2.2.2.2.2.2.2.2.2.2.2.1, x1.2.2.2.2.2.2.2.2.2.2.2.2.2.2.1, x1.2.2.2.2.2.2.2.2.2.2.2.2.2.2.2.1, x1.2.2.2.2.2.2.2.2.2.2.2.2.2.2.2.2)
abbrev p8_0 (x : D8) : List TSigned := x.1
abbrev p8_1 (x : D8) : TSigned := x.2
abbrev D9 : Type := List TSigned × List TEntry × List Int × Int × Int × Int × Int × Int × Int × Int × Int × List Int × Int × List Int × Int × Int × List Int × Int × Bool × List TEntry
abbrev A9 : ETy := (.cons (.sl eSigned) (.cons (.sl eEntry) (.cons (.sl (.cons (.int .i64) .nil)) (.cons (.int .i64) (.cons (.int .i64) (.cons (.int .i64) (.cons (.int .i64) (.cons (.int .i64) (.cons (.int .i64) (.cons (.int .i64) (.cons (.int .i64) (.cons (.sl (.cons (.int .i64) .nil)) (.cons (.int .i64) (.cons (.sl (.cons (.int .i64) .nil)) (.cons (.int .i64) (.cons (.int .i64) (.cons (.sl (.cons (.int .i64) .nil)) (.cons (.int .i64) (.cons .bool (.cons (.sl eEntry) .nil))))))))))))))))))))
abbrev fl9 (x0 : TZone) (x1 : List Int) (x2 : THead) (x3 : List TEntry) : D9 := (x0.1, x0.2, x1, x2.1, x2.2.1, x2.2.2.1, x2.2.2.2.1, x2.2.2.2.2.1, x2.2.2.2.2.2.1, x2.2.2.2.2.2.2.1, x2.2.2.2.2.2.2.2.1, x2.2.2.2.2.2.2.2.2.1, x2.2.2.2.2.2.2.2.2.2.1, x2.2.2.2.2.2.2.2.2.2.2.1, x2.2.2.2.2.2.2.2.2.2.2.2.1, x2.2.2.2.2.2.2.2.2.2.2.2.2.1, x2.2.2.2.2.2.2.2.2.2.2.2.2.2.1, x2.2.2.2.2.2.2.2.2.2.2.2.2.2.2.1, x2.2.2.2.2.2.2.2.2.2.2.2.2.2.2.2, x3)
abbrev p9_0 (x : D9) : TZone := (x.1, x.2.1)
abbrev p9_1 (x : D9) : List Int := x.2.2.1
abbrev p9_2 (x : D9) : THead := (x.2.2.2.1, x.2.2.2.2.1, x.2.2.2.2.2.1, x.2.2.2.2.2.2.1, x.2.2.2.2.2.2.2.1, x.2.2.2.2.2.2.2.2.1, x.2.2.2.2.2.2.2.2.2.1, x.2.2.2.2.2.2.2.2.2.2.1, x.2.2.2.2.2.2.2.2.2.2.2.1, x.2.2.2.2.2.2.2.2.2.2.2.2.1, x.2.2.2.2.2.2.2.2.2.2.2.2.2.1, x.2.2.2.2.2.2.2.2.2.2.2.2.2.2.1, x.2.2.2.2.2.2.2.2.2.2.2.2.2.2.2.1, x.2.2.2.2.2.2.2.2.2.2.2.2.2.2.2.2.1, x.2.2.2.2.2.2.2.2.2.2.2.2.2.2.2.2.2.1, x.2.2.2.2.2.2.2.2.2.2.2.2.2.2.2.2.2.2.1)
abbrev p9_3 (x : D9) : List TEntry := x.2.2.2.2.2.2.2.2.2.2.2.2.2.2.2.2.2.2.2
abbrev D10 : Type := Int × Int × Int × Int × Int × Int × Int × Int × List Int × Int × List Int × Int × Int × List Int × Int × Bool × List TSig × List Int × Int
abbrev A10 : ETy := (.cons (.int .i64) (.cons (.int .i64) (.cons (.int .i64) (.cons (.int .i64) (.cons (.int .i64) (.cons (.int .i64) (.cons (.int .i64) (.cons (.int .i64) (.cons (.sl (.cons (.int .i64) .nil)) (.cons (.int .i64) (.cons (.sl (.cons (.int .i64) .nil)) (.cons (.int .i64) (.cons (.int .i64) (.cons (.sl (.cons (.int .i64) .nil)) (.cons (.int .i64) (.cons .bool (.cons (.sl (.cons (.int .i64) (.cons (.int .i64) .nil))) (.cons (.sl (.cons (.int .i64) .nil)) (.cons (.int .i64) .nil)))))))))))))))))))
abbrev fl10 (x0 : TSigned) (x1 : TKeys) : D10 := (x0.1, x0.2.1, x0.2.2.1, x0.2.2.2.1, x0.2.2.2.2.1, x0.2.2.2.2.2.1, x0.2.2.2.2.2.2.1, x0.2.2.2.2.2.2.2.1, x0.2.2.2.2.2.2.2.2.1, x0.2.2.2.2.2.2.2.2.2.1, x0.2.2.2.2.2.2.2.2.2.2.1, x0.2.2.2.2.2.2.2.2.2.2.2.1, x0.2.2.2.2.2.2.2.2.2.2.2.2.1, x0.2.2.2.2.2.2.2.2.2.2.2.2.2.1, x0.2.2.2.2.2.2.2.2.2.2.2.2.2.2.1, x0.2.2.2.2.2.2.2.2.2.2.2.2.2.2.2.1, x0.2.2.2.2.2.2.2.2.2.2.2.2.2.2.2.2, x1.1, x1.2)
abbrev p10_0 (x : D10) : TSigned := (x.1, x.2.1, x.2.2.1, x.2.2.2.1, x.2.2.2.2.1, x.2.2.2.2.2.1, x.2.2.2.2.2.2.1, x.2.2.2.2.2.2.2.1, x.2.2.2.2.2.2.2.2.1, x.2.2.2.2.2.2.2.2.2.1, x.2.2.2.2.2.2.2.2.2.2.1, x.2.2.2.2.2.2.2.2.2.2.2.1, x.2.2.2.2.2.2.2.2.2.2.2.2.1, x.2.2.2.2.2.2.2.2.2.2.2.2.2.1, x.2.2.2.2.2.2.2.2.2.2.2.2.2.2.1, x.2.2.2.2.2.2.2.2.2.2.2.2.2.2.2.1, x.2.2.2.2.2.2.2.2.2.2.2.2.2.2.2.2.1)
abbrev p10_1 (x : D10) : TKeys := x.2.2.2.2.2.2.2.2.2.2.2.2.2.2.2.2.2
abbrev D11 : Type := Int × Int × Int × Int × Int × Int × Int × Int × List Int × Int × List Int × Int × Int × List Int × Int × Bool × List TSig × Int × Int × Int × Int × Int × Int × Int × Int × List Int × Int × List Int × Int × Int × List Int × Int × Bool × List TSig
abbrev A11 : ETy := (.cons (.int .i64) (.cons (.int .i64) (.cons (.int .i64) (.cons (.int .i64) (.cons (.int .i64) (.cons (.int .i64) (.cons (.int .i64) (.cons (.int .i64) (.cons (.sl (.cons (.int .i64) .nil)) (.cons (.int .i64) (.cons (.sl (.cons (.int .i64) .nil)) (.cons (.int .i64) (.cons (.int .i64) (.cons (.sl (.cons (.int .i64) .nil)) (.cons (.int .i64) (.cons .bool (.cons (.sl (.cons (.int .i64) (.cons (.int .i64) .nil))) (.cons (.int .i64) (.cons (.int .i64) (.cons (.int .i64) (.cons (.int .i64) (.cons (.int .i64) (.cons (.int .i64) (.cons (.int .i64) (.cons (.int .i64) (.cons (.sl (.cons (.int .i64) .nil)) (.cons (.int .i64) (.cons (.sl (.cons (.int .i64) .nil)) (.cons (.int .i64) (.cons (.int .i64) (.cons (.sl (.cons (.int .i64) .nil)) (.cons (.int .i64) (.cons .bool (.cons (.sl (.cons (.int .i64) (.cons (.int .i64) .nil))) .nil))))))))))))))))))))))))))))))))))
abbrev fl11 (x0 : TSigned) (x1 : TSigned) : D11 := (x0.1, x0.2.1, x0.2.2.1, x0.2.2.2.1, x0.2.2.2.2.1, x0.2.2.2.2.2.1, x0.2.2.2.2.2.2.1, x0.2.2.2.2.2.2.2.1, x0.2.2.2.2.2.2.2.2.1, x0.2.2.2.2.2.2.2.2.2.1, x0.2.2.2.2.2.2.2.2.2.2.1, x0.2.2.2.2.2.2.2.2.2.2.2.1, x0.2.2.2.2.2.2.2.2.2.2.2.2.1, x0.2.2.2.2.2.2.2.2.2.2.2.2.2.1, x0.2.2.2.2.2.2.2.2.2.2.2.2.2.2.1, x0.2.2.2.2.2.2.2.2.2.2.2.2.2.2.2.1, x0.2.2.2.2.2.2.2.2.2.2.2.2.2.2.2.2, x1.1, x1.2.1, x1.2.2.1, x1.2.2.2.1, x1.2.2.2.2.1, x1.2.2.2.2.2.1, x1.2.2.2.2.2.2.1, x1.2.2.2.2.2.2.2.1, x1.2.2.2.2.2.2.2.2.1, x1.2.2.2.2.2.2.2.2.2.1, x1.2.2.2.2.2.2.2.2.2.2.1, x1.2.2.2.2.2.2.2.2.2.2.2.1, x1.2.2.2.2.2.2.2.2.2.2.2.2.1, x1.2.2.2.2.2.2.2.2.2.2.2.2.2.1, x1.2.2.2.2.2.2.2.2.2.2.2.2.2.2.1, x1.2.2.2.2.2.2.2.2.2.2.2.2.2.2.2.1, x1.2.2.2.2.2.2.2.2.2.2.2.2.2.2.2.2)
abbrev p11_0 (x : D11) : TSigned := (x.1, x.2.1, x.2.2.1, x.2.2.2.1, x.2.2.2.2.1, x.2.2.2.2.2.1, x.2.2.2.2.2.2.1, x.2.2.2.2.2.2.2.1, x.2.2.2.2.2.2.2.2.1, x.2.2.2.2.2.2.2.2.2.1, x.2.2.2.2.2.2.2.2.2.2.1, x.2.2.2.2.2.2.2.2.2.2.2.1, x.2.2.2.2.2.2.2.2.2.2.2.2.1, x.2.2.2.2.2.2.2.2.2.2.2.2.2.1, x.2.2.2.2.2.2.2.2.2.2.2.2.2.2.1, x.2.2.2.2.2.2.2.2.2.2.2.2.2.2.2.1, x.2.2.2.2.2.2.2.2.2.2.2.2.2.2.2.2.1)
abbrev p11_1 (x : D11) : TSigned := x.2.2.2.2.2.2.2.2.2.2.2.2.2.2.2.2.2
abbrev tys : List (Nat × TI) := [(3, ⟨.int .i64, false, [.val (.int .i64 (0 : Int))], 8, [], (.cons (.int .i64) .nil)⟩),
  (4, ⟨.bool, false, [.val (.bool false)], 1, [], (.cons .bool .nil)⟩),
  (5, ⟨.int .u8, false, [.val (.int .u8 (0 : Int))], 1, [], (.cons (.int .u8) .nil)⟩),
  (9, ⟨.str, false, [.val (.str (⟨#[]⟩ : ByteArray))], 16, [], (.cons .str .nil)⟩),
  (22, ⟨.sl 3, false, [.nil0], 24, [], (.cons (.sl (.cons (.int .i64) .nil)) .nil)⟩),
  (24, ⟨.st, false, [.nil0, .val (.int .i64 (0 : Int))], 32, [(0, 1, false), (1, 1, false)], (.cons (.sl (.cons (.int .i64) .nil)) (.cons (.int .i64) .nil))⟩),
  (26, ⟨.st, false, [.val (.int .i64 (0 : Int)), .val (.int .i64 (0 : Int)), .val (.int .i64 (0 : Int)), .val (.int .i64 (0 : Int)), .val (.int .i64 (0 : Int)), .val (.int .i64 (0 : Int)), .val (.int .i64 (0 : Int)), .val (.int .i64 (0 : Int)), .nil0, .val (.int .i64 (0 : Int)), .nil0, .val (.int .i64 (0 : Int)), .val (.int .i64 (0 : Int)), .nil0, .val (.int .i64 (0 : Int)), .val (.bool false)], 176, [(0, 1, false), (1, 1, false), (2, 1, false), (3, 1, false), (4, 1, false), (5, 1, false), (6, 1, false), (7, 1, false), (8, 2, true), (10, 2, true), (12, 1, false), (13, 2, true), (15, 1, false)], V.eHead⟩),
  (27, ⟨.sl 108, false, [.nil0], 24, [], (.cons (.sl V.eEntry) .nil)⟩),
  (30, ⟨.st, false, [.nil0, .val (.int .i64 (0 : Int))], 32, [(0, 1, false), (1, 1, false)], (.cons (.sl (.cons (.int .i64) .nil)) (.cons (.int .i64) .nil))⟩),
  (32, ⟨.st, false, [.val (.int .i64 (0 : Int)), .val (.int .i64 (0 : Int)), .val (.int .i64 (0 : Int)), .val (.int .i64 (0 : Int)), .val (.int .i64 (0 : Int)), .val (.int .i64 (0 : Int)), .val (.int .i64 (0 : Int)), .val (.int .i64 (0 : Int)), .nil0, .val (.int .i64 (0 : Int)), .nil0, .val (.int .i64 (0 : Int)), .val (.int .i64 (0 : Int)), .nil0, .val (.int .i64 (0 : Int)), .val (.bool false)], 176, [(0, 1, false), (1, 1, false), (2, 1, false), (3, 1, false), (4, 1, false), (5, 1, false), (6, 1, false), (7, 1, false), (8, 2, true), (10, 2, true), (12, 1, false), (13, 2, true), (15, 1, false)], V.eHead⟩),
  (36, ⟨.sl 117, false, [.nil0], 24, [], (.cons (.sl V.eEntry) .nil)⟩),
  (43, ⟨.sl 154, false, [.nil0], 24, [], (.cons (.sl V.eSigned) .nil)⟩),
  (45, ⟨.sl 67, false, [.nil0], 24, [], (.cons (.sl (.cons (.int .i64) (.cons (.int .i64) .nil))) .nil)⟩),
  (47, ⟨.st, false, [.val (.int .i64 (0 : Int)), .val (.int .i64 (0 : Int)), .val (.int .i64 (0 : Int)), .val (.int .i64 (0 : Int)), .val (.int .i64 (0 : Int)), .val (.int .i64 (0 : Int)), .val (.int .i64 (0 : Int)), .val (.int .i64 (0 : Int)), .nil0, .val (.int .i64 (0 : Int)), .nil0, .val (.int .i64 (0 : Int)), .val (.int .i64 (0 : Int)), .nil0, .val (.int .i64 (0 : Int)), .val (.bool false), .nil0], 200, [(0, 16, true), (16, 1, false)], V.eSigned⟩),
  (52, ⟨.sl 47, false, [.nil0], 24, [], (.cons (.sl V.eSigned) .nil)⟩),
  (67, ⟨.st, true, [.val (.int .i64 (0 : Int)), .val (.int .i64 (0 : Int))], 16, [(0, 1, false), (1, 1, false)], (.cons (.int .i64) (.cons (.int .i64) .nil))⟩),
  (76, ⟨.st, false, [.nil0, .nil0], 48, [(0, 1, false), (1, 1, false)], (.cons (.sl V.eSigned) (.cons (.sl V.eEntry) .nil))⟩),
  (80, ⟨.st, false, [.nil0, .nil0], 48, [(0, 1, false), (1, 1, false)], (.cons (.sl V.eSigned) (.cons (.sl V.eEntry) .nil))⟩),
  (106, ⟨.sl 9, false, [.nil0], 24, [], (.cons (.sl (.cons .str .nil)) .nil)⟩),
  (108, ⟨.st, false, [.val (.str (⟨#[]⟩ : ByteArray)), .val (.int .i64 (0 : Int)), .val (.int .i64 (0 : Int)), .nil0], 56, [(0, 1, false), (1, 1, false), (2, 1, false), (3, 1, false)], V.eEntry⟩),
  (117, ⟨.st, false, [.val (.str (⟨#[]⟩ : ByteArray)), .val (.int .i64 (0 : Int)), .val (.int .i64 (0 : Int)), .nil0], 56, [(0, 1, false), (1, 1, false), (2, 1, false), (3, 1, false)], V.eEntry⟩),
  (152, ⟨.sl 248, false, [.nil0], 24, [], (.cons (.sl (.cons (.int .i64) (.cons (.int .i64) .nil))) .nil)⟩),
  (154, ⟨.st, false, [.val (.int .i64 (0 : Int)), .val (.int .i64 (0 : Int)), .val (.int .i64 (0 : Int)), .val (.int .i64 (0 : Int)), .val (.int .i64 (0 : Int)), .val (.int .i64 (0 : Int)), .val (.int .i64 (0 : Int)), .val (.int .i64 (0 : Int)), .nil0, .val (.int .i64 (0 : Int)), .nil0, .val (.int .i64 (0 : Int)), .val (.int .i64 (0 : Int)), .nil0, .val (.int .i64 (0 : Int)), .val (.bool false), .nil0], 200, [(0, 16, true), (16, 1, false)], V.eSigned⟩),
  (216, ⟨.sl 5, false, [.nil0], 24, [], (.cons (.sl (.cons (.int .u8) .nil)) .nil)⟩),
  (248, ⟨.st, true, [.val (.int .i64 (0 : Int)), .val (.int .i64 (0 : Int))], 16, [(0, 1, false), (1, 1, false)], (.cons (.int .i64) (.cons (.int .i64) .nil))⟩),
  (261, ⟨.sl 22, false, [.nil0], 24, [], (.cons (.sl (.cons (.sl (.cons (.int .i64) .nil)) .nil)) .nil)⟩)]
theorem tysOk : tyAll Tryz.prog tys = true := by kernel_rfl
theorem mixed : Tryz.prog.follows .mixedOrders = true := by kernel_rfl
theorem cfl {α : Type} {a b c : α} (e : a = b) (h : a = c) : b = c := e.symm.trans h
theorem fo {g : Nat} {fn : Func} {con : Con} {tab : List (Nat × Con)} {heads : List (Nat × List Nat × Cv)} {pre : List (Nat × Nat)} {shallow : List Nat} {movs flts : List (Nat × List Nat)} (h : TabOk Tryz.prog tab) (hf : Tryz.prog.funcs[g]? = some fn) (hq : (!(fn.name == "runtime.NumGoroutine") && (!fn.body.isNone && conOk con fn.ntmps)) = true) (hev : ∀ x y, con.f x = some y → evBody (mkE tys tab heads pre shallow movs flts) con fn x = some y) : Valid Tryz.prog g con := by
  simp only [Bool.and_eq_true, Bool.not_eq_true'] at hq
  exact body_ok (env_ok mixed tysOk h) hf hq.1 hq.2.1 hq.2.2 hev
theorem fo2 {g : Nat} {fn : Func} {con : Con} {tab tab2 : List (Nat × Con)} {sites : List Nat} {heads : List (Nat × List Nat × Cv)} {pre : List (Nat × Nat)} {shallow : List Nat} {movs flts : List (Nat × List Nat)} (h : TabOk Tryz.prog tab) (h2 : TabOk Tryz.prog tab2) (hf : Tryz.prog.funcs[g]? = some fn) (hq : (!(fn.name == "runtime.NumGoroutine") && (!fn.body.isNone && conOk con fn.ntmps)) = true) (hev : ∀ x y, con.f x = some y → evBody (mkE2 tys tab sites tab2 heads pre shallow movs flts) con fn x = some y) : Valid Tryz.prog g con := by
  simp only [Bool.and_eq_true, Bool.not_eq_true'] at hq
  exact body_ok (env_ok2 mixed tysOk h h2) hf hq.1 hq.2.1 hq.2.2 hev
end V
noncomputable abbrev zq98.con : V.Con := ⟨(.cons (.sl (.cons (.int .i64) .nil)) (.cons (.int .i64) .nil)), (.cons (.int .i64) .nil), fun (x : List Int × Int) => zq98 x.1 x.2, [], [(false, 1), (false, 1)], [(false, 1)], [false], []⟩
noncomputable abbrev zq98.E : V.Env := V.mkE V.tys [] [] [] [] [] []
theorem zq98.eq (x0 : List Int) (x1 : Int) : V.evBody zq98.E zq98.con Tryz.f137 ((x0, x1) : List Int × Int) = zq98 x0 x1 := by kernel_rfl
theorem zq98.ok : V.Valid Tryz.prog 137 zq98.con :=
  V.fo V.tab_nil Tryz.func137 (by kernel_rfl) (fun x y h => (show V.evBody zq98.E zq98.con Tryz.f137 x = _ from zq98.eq x.1 x.2).trans (V.cfl (by kernel_rfl) h))
noncomputable abbrev zq99.con : V.Con := ⟨(.cons (.sl (.cons (.int .i64) .nil)) (.cons (.int .i64) (.cons (.int .i64) .nil))), (.cons (.int .i64) .nil), fun (x : List Int × Int × Int) => zq99 (x.1, x.2.1) x.2.2, [], [(true, 2), (false, 1)], [(false, 1)], [false], []⟩
noncomputable abbrev zq99.E : V.Env := V.mkE V.tys [(137, zq98.con)] [] [] [] [] []
theorem zq99.eq (x0 : TKeys) (x1 : Int) : V.evBody zq99.E zq99.con Tryz.f50 ((x0.1, x0.2, x1) : List Int × Int × Int) = zq99 x0 x1 := by kernel_rfl
theorem zq99.ok : V.Valid Tryz.prog 50 zq99.con :=
  V.fo (V.tab_cons zq98.ok V.tab_nil) Tryz.func50 (by kernel_rfl) (fun x y h => (show V.evBody zq99.E zq99.con Tryz.f50 x = _ from zq99.eq (x.1, x.2.1) x.2.2).trans (V.cfl (by kernel_rfl) h))
noncomputable abbrev zq97.con : V.Con := ⟨V.A0, (.cons (.int .i64) .nil), fun (x : V.D0) => zq97 (V.p0_0 x) (V.p0_1 x), [], [(true, 16), (false, 1)], [(false, 1)], [false], []⟩
noncomputable abbrev zq97.E : V.Env := V.mkE V.tys [(50, zq99.con)] [] [] [] [] []
noncomputable abbrev zq97.kt (x0 : THead) (x1 : Int) : V.Kt Int := V.ktOf zq97.E zq97.con Tryz.f15 (V.fl0 x0 x1)
noncomputable abbrev zq97.s (x0 : THead) (x1 : Int) : V.St := ⟨[(0, .v true [.val (.int .i64 x0.1), .val (.int .i64 x0.2.1), .val (.int .i64 x0.2.2.1), .val (.int .i64 x0.2.2.2.1), .val (.int .i64 x0.2.2.2.2.1), .val (.int .i64 x0.2.2.2.2.2.1), .val (.int .i64 x0.2.2.2.2.2.2.1), .val (.int .i64 x0.2.2.2.2.2.2.2.1), .val (.sl (.cons (.int .i64) .nil) x0.2.2.2.2.2.2.2.2.1), .val (.int .i64 x0.2.2.2.2.2.2.2.2.2.1), .val (.sl (.cons (.int .i64) .nil) x0.2.2.2.2.2.2.2.2.2.2.1), .val (.int .i64 x0.2.2.2.2.2.2.2.2.2.2.2.1), .val (.int .i64 x0.2.2.2.2.2.2.2.2.2.2.2.2.1), .val (.sl (.cons (.int .i64) .nil) x0.2.2.2.2.2.2.2.2.2.2.2.2.2.1), .val (.int .i64 x0.2.2.2.2.2.2.2.2.2.2.2.2.2.2.1), .val (.bool x0.2.2.2.2.2.2.2.2.2.2.2.2.2.2.2)]), (1, .v false [.val (.int .i64 x1)])], []⟩
theorem zq97.v0 (x0 : THead) (x1 : Int) : V.evBody zq97.E zq97.con Tryz.f15 (V.fl0 x0 x1) = V.evC zq97.E Tryz.f15.ntmps (V.codeOf Tryz.f15) (zq97.kt x0 x1) (zq97.s x0 x1) := by kernel_rfl
theorem zq97.v (x0 : THead) (x1 : Int) : V.evC zq97.E Tryz.f15.ntmps (V.codeOf Tryz.f15) (zq97.kt x0 x1) (zq97.s x0 x1) = zq97 x0 x1 := by kernel_rfl
theorem zq97.eq (x0 : THead) (x1 : Int) : V.evBody zq97.E zq97.con Tryz.f15 (V.fl0 x0 x1) = zq97 x0 x1 := (zq97.v0 x0 x1).trans (zq97.v x0 x1)
theorem zq97.ok : V.Valid Tryz.prog 15 zq97.con :=
  V.fo (V.tab_cons zq99.ok V.tab_nil) Tryz.func15 (by kernel_rfl) (fun x y h => (show V.evBody zq97.E zq97.con Tryz.f15 x = _ from zq97.eq (V.p0_0 x) (V.p0_1 x)).trans (V.cfl (by kernel_rfl) h))
noncomputable abbrev zq100.con : V.Con := ⟨(.cons (.sl (.cons (.int .i64) (.cons (.int .i64) .nil))) (.cons (.int .i64) .nil)), (.cons (.int .i64) .nil), fun (x : List TSig × Int) => zq100 x.1 x.2, [], [(false, 1), (false, 1)], [(false, 1)], [false], []⟩
noncomputable abbrev zq100.E : V.Env := V.mkE V.tys [] [] [] [] [] []
theorem zq100.eq (x0 : List TSig) (x1 : Int) : V.evBody zq100.E zq100.con Tryz.f202 ((x0, x1) : List TSig × Int) = zq100 x0 x1 := by kernel_rfl
theorem zq100.ok : V.Valid Tryz.prog 202 zq100.con :=
  V.fo V.tab_nil Tryz.func202 (by kernel_rfl) (fun x y h => (show V.evBody zq100.E zq100.con Tryz.f202 x = _ from zq100.eq x.1 x.2).trans (V.cfl (by kernel_rfl) h))
noncomputable abbrev zq101.con : V.Con := ⟨V.A1, (.cons (.int .i64) .nil), fun (x : V.D1) => zq101 (V.p1_0 x) (V.p1_1 x), [], [(true, 17), (false, 1)], [(false, 1)], [false], []⟩
noncomputable abbrev zq101.E : V.Env := V.mkE V.tys [(15, zq97.con), (202, zq100.con)] [] [] [] [] []
noncomputable abbrev zq101.kt (x0 : TSigned) (x1 : Int) : V.Kt Int := V.ktOf zq101.E zq101.con Tryz.f98 (V.fl1 x0 x1)
noncomputable abbrev zq101.s (x0 : TSigned) (x1 : Int) : V.St := ⟨[(0, .v true [.val (.int .i64 x0.1), .val (.int .i64 x0.2.1), .val (.int .i64 x0.2.2.1), .val (.int .i64 x0.2.2.2.1), .val (.int .i64 x0.2.2.2.2.1), .val (.int .i64 x0.2.2.2.2.2.1), .val (.int .i64 x0.2.2.2.2.2.2.1), .val (.int .i64 x0.2.2.2.2.2.2.2.1), .val (.sl (.cons (.int .i64) .nil) x0.2.2.2.2.2.2.2.2.1), .val (.int .i64 x0.2.2.2.2.2.2.2.2.2.1), .val (.sl (.cons (.int .i64) .nil) x0.2.2.2.2.2.2.2.2.2.2.1), .val (.int .i64 x0.2.2.2.2.2.2.2.2.2.2.2.1), .val (.int .i64 x0.2.2.2.2.2.2.2.2.2.2.2.2.1), .val (.sl (.cons (.int .i64) .nil) x0.2.2.2.2.2.2.2.2.2.2.2.2.2.1), .val (.int .i64 x0.2.2.2.2.2.2.2.2.2.2.2.2.2.2.1), .val (.bool x0.2.2.2.2.2.2.2.2.2.2.2.2.2.2.2.1), .val (.sl (.cons (.int .i64) (.cons (.int .i64) .nil)) x0.2.2.2.2.2.2.2.2.2.2.2.2.2.2.2.2)]), (1, .v false [.val (.int .i64 x1)])], []⟩
theorem zq101.v0 (x0 : TSigned) (x1 : Int) : V.evBody zq101.E zq101.con Tryz.f98 (V.fl1 x0 x1) = V.evC zq101.E Tryz.f98.ntmps (V.codeOf Tryz.f98) (zq101.kt x0 x1) (zq101.s x0 x1) := by kernel_rfl
theorem zq101.v (x0 : TSigned) (x1 : Int) : V.evC zq101.E Tryz.f98.ntmps (V.codeOf Tryz.f98) (zq101.kt x0 x1) (zq101.s x0 x1) = zq101 x0 x1 := by kernel_rfl
theorem zq101.eq (x0 : TSigned) (x1 : Int) : V.evBody zq101.E zq101.con Tryz.f98 (V.fl1 x0 x1) = zq101 x0 x1 := (zq101.v0 x0 x1).trans (zq101.v x0 x1)
theorem zq101.ok : V.Valid Tryz.prog 98 zq101.con :=
  V.fo (V.tab_cons zq97.ok (V.tab_cons zq100.ok V.tab_nil)) Tryz.func98 (by kernel_rfl) (fun x y h => (show V.evBody zq101.E zq101.con Tryz.f98 x = _ from zq101.eq (V.p1_0 x) (V.p1_1 x)).trans (V.cfl (by kernel_rfl) h))
noncomputable abbrev zq102.con : V.Con := ⟨(.cons (.sl V.eSigned) (.cons (.int .i64) .nil)), (.cons (.int .i64) .nil), fun (x : List TSigned × Int) => zq102 x.1 x.2, [], [(false, 1), (false, 1)], [(false, 1)], [false], []⟩
noncomputable abbrev zq102.E : V.Env := V.mkE V.tys [(98, zq101.con)] [(10, [0, 1, 5], [])] [] [] [] []
noncomputable abbrev zq102.kt (x0 : List TSigned) (x1 : Int) : V.Kt Int := V.ktOf zq102.E zq102.con Tryz.f26 ((x0, x1) : List TSigned × Int)
noncomputable abbrev zq102.s10 (x0 : List TSigned) (v10_1 : Int) (v10_2 : Int) : V.St := ⟨[(0, .v false [.val (.sl V.eSigned x0)]), (1, .v false [.val (.int .i64 v10_1)]), (5, .v false [.val (.int .i64 v10_2)])], []⟩
theorem zq102.r10 (x0 : List TSigned) (x1 : Int) (R : V.St → Option Int) (v10_1 : Int) (v10_2 : Int) : V.loopF zq102.E Tryz.f26.ntmps [1, 1, 1, 0, 1, 0] [] (V.codeOf Tryz.f26) (zq102.kt x0 x1) R (zq102.s10 x0 v10_1 v10_2) = zq102.g10 x0 (fun v10_1 v10_2 => R (zq102.s10 x0 v10_1 v10_2)) v10_1 v10_2 := by kernel_rfl
theorem zq102.e10 (x0 : List TSigned) (x1 : Int) : ∀ (n : Nat) (v10_1 : Int) (v10_2 : Int), V.loopN (V.loopF zq102.E Tryz.f26.ntmps [1, 1, 1, 0, 1, 0] [] (V.codeOf Tryz.f26) (zq102.kt x0 x1)) n (zq102.s10 x0 v10_1 v10_2) = zq102.l10 x0 n v10_1 v10_2 := by
  intro n
  induction n with
  | zero => intros; rw [V.loopN_z]; rfl
  | succ n ih =>
    intro v10_1 v10_2
    rw [V.loopN_s, zq102.r10]
    simp only [ih]
    first | exact (zq102.u10 ..).symm | rfl
theorem zq102.v (x0 : List TSigned) (x1 : Int) : V.evBody zq102.E zq102.con Tryz.f26 ((x0, x1) : List TSigned × Int) = zq102.b x0 x1 (fun v10_1 v10_2 => V.loopN (V.loopF zq102.E Tryz.f26.ntmps [1, 1, 1, 0, 1, 0] [] (V.codeOf Tryz.f26) (zq102.kt x0 x1)) V.KK (zq102.s10 x0 v10_1 v10_2)) := by kernel_rfl
theorem zq102.eq (x0 : List TSigned) (x1 : Int) : V.evBody zq102.E zq102.con Tryz.f26 ((x0, x1) : List TSigned × Int) = zq102 x0 x1 := by
  rw [zq102.v]
  simp only [zq102.e10]
  rfl
theorem zq102.ok : V.Valid Tryz.prog 26 zq102.con :=
  V.fo (V.tab_cons zq101.ok V.tab_nil) Tryz.func26 (by kernel_rfl) (fun x y h => (show V.evBody zq102.E zq102.con Tryz.f26 x = _ from zq102.eq x.1 x.2).trans (V.cfl (by kernel_rfl) h))
noncomputable abbrev zq103.con : V.Con := ⟨(.cons (.sl (.cons .str .nil)) (.cons (.int .i64) .nil)), (.cons (.int .i64) .nil), fun (x : List ByteArray × Int) => zq103 x.1 x.2, [], [(false, 1), (false, 1)], [(false, 1)], [false], []⟩
noncomputable abbrev zq103.E : V.Env := V.mkE V.tys [] [(10, [0, 1, 5], [])] [] [] [] []
noncomputable abbrev zq103.kt (x0 : List ByteArray) (x1 : Int) : V.Kt Int := V.ktOf zq103.E zq103.con Tryz.f182 ((x0, x1) : List ByteArray × Int)
noncomputable abbrev zq103.s10 (x0 : List ByteArray) (v10_1 : Int) (v10_2 : Int) : V.St := ⟨[(0, .v false [.val (.sl (.cons .str .nil) x0)]), (1, .v false [.val (.int .i64 v10_1)]), (5, .v false [.val (.int .i64 v10_2)])], []⟩
theorem zq103.r10 (x0 : List ByteArray) (x1 : Int) (R : V.St → Option Int) (v10_1 : Int) (v10_2 : Int) : V.loopF zq103.E Tryz.f182.ntmps [1, 1, 1, 0, 1, 0] [] (V.codeOf Tryz.f182) (zq103.kt x0 x1) R (zq103.s10 x0 v10_1 v10_2) = zq103.g10 x0 (fun v10_1 v10_2 => R (zq103.s10 x0 v10_1 v10_2)) v10_1 v10_2 := by kernel_rfl
theorem zq103.e10 (x0 : List ByteArray) (x1 : Int) : ∀ (n : Nat) (v10_1 : Int) (v10_2 : Int), V.loopN (V.loopF zq103.E Tryz.f182.ntmps [1, 1, 1, 0, 1, 0] [] (V.codeOf Tryz.f182) (zq103.kt x0 x1)) n (zq103.s10 x0 v10_1 v10_2) = zq103.l10 x0 n v10_1 v10_2 := by
  intro n
  induction n with
  | zero => intros; rw [V.loopN_z]; rfl
  | succ n ih =>
    intro v10_1 v10_2
    rw [V.loopN_s, zq103.r10]
    simp only [ih]
    first | exact (zq103.u10 ..).symm | rfl
theorem zq103.v (x0 : List ByteArray) (x1 : Int) : V.evBody zq103.E zq103.con Tryz.f182 ((x0, x1) : List ByteArray × Int) = zq103.b x0 x1 (fun v10_1 v10_2 => V.loopN (V.loopF zq103.E Tryz.f182.ntmps [1, 1, 1, 0, 1, 0] [] (V.codeOf Tryz.f182) (zq103.kt x0 x1)) V.KK (zq103.s10 x0 v10_1 v10_2)) := by kernel_rfl
theorem zq103.eq (x0 : List ByteArray) (x1 : Int) : V.evBody zq103.E zq103.con Tryz.f182 ((x0, x1) : List ByteArray × Int) = zq103 x0 x1 := by
  rw [zq103.v]
  simp only [zq103.e10]
  rfl
theorem zq103.ok : V.Valid Tryz.prog 182 zq103.con :=
  V.fo V.tab_nil Tryz.func182 (by kernel_rfl) (fun x y h => (show V.evBody zq103.E zq103.con Tryz.f182 x = _ from zq103.eq x.1 x.2).trans (V.cfl (by kernel_rfl) h))
noncomputable abbrev zq95.con : V.Con := ⟨(.cons .str (.cons (.int .i64) (.cons (.int .i64) (.cons (.sl (.cons .str .nil)) (.cons (.int .i64) .nil))))), (.cons (.int .i64) .nil), fun (x : ByteArray × Int × Int × List ByteArray × Int) => zq95 (x.1, x.2.1, x.2.2.1, x.2.2.2.1) x.2.2.2.2, [], [(true, 4), (false, 1)], [(false, 1)], [false], []⟩
noncomputable abbrev zq95.E : V.Env := V.mkE V.tys [(182, zq103.con)] [] [] [] [] []
theorem zq95.eq (x0 : TEntry) (x1 : Int) : V.evBody zq95.E zq95.con Tryz.f85 ((x0.1, x0.2.1, x0.2.2.1, x0.2.2.2, x1) : ByteArray × Int × Int × List ByteArray × Int) = zq95 x0 x1 := by kernel_rfl
theorem zq95.ok : V.Valid Tryz.prog 85 zq95.con :=
  V.fo (V.tab_cons zq103.ok V.tab_nil) Tryz.func85 (by kernel_rfl) (fun x y h => (show V.evBody zq95.E zq95.con Tryz.f85 x = _ from zq95.eq (x.1, x.2.1, x.2.2.1, x.2.2.2.1) x.2.2.2.2).trans (V.cfl (by kernel_rfl) h))
noncomputable abbrev zq96.con : V.Con := ⟨(.cons (.sl V.eEntry) (.cons (.int .i64) .nil)), (.cons (.int .i64) .nil), fun (x : List TEntry × Int) => zq96 x.1 x.2, [], [(false, 1), (false, 1)], [(false, 1)], [false], []⟩
noncomputable abbrev zq96.E : V.Env := V.mkE V.tys [(85, zq95.con)] [(10, [0, 1, 5], [])] [] [] [] []
noncomputable abbrev zq96.kt (x0 : List TEntry) (x1 : Int) : V.Kt Int := V.ktOf zq96.E zq96.con Tryz.f16 ((x0, x1) : List TEntry × Int)
noncomputable abbrev zq96.s10 (x0 : List TEntry) (v10_1 : Int) (v10_2 : Int) : V.St := ⟨[(0, .v false [.val (.sl V.eEntry x0)]), (1, .v false [.val (.int .i64 v10_1)]), (5, .v false [.val (.int .i64 v10_2)])], []⟩
theorem zq96.r10 (x0 : List TEntry) (x1 : Int) (R : V.St → Option Int) (v10_1 : Int) (v10_2 : Int) : V.loopF zq96.E Tryz.f16.ntmps [1, 1, 1, 0, 1, 0] [] (V.codeOf Tryz.f16) (zq96.kt x0 x1) R (zq96.s10 x0 v10_1 v10_2) = zq96.g10 x0 (fun v10_1 v10_2 => R (zq96.s10 x0 v10_1 v10_2)) v10_1 v10_2 := by kernel_rfl
theorem zq96.e10 (x0 : List TEntry) (x1 : Int) : ∀ (n : Nat) (v10_1 : Int) (v10_2 : Int), V.loopN (V.loopF zq96.E Tryz.f16.ntmps [1, 1, 1, 0, 1, 0] [] (V.codeOf Tryz.f16) (zq96.kt x0 x1)) n (zq96.s10 x0 v10_1 v10_2) = zq96.l10 x0 n v10_1 v10_2 := by
  intro n
  induction n with
  | zero => intros; rw [V.loopN_z]; rfl
  | succ n ih =>
    intro v10_1 v10_2
    rw [V.loopN_s, zq96.r10]
    simp only [ih]
    first | exact (zq96.u10 ..).symm | rfl
theorem zq96.v (x0 : List TEntry) (x1 : Int) : V.evBody zq96.E zq96.con Tryz.f16 ((x0, x1) : List TEntry × Int) = zq96.b x0 x1 (fun v10_1 v10_2 => V.loopN (V.loopF zq96.E Tryz.f16.ntmps [1, 1, 1, 0, 1, 0] [] (V.codeOf Tryz.f16) (zq96.kt x0 x1)) V.KK (zq96.s10 x0 v10_1 v10_2)) := by kernel_rfl
theorem zq96.eq (x0 : List TEntry) (x1 : Int) : V.evBody zq96.E zq96.con Tryz.f16 ((x0, x1) : List TEntry × Int) = zq96 x0 x1 := by
  rw [zq96.v]
  simp only [zq96.e10]
  rfl
theorem zq96.ok : V.Valid Tryz.prog 16 zq96.con :=
  V.fo (V.tab_cons zq95.ok V.tab_nil) Tryz.func16 (by kernel_rfl) (fun x y h => (show V.evBody zq96.E zq96.con Tryz.f16 x = _ from zq96.eq x.1 x.2).trans (V.cfl (by kernel_rfl) h))
noncomputable abbrev zq104.con : V.Con := ⟨(.cons (.sl V.eSigned) (.cons (.sl V.eEntry) (.cons (.int .i64) .nil))), (.cons (.int .i64) .nil), fun (x : List TSigned × List TEntry × Int) => zq104 (x.1, x.2.1) x.2.2, [], [(true, 2), (false, 1)], [(false, 1)], [false], []⟩
noncomputable abbrev zq104.E : V.Env := V.mkE V.tys [(16, zq96.con), (26, zq102.con)] [] [] [] [] []
theorem zq104.eq (x0 : TZone) (x1 : Int) : V.evBody zq104.E zq104.con Tryz.f43 ((x0.1, x0.2, x1) : List TSigned × List TEntry × Int) = zq104 x0 x1 := by kernel_rfl
theorem zq104.ok : V.Valid Tryz.prog 43 zq104.con :=
  V.fo (V.tab_cons zq96.ok (V.tab_cons zq102.ok V.tab_nil)) Tryz.func43 (by kernel_rfl) (fun x y h => (show V.evBody zq104.E zq104.con Tryz.f43 x = _ from zq104.eq (x.1, x.2.1) x.2.2).trans (V.cfl (by kernel_rfl) h))
noncomputable abbrev zq108.con : V.Con := ⟨(.cons (.sl (.cons (.int .i64) .nil)) .nil), (.cons (.sl (.cons (.int .i64) .nil)) .nil), fun (x : List Int) => zq108 x, [], [(false, 1)], [(false, 1)], [true], []⟩
noncomputable abbrev zq108.E : V.Env := V.mkE V.tys [] [(6, [0, 3, 4], [])] [] [] [] []
noncomputable abbrev zq108.kt (x0 : List Int) : V.Kt (List Int) := V.ktOf zq108.E zq108.con Tryz.f77 ((x0) : List Int)
noncomputable abbrev zq108.s6 (x0 : List Int) (v6_1 : Int) (v6_2 : List Int) : V.St := ⟨[(0, .v false [.val (.sl (.cons (.int .i64) .nil) x0)]), (3, .v false [.ref 64000038400192]), (4, .v false [.val (.int .i64 v6_1)])], [(64000038400192, .row (.cons (.int .i64) .nil) true v6_2)]⟩
theorem zq108.r6 (x0 : List Int) (R : V.St → Option (List Int)) (v6_1 : Int) (v6_2 : List Int) : V.loopF zq108.E Tryz.f77.ntmps [1, 1, 0, 1, 0] [] (V.codeOf Tryz.f77) (zq108.kt x0) R (zq108.s6 x0 v6_1 v6_2) = zq108.g6 x0 (fun v6_1 v6_2 => R (zq108.s6 x0 v6_1 v6_2)) v6_1 v6_2 := by kernel_rfl
theorem zq108.e6 (x0 : List Int) : ∀ (n : Nat) (v6_1 : Int) (v6_2 : List Int), V.loopN (V.loopF zq108.E Tryz.f77.ntmps [1, 1, 0, 1, 0] [] (V.codeOf Tryz.f77) (zq108.kt x0)) n (zq108.s6 x0 v6_1 v6_2) = zq108.l6 x0 n v6_1 v6_2 := by
  intro n
  induction n with
  | zero => intros; rw [V.loopN_z]; rfl
  | succ n ih =>
    intro v6_1 v6_2
    rw [V.loopN_s, zq108.r6]
    simp only [ih]
    first | exact (zq108.u6 ..).symm | rfl
theorem zq108.v (x0 : List Int) : V.evBody zq108.E zq108.con Tryz.f77 ((x0) : List Int) = zq108.b x0 (fun v6_1 v6_2 => V.loopN (V.loopF zq108.E Tryz.f77.ntmps [1, 1, 0, 1, 0] [] (V.codeOf Tryz.f77) (zq108.kt x0)) V.KK (zq108.s6 x0 v6_1 v6_2)) := by kernel_rfl
theorem zq108.eq (x0 : List Int) : V.evBody zq108.E zq108.con Tryz.f77 ((x0) : List Int) = zq108 x0 := by
  rw [zq108.v]
  simp only [zq108.e6]
  rfl
theorem zq108.ok : V.Valid Tryz.prog 77 zq108.con :=
  V.fo V.tab_nil Tryz.func77 (by kernel_rfl) (fun x y h => (show V.evBody zq108.E zq108.con Tryz.f77 x = _ from zq108.eq x).trans (V.cfl (by kernel_rfl) h))
noncomputable abbrev zq109.con : V.Con := ⟨(.cons (.sl (.cons (.int .i64) .nil)) (.cons (.int .i64) .nil)), (.cons (.sl (.cons (.int .i64) .nil)) (.cons (.int .i64) .nil)), fun (x : List Int × Int) => zq109 x, [], [(true, 2)], [(true, 2)], [true, false], []⟩
noncomputable abbrev zq109.E : V.Env := V.mkE V.tys [(77, zq108.con)] [] [] [] [] []
theorem zq109.eq (x0 : TKeys) : V.evBody zq109.E zq109.con Tryz.f52 ((x0.1, x0.2) : List Int × Int) = zq109 x0 := by kernel_rfl
theorem zq109.ok : V.Valid Tryz.prog 52 zq109.con :=
  V.fo (V.tab_cons zq108.ok V.tab_nil) Tryz.func52 (by kernel_rfl) (fun x y h => (show V.evBody zq109.E zq109.con Tryz.f52 x = _ from zq109.eq x).trans (V.cfl (by kernel_rfl) h))
noncomputable abbrev zq107.con : V.Con := ⟨V.A2, V.eHead, fun (x : V.D2) => zq107 (V.p2_0 x), [], [(true, 16)], [(true, 16)], [false, false, false, false, false, false, false, false, true, false, true, false, false, true, false, false], []⟩
noncomputable abbrev zq107.E : V.Env := V.mkE V.tys [(52, zq109.con)] [] [] [] [] []
noncomputable abbrev zq107.kt (x0 : THead) : V.Kt THead := V.ktOf zq107.E zq107.con Tryz.f18 (V.fl2 x0)
noncomputable abbrev zq107.s (x0 : THead) : V.St := ⟨[(0, .v true [.val (.int .i64 x0.1), .val (.int .i64 x0.2.1), .val (.int .i64 x0.2.2.1), .val (.int .i64 x0.2.2.2.1), .val (.int .i64 x0.2.2.2.2.1), .val (.int .i64 x0.2.2.2.2.2.1), .val (.int .i64 x0.2.2.2.2.2.2.1), .val (.int .i64 x0.2.2.2.2.2.2.2.1), .val (.sl (.cons (.int .i64) .nil) x0.2.2.2.2.2.2.2.2.1), .val (.int .i64 x0.2.2.2.2.2.2.2.2.2.1), .val (.sl (.cons (.int .i64) .nil) x0.2.2.2.2.2.2.2.2.2.2.1), .val (.int .i64 x0.2.2.2.2.2.2.2.2.2.2.2.1), .val (.int .i64 x0.2.2.2.2.2.2.2.2.2.2.2.2.1), .val (.sl (.cons (.int .i64) .nil) x0.2.2.2.2.2.2.2.2.2.2.2.2.2.1), .val (.int .i64 x0.2.2.2.2.2.2.2.2.2.2.2.2.2.2.1), .val (.bool x0.2.2.2.2.2.2.2.2.2.2.2.2.2.2.2)])], []⟩
theorem zq107.v0 (x0 : THead) : V.evBody zq107.E zq107.con Tryz.f18 (V.fl2 x0) = V.evC zq107.E Tryz.f18.ntmps (V.codeOf Tryz.f18) (zq107.kt x0) (zq107.s x0) := by kernel_rfl
theorem zq107.v (x0 : THead) : V.evC zq107.E Tryz.f18.ntmps (V.codeOf Tryz.f18) (zq107.kt x0) (zq107.s x0) = zq107 x0 := by kernel_rfl
theorem zq107.eq (x0 : THead) : V.evBody zq107.E zq107.con Tryz.f18 (V.fl2 x0) = zq107 x0 := (zq107.v0 x0).trans (zq107.v x0)
theorem zq107.ok : V.Valid Tryz.prog 18 zq107.con :=
  V.fo (V.tab_cons zq109.ok V.tab_nil) Tryz.func18 (by kernel_rfl) (fun x y h => (show V.evBody zq107.E zq107.con Tryz.f18 x = _ from zq107.eq (V.p2_0 x)).trans (V.cfl (by kernel_rfl) h))
noncomputable abbrev zq110.con : V.Con := ⟨(.cons (.int .i64) (.cons (.int .i64) .nil)), (.cons (.int .i64) (.cons (.int .i64) .nil)), fun (x : Int × Int) => zq110 x, [], [(true, 2)], [(true, 2)], [false, false], []⟩
noncomputable abbrev zq110.E : V.Env := V.mkE V.tys [] [] [] [] [] []
theorem zq110.eq (x0 : TSig) : V.evBody zq110.E zq110.con Tryz.f267 ((x0.1, x0.2) : Int × Int) = zq110 x0 := by kernel_rfl
theorem zq110.ok : V.Valid Tryz.prog 267 zq110.con :=
  V.fo V.tab_nil Tryz.func267 (by kernel_rfl) (fun x y h => (show V.evBody zq110.E zq110.con Tryz.f267 x = _ from zq110.eq x).trans (V.cfl (by kernel_rfl) h))
noncomputable abbrev zq111.con : V.Con := ⟨(.cons (.sl (.cons (.int .i64) (.cons (.int .i64) .nil))) .nil), (.cons (.sl (.cons (.int .i64) (.cons (.int .i64) .nil))) .nil), fun (x : List TSig) => zq111 x, [], [(false, 1)], [(false, 1)], [true], []⟩
noncomputable abbrev zq111.E : V.Env := V.mkE V.tys [(267, zq110.con)] [(6, [0, 3, 4], [])] [] [] [] []
noncomputable abbrev zq111.kt (x0 : List TSig) : V.Kt (List TSig) := V.ktOf zq111.E zq111.con Tryz.f206 ((x0) : List TSig)
noncomputable abbrev zq111.s6 (x0 : List TSig) (v6_1 : Int) (v6_2 : List TSig) : V.St := ⟨[(0, .v false [.val (.sl (.cons (.int .i64) (.cons (.int .i64) .nil)) x0)]), (3, .v false [.ref 64000038400192]), (4, .v false [.val (.int .i64 v6_1)])], [(64000038400192, .row (.cons (.int .i64) (.cons (.int .i64) .nil)) true v6_2)]⟩
theorem zq111.r6 (x0 : List TSig) (R : V.St → Option (List TSig)) (v6_1 : Int) (v6_2 : List TSig) : V.loopF zq111.E Tryz.f206.ntmps [1, 1, 0, 1, 0] [] (V.codeOf Tryz.f206) (zq111.kt x0) R (zq111.s6 x0 v6_1 v6_2) = zq111.g6 x0 (fun v6_1 v6_2 => R (zq111.s6 x0 v6_1 v6_2)) v6_1 v6_2 := by kernel_rfl
theorem zq111.e6 (x0 : List TSig) : ∀ (n : Nat) (v6_1 : Int) (v6_2 : List TSig), V.loopN (V.loopF zq111.E Tryz.f206.ntmps [1, 1, 0, 1, 0] [] (V.codeOf Tryz.f206) (zq111.kt x0)) n (zq111.s6 x0 v6_1 v6_2) = zq111.l6 x0 n v6_1 v6_2 := by
  intro n
  induction n with
  | zero => intros; rw [V.loopN_z]; rfl
  | succ n ih =>
    intro v6_1 v6_2
    rw [V.loopN_s, zq111.r6]
    simp only [ih]
    first | exact (zq111.u6 ..).symm | rfl
theorem zq111.v (x0 : List TSig) : V.evBody zq111.E zq111.con Tryz.f206 ((x0) : List TSig) = zq111.b x0 (fun v6_1 v6_2 => V.loopN (V.loopF zq111.E Tryz.f206.ntmps [1, 1, 0, 1, 0] [] (V.codeOf Tryz.f206) (zq111.kt x0)) V.KK (zq111.s6 x0 v6_1 v6_2)) := by kernel_rfl
theorem zq111.eq (x0 : List TSig) : V.evBody zq111.E zq111.con Tryz.f206 ((x0) : List TSig) = zq111 x0 := by
  rw [zq111.v]
  simp only [zq111.e6]
  rfl
theorem zq111.ok : V.Valid Tryz.prog 206 zq111.con :=
  V.fo (V.tab_cons zq110.ok V.tab_nil) Tryz.func206 (by kernel_rfl) (fun x y h => (show V.evBody zq111.E zq111.con Tryz.f206 x = _ from zq111.eq x).trans (V.cfl (by kernel_rfl) h))
noncomputable abbrev zq112.con : V.Con := ⟨V.A3, V.eSigned, fun (x : V.D3) => zq112 (V.p3_0 x), [], [(true, 17)], [(true, 17)], [false, false, false, false, false, false, false, false, true, false, true, false, false, true, false, false, true], []⟩
noncomputable abbrev zq112.E : V.Env := V.mkE V.tys [(18, zq107.con), (206, zq111.con)] [] [] [] [] []
noncomputable abbrev zq112.kt (x0 : TSigned) : V.Kt TSigned := V.ktOf zq112.E zq112.con Tryz.f103 (V.fl3 x0)
noncomputable abbrev zq112.s (x0 : TSigned) : V.St := ⟨[(0, .v true [.val (.int .i64 x0.1), .val (.int .i64 x0.2.1), .val (.int .i64 x0.2.2.1), .val (.int .i64 x0.2.2.2.1), .val (.int .i64 x0.2.2.2.2.1), .val (.int .i64 x0.2.2.2.2.2.1), .val (.int .i64 x0.2.2.2.2.2.2.1), .val (.int .i64 x0.2.2.2.2.2.2.2.1), .val (.sl (.cons (.int .i64) .nil) x0.2.2.2.2.2.2.2.2.1), .val (.int .i64 x0.2.2.2.2.2.2.2.2.2.1), .val (.sl (.cons (.int .i64) .nil) x0.2.2.2.2.2.2.2.2.2.2.1), .val (.int .i64 x0.2.2.2.2.2.2.2.2.2.2.2.1), .val (.int .i64 x0.2.2.2.2.2.2.2.2.2.2.2.2.1), .val (.sl (.cons (.int .i64) .nil) x0.2.2.2.2.2.2.2.2.2.2.2.2.2.1), .val (.int .i64 x0.2.2.2.2.2.2.2.2.2.2.2.2.2.2.1), .val (.bool x0.2.2.2.2.2.2.2.2.2.2.2.2.2.2.2.1), .val (.sl (.cons (.int .i64) (.cons (.int .i64) .nil)) x0.2.2.2.2.2.2.2.2.2.2.2.2.2.2.2.2)])], []⟩
theorem zq112.v0 (x0 : TSigned) : V.evBody zq112.E zq112.con Tryz.f103 (V.fl3 x0) = V.evC zq112.E Tryz.f103.ntmps (V.codeOf Tryz.f103) (zq112.kt x0) (zq112.s x0) := by kernel_rfl
theorem zq112.v (x0 : TSigned) : V.evC zq112.E Tryz.f103.ntmps (V.codeOf Tryz.f103) (zq112.kt x0) (zq112.s x0) = zq112 x0 := by kernel_rfl
theorem zq112.eq (x0 : TSigned) : V.evBody zq112.E zq112.con Tryz.f103 (V.fl3 x0) = zq112 x0 := (zq112.v0 x0).trans (zq112.v x0)
theorem zq112.ok : V.Valid Tryz.prog 103 zq112.con :=
  V.fo (V.tab_cons zq107.ok (V.tab_cons zq111.ok V.tab_nil)) Tryz.func103 (by kernel_rfl) (fun x y h => (show V.evBody zq112.E zq112.con Tryz.f103 x = _ from zq112.eq (V.p3_0 x)).trans (V.cfl (by kernel_rfl) h))
noncomputable abbrev zq113.con : V.Con := ⟨(.cons (.sl V.eSigned) .nil), (.cons (.sl V.eSigned) .nil), fun (x : List TSigned) => zq113 x, [], [(false, 1)], [(false, 1)], [true], []⟩
noncomputable abbrev zq113.E : V.Env := V.mkE V.tys [(103, zq112.con)] [(6, [0, 3, 4], [])] [] [] [] []
noncomputable abbrev zq113.kt (x0 : List TSigned) : V.Kt (List TSigned) := V.ktOf zq113.E zq113.con Tryz.f28 ((x0) : List TSigned)
noncomputable abbrev zq113.s6 (x0 : List TSigned) (v6_1 : Int) (v6_2 : List TSigned) : V.St := ⟨[(0, .v false [.val (.sl V.eSigned x0)]), (3, .v false [.ref 64000038400192]), (4, .v false [.val (.int .i64 v6_1)])], [(64000038400192, .row V.eSigned true v6_2)]⟩
theorem zq113.r6 (x0 : List TSigned) (R : V.St → Option (List TSigned)) (v6_1 : Int) (v6_2 : List TSigned) : V.loopF zq113.E Tryz.f28.ntmps [1, 1, 0, 1, 0] [] (V.codeOf Tryz.f28) (zq113.kt x0) R (zq113.s6 x0 v6_1 v6_2) = zq113.g6 x0 (fun v6_1 v6_2 => R (zq113.s6 x0 v6_1 v6_2)) v6_1 v6_2 := by kernel_rfl
theorem zq113.e6 (x0 : List TSigned) : ∀ (n : Nat) (v6_1 : Int) (v6_2 : List TSigned), V.loopN (V.loopF zq113.E Tryz.f28.ntmps [1, 1, 0, 1, 0] [] (V.codeOf Tryz.f28) (zq113.kt x0)) n (zq113.s6 x0 v6_1 v6_2) = zq113.l6 x0 n v6_1 v6_2 := by
  intro n
  induction n with
  | zero => intros; rw [V.loopN_z]; rfl
  | succ n ih =>
    intro v6_1 v6_2
    rw [V.loopN_s, zq113.r6]
    simp only [ih]
    first | exact (zq113.u6 ..).symm | rfl
theorem zq113.v (x0 : List TSigned) : V.evBody zq113.E zq113.con Tryz.f28 ((x0) : List TSigned) = zq113.b x0 (fun v6_1 v6_2 => V.loopN (V.loopF zq113.E Tryz.f28.ntmps [1, 1, 0, 1, 0] [] (V.codeOf Tryz.f28) (zq113.kt x0)) V.KK (zq113.s6 x0 v6_1 v6_2)) := by kernel_rfl
theorem zq113.eq (x0 : List TSigned) : V.evBody zq113.E zq113.con Tryz.f28 ((x0) : List TSigned) = zq113 x0 := by
  rw [zq113.v]
  simp only [zq113.e6]
  rfl
theorem zq113.ok : V.Valid Tryz.prog 28 zq113.con :=
  V.fo (V.tab_cons zq112.ok V.tab_nil) Tryz.func28 (by kernel_rfl) (fun x y h => (show V.evBody zq113.E zq113.con Tryz.f28 x = _ from zq113.eq x).trans (V.cfl (by kernel_rfl) h))
noncomputable abbrev zq114.con : V.Con := ⟨(.cons (.sl (.cons .str .nil)) .nil), (.cons (.sl (.cons .str .nil)) .nil), fun (x : List ByteArray) => zq114 x, [], [(false, 1)], [(false, 1)], [true], []⟩
noncomputable abbrev zq114.E : V.Env := V.mkE V.tys [] [(6, [0, 3, 4], [])] [] [] [] []
noncomputable abbrev zq114.kt (x0 : List ByteArray) : V.Kt (List ByteArray) := V.ktOf zq114.E zq114.con Tryz.f191 ((x0) : List ByteArray)
noncomputable abbrev zq114.s6 (x0 : List ByteArray) (v6_1 : Int) (v6_2 : List ByteArray) : V.St := ⟨[(0, .v false [.val (.sl (.cons .str .nil) x0)]), (3, .v false [.ref 64000038400192]), (4, .v false [.val (.int .i64 v6_1)])], [(64000038400192, .row (.cons .str .nil) true v6_2)]⟩
theorem zq114.r6 (x0 : List ByteArray) (R : V.St → Option (List ByteArray)) (v6_1 : Int) (v6_2 : List ByteArray) : V.loopF zq114.E Tryz.f191.ntmps [1, 1, 0, 1, 0] [] (V.codeOf Tryz.f191) (zq114.kt x0) R (zq114.s6 x0 v6_1 v6_2) = zq114.g6 x0 (fun v6_1 v6_2 => R (zq114.s6 x0 v6_1 v6_2)) v6_1 v6_2 := by kernel_rfl
theorem zq114.e6 (x0 : List ByteArray) : ∀ (n : Nat) (v6_1 : Int) (v6_2 : List ByteArray), V.loopN (V.loopF zq114.E Tryz.f191.ntmps [1, 1, 0, 1, 0] [] (V.codeOf Tryz.f191) (zq114.kt x0)) n (zq114.s6 x0 v6_1 v6_2) = zq114.l6 x0 n v6_1 v6_2 := by
  intro n
  induction n with
  | zero => intros; rw [V.loopN_z]; rfl
  | succ n ih =>
    intro v6_1 v6_2
    rw [V.loopN_s, zq114.r6]
    simp only [ih]
    first | exact (zq114.u6 ..).symm | rfl
theorem zq114.v (x0 : List ByteArray) : V.evBody zq114.E zq114.con Tryz.f191 ((x0) : List ByteArray) = zq114.b x0 (fun v6_1 v6_2 => V.loopN (V.loopF zq114.E Tryz.f191.ntmps [1, 1, 0, 1, 0] [] (V.codeOf Tryz.f191) (zq114.kt x0)) V.KK (zq114.s6 x0 v6_1 v6_2)) := by kernel_rfl
theorem zq114.eq (x0 : List ByteArray) : V.evBody zq114.E zq114.con Tryz.f191 ((x0) : List ByteArray) = zq114 x0 := by
  rw [zq114.v]
  simp only [zq114.e6]
  rfl
theorem zq114.ok : V.Valid Tryz.prog 191 zq114.con :=
  V.fo V.tab_nil Tryz.func191 (by kernel_rfl) (fun x y h => (show V.evBody zq114.E zq114.con Tryz.f191 x = _ from zq114.eq x).trans (V.cfl (by kernel_rfl) h))
noncomputable abbrev zq105.con : V.Con := ⟨V.eEntry, V.eEntry, fun (x : ByteArray × Int × Int × List ByteArray) => zq105 x, [], [(true, 4)], [(true, 4)], [false, false, false, true], []⟩
noncomputable abbrev zq105.E : V.Env := V.mkE V.tys [(191, zq114.con)] [] [] [] [] []
theorem zq105.eq (x0 : TEntry) : V.evBody zq105.E zq105.con Tryz.f90 ((x0.1, x0.2.1, x0.2.2.1, x0.2.2.2) : ByteArray × Int × Int × List ByteArray) = zq105 x0 := by kernel_rfl
theorem zq105.ok : V.Valid Tryz.prog 90 zq105.con :=
  V.fo (V.tab_cons zq114.ok V.tab_nil) Tryz.func90 (by kernel_rfl) (fun x y h => (show V.evBody zq105.E zq105.con Tryz.f90 x = _ from zq105.eq x).trans (V.cfl (by kernel_rfl) h))
noncomputable abbrev zq106.con : V.Con := ⟨(.cons (.sl V.eEntry) .nil), (.cons (.sl V.eEntry) .nil), fun (x : List TEntry) => zq106 x, [], [(false, 1)], [(false, 1)], [true], []⟩
noncomputable abbrev zq106.E : V.Env := V.mkE V.tys [(90, zq105.con)] [(6, [0, 3, 4], [])] [] [] [] []
noncomputable abbrev zq106.kt (x0 : List TEntry) : V.Kt (List TEntry) := V.ktOf zq106.E zq106.con Tryz.f19 ((x0) : List TEntry)
noncomputable abbrev zq106.s6 (x0 : List TEntry) (v6_1 : Int) (v6_2 : List TEntry) : V.St := ⟨[(0, .v false [.val (.sl V.eEntry x0)]), (3, .v false [.ref 64000038400192]), (4, .v false [.val (.int .i64 v6_1)])], [(64000038400192, .row V.eEntry true v6_2)]⟩
theorem zq106.r6 (x0 : List TEntry) (R : V.St → Option (List TEntry)) (v6_1 : Int) (v6_2 : List TEntry) : V.loopF zq106.E Tryz.f19.ntmps [1, 1, 0, 1, 0] [] (V.codeOf Tryz.f19) (zq106.kt x0) R (zq106.s6 x0 v6_1 v6_2) = zq106.g6 x0 (fun v6_1 v6_2 => R (zq106.s6 x0 v6_1 v6_2)) v6_1 v6_2 := by kernel_rfl
theorem zq106.e6 (x0 : List TEntry) : ∀ (n : Nat) (v6_1 : Int) (v6_2 : List TEntry), V.loopN (V.loopF zq106.E Tryz.f19.ntmps [1, 1, 0, 1, 0] [] (V.codeOf Tryz.f19) (zq106.kt x0)) n (zq106.s6 x0 v6_1 v6_2) = zq106.l6 x0 n v6_1 v6_2 := by
  intro n
  induction n with
  | zero => intros; rw [V.loopN_z]; rfl
  | succ n ih =>
    intro v6_1 v6_2
    rw [V.loopN_s, zq106.r6]
    simp only [ih]
    first | exact (zq106.u6 ..).symm | rfl
theorem zq106.v (x0 : List TEntry) : V.evBody zq106.E zq106.con Tryz.f19 ((x0) : List TEntry) = zq106.b x0 (fun v6_1 v6_2 => V.loopN (V.loopF zq106.E Tryz.f19.ntmps [1, 1, 0, 1, 0] [] (V.codeOf Tryz.f19) (zq106.kt x0)) V.KK (zq106.s6 x0 v6_1 v6_2)) := by kernel_rfl
theorem zq106.eq (x0 : List TEntry) : V.evBody zq106.E zq106.con Tryz.f19 ((x0) : List TEntry) = zq106 x0 := by
  rw [zq106.v]
  simp only [zq106.e6]
  rfl
theorem zq106.ok : V.Valid Tryz.prog 19 zq106.con :=
  V.fo (V.tab_cons zq105.ok V.tab_nil) Tryz.func19 (by kernel_rfl) (fun x y h => (show V.evBody zq106.E zq106.con Tryz.f19 x = _ from zq106.eq x).trans (V.cfl (by kernel_rfl) h))
noncomputable abbrev zq115.con : V.Con := ⟨(.cons (.sl V.eSigned) (.cons (.sl V.eEntry) .nil)), (.cons (.sl V.eSigned) (.cons (.sl V.eEntry) .nil)), fun (x : List TSigned × List TEntry) => zq115 x, [], [(true, 2)], [(true, 2)], [true, true], []⟩
noncomputable abbrev zq115.E : V.Env := V.mkE V.tys [(19, zq106.con), (28, zq113.con)] [] [] [] [] []
theorem zq115.eq (x0 : TZone) : V.evBody zq115.E zq115.con Tryz.f45 ((x0.1, x0.2) : List TSigned × List TEntry) = zq115 x0 := by kernel_rfl
theorem zq115.ok : V.Valid Tryz.prog 45 zq115.con :=
  V.fo (V.tab_cons zq106.ok (V.tab_cons zq113.ok V.tab_nil)) Tryz.func45 (by kernel_rfl) (fun x y h => (show V.evBody zq115.E zq115.con Tryz.f45 x = _ from zq115.eq x).trans (V.cfl (by kernel_rfl) h))
noncomputable abbrev zq179.con : V.Con := ⟨(.cons (.int .i64) (.cons (.int .i64) (.cons (.int .i64) .nil))), (.cons .bool .nil), fun (x : Int × Int × Int) => zq179 x.1 x.2.1 x.2.2, [], [(false, 1), (false, 1), (false, 1)], [(false, 1)], [false], []⟩
noncomputable abbrev zq179.E : V.Env := V.mkE V.tys [] [] [] [] [] []
theorem zq179.eq (x0 : Int) (x1 : Int) (x2 : Int) : V.evBody zq179.E zq179.con Tryz.f147 ((x0, x1, x2) : Int × Int × Int) = zq179 x0 x1 x2 := by kernel_rfl
theorem zq179.ok : V.Valid Tryz.prog 147 zq179.con :=
  V.fo V.tab_nil Tryz.func147 (by kernel_rfl) (fun x y h => (show V.evBody zq179.E zq179.con Tryz.f147 x = _ from zq179.eq x.1 x.2.1 x.2.2).trans (V.cfl (by kernel_rfl) h))
noncomputable abbrev zq145.con : V.Con := ⟨(.cons (.sl (.cons (.int .i64) .nil)) (.cons (.int .i64) .nil)), (.cons .bool .nil), fun (x : List Int × Int) => zq145 x, [], [(true, 2)], [(false, 1)], [false], []⟩
noncomputable abbrev zq145.E : V.Env := V.mkE V.tys [(147, zq179.con)] [(4, [1, 3], [])] [(4, 22)] [] [] []
noncomputable abbrev zq145.kt (x0 : TKeys) : V.Kt Bool := V.ktOf zq145.E zq145.con Tryz.f245 ((x0.1, x0.2) : List Int × Int)
noncomputable abbrev zq145.s4 (x0 : TKeys) (v4_0 : Int) : V.St := ⟨[(1, .v false [.ptr 64000 0]), (3, .v false [.val (.int .i64 v4_0)])], [(64000, .box [.val (.sl (.cons (.int .i64) .nil) x0.1), .val (.int .i64 x0.2)])]⟩
theorem zq145.r4 (x0 : TKeys) (R : V.St → Option Bool) (v4_0 : Int) : V.loopF zq145.E Tryz.f245.ntmps [1, 0, 1, 0] [] (V.codeOf Tryz.f245) (zq145.kt x0) R (zq145.s4 x0 v4_0) = zq145.g4 x0 (fun v4_0 => R (zq145.s4 x0 v4_0)) v4_0 := by kernel_rfl
theorem zq145.e4 (x0 : TKeys) : ∀ (n : Nat) (v4_0 : Int), V.loopN (V.loopF zq145.E Tryz.f245.ntmps [1, 0, 1, 0] [] (V.codeOf Tryz.f245) (zq145.kt x0)) n (zq145.s4 x0 v4_0) = zq145.l4 x0 n v4_0 := by
  intro n
  induction n with
  | zero => intros; rw [V.loopN_z]; rfl
  | succ n ih =>
    intro v4_0
    rw [V.loopN_s, zq145.r4]
    simp only [ih]
    first | exact (zq145.u4 ..).symm | rfl
theorem zq145.v (x0 : TKeys) : V.evBody zq145.E zq145.con Tryz.f245 ((x0.1, x0.2) : List Int × Int) = zq145.b x0 (fun v4_0 => V.loopN (V.loopF zq145.E Tryz.f245.ntmps [1, 0, 1, 0] [] (V.codeOf Tryz.f245) (zq145.kt x0)) V.KK (zq145.s4 x0 v4_0)) := by kernel_rfl
theorem zq145.eq (x0 : TKeys) : V.evBody zq145.E zq145.con Tryz.f245 ((x0.1, x0.2) : List Int × Int) = zq145 x0 := by
  rw [zq145.v]
  simp only [zq145.e4]
  rfl
theorem zq145.ok : V.Valid Tryz.prog 245 zq145.con :=
  V.fo (V.tab_cons zq179.ok V.tab_nil) Tryz.func245 (by kernel_rfl) (fun x y h => (show V.evBody zq145.E zq145.con Tryz.f245 x = _ from zq145.eq x).trans (V.cfl (by kernel_rfl) h))
noncomputable abbrev zq160.con : V.Con := ⟨(.cons (.sl (.cons (.int .i64) .nil)) (.cons (.int .i64) .nil)), (.cons .bool .nil), fun (x : List Int × Int) => zq160 x, [], [(true, 2)], [(false, 1)], [false], []⟩
noncomputable abbrev zq160.E : V.Env := V.mkE V.tys [] [] [] [] [] []
theorem zq160.eq (x0 : TKeys) : V.evBody zq160.E zq160.con Tryz.f246 ((x0.1, x0.2) : List Int × Int) = zq160 x0 := by kernel_rfl
theorem zq160.ok : V.Valid Tryz.prog 246 zq160.con :=
  V.fo V.tab_nil Tryz.func246 (by kernel_rfl) (fun x y h => (show V.evBody zq160.E zq160.con Tryz.f246 x = _ from zq160.eq x).trans (V.cfl (by kernel_rfl) h))
noncomputable abbrev zq144.con : V.Con := ⟨V.A2, (.cons .bool .nil), fun (x : V.D2) => zq144 (V.p2_0 x), [], [(true, 16)], [(false, 1)], [false], []⟩
noncomputable abbrev zq144.E : V.Env := V.mkE V.tys [(147, zq179.con), (245, zq145.con), (246, zq160.con)] [(7, [1], []), (11, [1], []), (21, [1], [])] [] [] [] []
noncomputable abbrev zq144.kt (x0 : THead) : V.Kt Bool := V.ktOf zq144.E zq144.con Tryz.f183 (V.fl2 x0)
noncomputable abbrev zq144.s21 (x0 : THead) : V.St := ⟨[(1, .v false [.ptr 64000 0])], [(64000, .box [.val (.int .i64 x0.1), .val (.int .i64 x0.2.1), .val (.int .i64 x0.2.2.1), .val (.int .i64 x0.2.2.2.1), .val (.int .i64 x0.2.2.2.2.1), .val (.int .i64 x0.2.2.2.2.2.1), .val (.int .i64 x0.2.2.2.2.2.2.1), .val (.int .i64 x0.2.2.2.2.2.2.2.1), .val (.sl (.cons (.int .i64) .nil) x0.2.2.2.2.2.2.2.2.1), .val (.int .i64 x0.2.2.2.2.2.2.2.2.2.1), .val (.sl (.cons (.int .i64) .nil) x0.2.2.2.2.2.2.2.2.2.2.1), .val (.int .i64 x0.2.2.2.2.2.2.2.2.2.2.2.1), .val (.int .i64 x0.2.2.2.2.2.2.2.2.2.2.2.2.1), .val (.sl (.cons (.int .i64) .nil) x0.2.2.2.2.2.2.2.2.2.2.2.2.2.1), .val (.int .i64 x0.2.2.2.2.2.2.2.2.2.2.2.2.2.2.1), .val (.bool x0.2.2.2.2.2.2.2.2.2.2.2.2.2.2.2)])]⟩
noncomputable abbrev zq144.s11 (x0 : THead) : V.St := ⟨[(1, .v false [.ptr 64000 0])], [(64000, .box [.val (.int .i64 x0.1), .val (.int .i64 x0.2.1), .val (.int .i64 x0.2.2.1), .val (.int .i64 x0.2.2.2.1), .val (.int .i64 x0.2.2.2.2.1), .val (.int .i64 x0.2.2.2.2.2.1), .val (.int .i64 x0.2.2.2.2.2.2.1), .val (.int .i64 x0.2.2.2.2.2.2.2.1), .val (.sl (.cons (.int .i64) .nil) x0.2.2.2.2.2.2.2.2.1), .val (.int .i64 x0.2.2.2.2.2.2.2.2.2.1), .val (.sl (.cons (.int .i64) .nil) x0.2.2.2.2.2.2.2.2.2.2.1), .val (.int .i64 x0.2.2.2.2.2.2.2.2.2.2.2.1), .val (.int .i64 x0.2.2.2.2.2.2.2.2.2.2.2.2.1), .val (.sl (.cons (.int .i64) .nil) x0.2.2.2.2.2.2.2.2.2.2.2.2.2.1), .val (.int .i64 x0.2.2.2.2.2.2.2.2.2.2.2.2.2.2.1), .val (.bool x0.2.2.2.2.2.2.2.2.2.2.2.2.2.2.2)])]⟩
noncomputable abbrev zq144.s7 (x0 : THead) : V.St := ⟨[(1, .v false [.ptr 64000 0])], [(64000, .box [.val (.int .i64 x0.1), .val (.int .i64 x0.2.1), .val (.int .i64 x0.2.2.1), .val (.int .i64 x0.2.2.2.1), .val (.int .i64 x0.2.2.2.2.1), .val (.int .i64 x0.2.2.2.2.2.1), .val (.int .i64 x0.2.2.2.2.2.2.1), .val (.int .i64 x0.2.2.2.2.2.2.2.1), .val (.sl (.cons (.int .i64) .nil) x0.2.2.2.2.2.2.2.2.1), .val (.int .i64 x0.2.2.2.2.2.2.2.2.2.1), .val (.sl (.cons (.int .i64) .nil) x0.2.2.2.2.2.2.2.2.2.2.1), .val (.int .i64 x0.2.2.2.2.2.2.2.2.2.2.2.1), .val (.int .i64 x0.2.2.2.2.2.2.2.2.2.2.2.2.1), .val (.sl (.cons (.int .i64) .nil) x0.2.2.2.2.2.2.2.2.2.2.2.2.2.1), .val (.int .i64 x0.2.2.2.2.2.2.2.2.2.2.2.2.2.2.1), .val (.bool x0.2.2.2.2.2.2.2.2.2.2.2.2.2.2.2)])]⟩
theorem zq144.r21 (x0 : THead) : V.joinF zq144.E Tryz.f183.ntmps [1, 1, 1] [] (V.codeOf Tryz.f183) (zq144.kt x0) (zq144.s21 x0) = zq144.g21 x0 := by kernel_rfl
theorem zq144.e21 (x0 : THead) : V.jn (V.joinF zq144.E Tryz.f183.ntmps [1, 1, 1] [] (V.codeOf Tryz.f183) (zq144.kt x0)) (zq144.s21 x0) = zq144.l21 x0 := by
  rw [V.jn_eq, zq144.r21]
  rfl
theorem zq144.r11 (x0 : THead) : V.joinF zq144.E Tryz.f183.ntmps [1, 1] [] (V.codeOf Tryz.f183) (zq144.kt x0) (zq144.s11 x0) = zq144.g11 x0 (V.jn (V.joinF zq144.E Tryz.f183.ntmps [1, 1, 1] [] (V.codeOf Tryz.f183) (zq144.kt x0)) (zq144.s21 x0)) := by kernel_rfl
theorem zq144.e11 (x0 : THead) : V.jn (V.joinF zq144.E Tryz.f183.ntmps [1, 1] [] (V.codeOf Tryz.f183) (zq144.kt x0)) (zq144.s11 x0) = zq144.l11 x0 := by
  rw [V.jn_eq, zq144.r11]
  simp only [zq144.e21]
  rfl
theorem zq144.r7 (x0 : THead) : V.joinF zq144.E Tryz.f183.ntmps [1] [] (V.codeOf Tryz.f183) (zq144.kt x0) (zq144.s7 x0) = zq144.g7 x0 (V.jn (V.joinF zq144.E Tryz.f183.ntmps [1, 1] [] (V.codeOf Tryz.f183) (zq144.kt x0)) (zq144.s11 x0)) := by kernel_rfl
theorem zq144.e7 (x0 : THead) : V.jn (V.joinF zq144.E Tryz.f183.ntmps [1] [] (V.codeOf Tryz.f183) (zq144.kt x0)) (zq144.s7 x0) = zq144.l7 x0 := by
  rw [V.jn_eq, zq144.r7]
  simp only [zq144.e11]
  rfl
noncomputable abbrev zq144.s (x0 : THead) : V.St := ⟨[(0, .v true [.val (.int .i64 x0.1), .val (.int .i64 x0.2.1), .val (.int .i64 x0.2.2.1), .val (.int .i64 x0.2.2.2.1), .val (.int .i64 x0.2.2.2.2.1), .val (.int .i64 x0.2.2.2.2.2.1), .val (.int .i64 x0.2.2.2.2.2.2.1), .val (.int .i64 x0.2.2.2.2.2.2.2.1), .val (.sl (.cons (.int .i64) .nil) x0.2.2.2.2.2.2.2.2.1), .val (.int .i64 x0.2.2.2.2.2.2.2.2.2.1), .val (.sl (.cons (.int .i64) .nil) x0.2.2.2.2.2.2.2.2.2.2.1), .val (.int .i64 x0.2.2.2.2.2.2.2.2.2.2.2.1), .val (.int .i64 x0.2.2.2.2.2.2.2.2.2.2.2.2.1), .val (.sl (.cons (.int .i64) .nil) x0.2.2.2.2.2.2.2.2.2.2.2.2.2.1), .val (.int .i64 x0.2.2.2.2.2.2.2.2.2.2.2.2.2.2.1), .val (.bool x0.2.2.2.2.2.2.2.2.2.2.2.2.2.2.2)])], []⟩
theorem zq144.v0 (x0 : THead) : V.evBody zq144.E zq144.con Tryz.f183 (V.fl2 x0) = V.evC zq144.E Tryz.f183.ntmps (V.codeOf Tryz.f183) (zq144.kt x0) (zq144.s x0) := by kernel_rfl
theorem zq144.v (x0 : THead) : V.evC zq144.E Tryz.f183.ntmps (V.codeOf Tryz.f183) (zq144.kt x0) (zq144.s x0) = zq144.b x0 (V.jn (V.joinF zq144.E Tryz.f183.ntmps [1] [] (V.codeOf Tryz.f183) (zq144.kt x0)) (zq144.s7 x0)) := by kernel_rfl
theorem zq144.eq (x0 : THead) : V.evBody zq144.E zq144.con Tryz.f183 (V.fl2 x0) = zq144 x0 := by
  rw [zq144.v0, zq144.v]
  simp only [zq144.e7]
  rfl
theorem zq144.ok : V.Valid Tryz.prog 183 zq144.con :=
  V.fo (V.tab_cons zq179.ok (V.tab_cons zq145.ok (V.tab_cons zq160.ok V.tab_nil))) Tryz.func183 (by kernel_rfl) (fun x y h => (show V.evBody zq144.E zq144.con Tryz.f183 x = _ from zq144.eq (V.p2_0 x)).trans (V.cfl (by kernel_rfl) h))
noncomputable abbrev zq152.con : V.Con := ⟨(.cons (.sl (.cons (.int .i64) .nil)) (.cons (.int .i64) .nil)), (.cons (.sl (.cons (.int .i64) .nil)) .nil), fun (x : List Int × Int) => zq152 x, [], [(true, 2)], [(false, 1)], [true], []⟩
noncomputable abbrev zq152.E : V.Env := V.mkE V.tys [] [] [] [] [] []
theorem zq152.eq (x0 : TKeys) : V.evBody zq152.E zq152.con Tryz.f266 ((x0.1, x0.2) : List Int × Int) = zq152 x0 := by kernel_rfl
theorem zq152.ok : V.Valid Tryz.prog 266 zq152.con :=
  V.fo V.tab_nil Tryz.func266 (by kernel_rfl) (fun x y h => (show V.evBody zq152.E zq152.con Tryz.f266 x = _ from zq152.eq x).trans (V.cfl (by kernel_rfl) h))
noncomputable abbrev zq158.con : V.Con := ⟨(.cons (.int .i64) (.cons (.int .i64) .nil)), (.cons (.int .i64) .nil), fun (x : Int × Int) => zq158 x.1 x.2, [], [(false, 1), (false, 1)], [(false, 1)], [false], []⟩
noncomputable abbrev zq158.E : V.Env := V.mkE V.tys [(147, zq179.con)] [] [] [] [] []
theorem zq158.eq (x0 : Int) (x1 : Int) : V.evBody zq158.E zq158.con Tryz.f292 ((x0, x1) : Int × Int) = zq158 x0 x1 := by kernel_rfl
theorem zq158.ok : V.Valid Tryz.prog 292 zq158.con :=
  V.fo (V.tab_cons zq179.ok V.tab_nil) Tryz.func292 (by kernel_rfl) (fun x y h => (show V.evBody zq158.E zq158.con Tryz.f292 x = _ from zq158.eq x.1 x.2).trans (V.cfl (by kernel_rfl) h))
noncomputable abbrev zq138.con : V.Con := ⟨(.cons (.sl (.cons (.int .i64) .nil)) .nil), (.cons (.int .i64) .nil), fun (x : List Int) => zq138 x, [], [(false, 1)], [(false, 1)], [false], []⟩
noncomputable abbrev zq138.E : V.Env := V.mkE V.tys [(292, zq158.con)] [(6, [0, 3, 4], [])] [] [] [] []
noncomputable abbrev zq138.kt (x0 : List Int) : V.Kt Int := V.ktOf zq138.E zq138.con Tryz.f247 ((x0) : List Int)
noncomputable abbrev zq138.s6 (x0 : List Int) (v6_1 : Int) (v6_2 : Int) : V.St := ⟨[(0, .v false [.val (.sl (.cons (.int .i64) .nil) x0)]), (3, .v false [.val (.int .i64 v6_1)]), (4, .v false [.val (.int .i64 v6_2)])], []⟩
theorem zq138.r6 (x0 : List Int) (R : V.St → Option Int) (v6_1 : Int) (v6_2 : Int) : V.loopF zq138.E Tryz.f247.ntmps [1, 1, 0, 1, 0] [] (V.codeOf Tryz.f247) (zq138.kt x0) R (zq138.s6 x0 v6_1 v6_2) = zq138.g6 x0 (fun v6_1 v6_2 => R (zq138.s6 x0 v6_1 v6_2)) v6_1 v6_2 := by kernel_rfl
theorem zq138.e6 (x0 : List Int) : ∀ (n : Nat) (v6_1 : Int) (v6_2 : Int), V.loopN (V.loopF zq138.E Tryz.f247.ntmps [1, 1, 0, 1, 0] [] (V.codeOf Tryz.f247) (zq138.kt x0)) n (zq138.s6 x0 v6_1 v6_2) = zq138.l6 x0 n v6_1 v6_2 := by
  intro n
  induction n with
  | zero => intros; rw [V.loopN_z]; rfl
  | succ n ih =>
    intro v6_1 v6_2
    rw [V.loopN_s, zq138.r6]
    simp only [ih]
    first | exact (zq138.u6 ..).symm | rfl
theorem zq138.v (x0 : List Int) : V.evBody zq138.E zq138.con Tryz.f247 ((x0) : List Int) = zq138.b x0 (fun v6_1 v6_2 => V.loopN (V.loopF zq138.E Tryz.f247.ntmps [1, 1, 0, 1, 0] [] (V.codeOf Tryz.f247) (zq138.kt x0)) V.KK (zq138.s6 x0 v6_1 v6_2)) := by kernel_rfl
theorem zq138.eq (x0 : List Int) : V.evBody zq138.E zq138.con Tryz.f247 ((x0) : List Int) = zq138 x0 := by
  rw [zq138.v]
  simp only [zq138.e6]
  rfl
theorem zq138.ok : V.Valid Tryz.prog 247 zq138.con :=
  V.fo (V.tab_cons zq158.ok V.tab_nil) Tryz.func247 (by kernel_rfl) (fun x y h => (show V.evBody zq138.E zq138.con Tryz.f247 x = _ from zq138.eq x).trans (V.cfl (by kernel_rfl) h))
noncomputable abbrev zq170.con : V.Con := ⟨(.cons (.sl (.cons (.int .i64) .nil)) (.cons (.int .i64) (.cons (.int .i64) .nil))), (.cons (.int .i64) .nil), fun (x : List Int × Int × Int) => zq170 (x.1, x.2.1) x.2.2, [], [(true, 2), (false, 1)], [(false, 1)], [false], []⟩
noncomputable abbrev zq170.E : V.Env := V.mkE V.tys [(247, zq138.con), (266, zq152.con)] [] [] [] [] []
theorem zq170.eq (x0 : TKeys) (x1 : Int) : V.evBody zq170.E zq170.con Tryz.f224 ((x0.1, x0.2, x1) : List Int × Int × Int) = zq170 x0 x1 := by kernel_rfl
theorem zq170.ok : V.Valid Tryz.prog 224 zq170.con :=
  V.fo (V.tab_cons zq138.ok (V.tab_cons zq152.ok V.tab_nil)) Tryz.func224 (by kernel_rfl) (fun x y h => (show V.evBody zq170.E zq170.con Tryz.f224 x = _ from zq170.eq (x.1, x.2.1) x.2.2).trans (V.cfl (by kernel_rfl) h))
noncomputable abbrev zq140.con : V.Con := ⟨V.A2, (.cons (.sl (.cons (.int .i64) .nil)) .nil), fun (x : V.D2) => zq140 (V.p2_0 x), [], [(true, 16)], [(false, 1)], [true], []⟩
noncomputable abbrev zq140.E : V.Env := V.mkE V.tys [(266, zq152.con)] [] [] [] [] []
noncomputable abbrev zq140.kt (x0 : THead) : V.Kt (List Int) := V.ktOf zq140.E zq140.con Tryz.f205 (V.fl2 x0)
noncomputable abbrev zq140.s (x0 : THead) : V.St := ⟨[(0, .v true [.val (.int .i64 x0.1), .val (.int .i64 x0.2.1), .val (.int .i64 x0.2.2.1), .val (.int .i64 x0.2.2.2.1), .val (.int .i64 x0.2.2.2.2.1), .val (.int .i64 x0.2.2.2.2.2.1), .val (.int .i64 x0.2.2.2.2.2.2.1), .val (.int .i64 x0.2.2.2.2.2.2.2.1), .val (.sl (.cons (.int .i64) .nil) x0.2.2.2.2.2.2.2.2.1), .val (.int .i64 x0.2.2.2.2.2.2.2.2.2.1), .val (.sl (.cons (.int .i64) .nil) x0.2.2.2.2.2.2.2.2.2.2.1), .val (.int .i64 x0.2.2.2.2.2.2.2.2.2.2.2.1), .val (.int .i64 x0.2.2.2.2.2.2.2.2.2.2.2.2.1), .val (.sl (.cons (.int .i64) .nil) x0.2.2.2.2.2.2.2.2.2.2.2.2.2.1), .val (.int .i64 x0.2.2.2.2.2.2.2.2.2.2.2.2.2.2.1), .val (.bool x0.2.2.2.2.2.2.2.2.2.2.2.2.2.2.2)])], []⟩
theorem zq140.v0 (x0 : THead) : V.evBody zq140.E zq140.con Tryz.f205 (V.fl2 x0) = V.evC zq140.E Tryz.f205.ntmps (V.codeOf Tryz.f205) (zq140.kt x0) (zq140.s x0) := by kernel_rfl
theorem zq140.v (x0 : THead) : V.evC zq140.E Tryz.f205.ntmps (V.codeOf Tryz.f205) (zq140.kt x0) (zq140.s x0) = zq140 x0 := by kernel_rfl
theorem zq140.eq (x0 : THead) : V.evBody zq140.E zq140.con Tryz.f205 (V.fl2 x0) = zq140 x0 := (zq140.v0 x0).trans (zq140.v x0)
theorem zq140.ok : V.Valid Tryz.prog 205 zq140.con :=
  V.fo (V.tab_cons zq152.ok V.tab_nil) Tryz.func205 (by kernel_rfl) (fun x y h => (show V.evBody zq140.E zq140.con Tryz.f205 x = _ from zq140.eq (V.p2_0 x)).trans (V.cfl (by kernel_rfl) h))
noncomputable abbrev zq151.con : V.Con := ⟨(.cons (.int .i64) (.cons (.sl (.cons (.int .i64) .nil)) .nil)), (.cons (.int .i64) .nil), fun (x : Int × List Int) => zq151 x.1 x.2, [], [(false, 1), (false, 1)], [(false, 1)], [false], []⟩
noncomputable abbrev zq151.E : V.Env := V.mkE V.tys [(247, zq138.con)] [] [] [] [] []
theorem zq151.eq (x0 : Int) (x1 : List Int) : V.evBody zq151.E zq151.con Tryz.f214 ((x0, x1) : Int × List Int) = zq151 x0 x1 := by kernel_rfl
theorem zq151.ok : V.Valid Tryz.prog 214 zq151.con :=
  V.fo (V.tab_cons zq138.ok V.tab_nil) Tryz.func214 (by kernel_rfl) (fun x y h => (show V.evBody zq151.E zq151.con Tryz.f214 x = _ from zq151.eq x.1 x.2).trans (V.cfl (by kernel_rfl) h))
noncomputable abbrev zq168.con : V.Con := ⟨(.cons (.int .i64) (.cons (.sl (.cons (.int .i64) .nil)) .nil)), (.cons (.int .i64) .nil), fun (x : Int × List Int) => zq168 x.1 x.2, [], [(false, 1), (false, 1)], [(false, 1)], [false], []⟩
noncomputable abbrev zq168.E : V.Env := V.mkE V.tys [(214, zq151.con)] [] [] [] [] []
theorem zq168.eq (x0 : Int) (x1 : List Int) : V.evBody zq168.E zq168.con Tryz.f118 ((x0, x1) : Int × List Int) = zq168 x0 x1 := by kernel_rfl
theorem zq168.ok : V.Valid Tryz.prog 118 zq168.con :=
  V.fo (V.tab_cons zq151.ok V.tab_nil) Tryz.func118 (by kernel_rfl) (fun x y h => (show V.evBody zq168.E zq168.con Tryz.f118 x = _ from zq168.eq x.1 x.2).trans (V.cfl (by kernel_rfl) h))
noncomputable abbrev zq148.con : V.Con := ⟨(.cons (.int .i64) (.cons (.int .i64) (.cons (.sl (.cons (.int .i64) .nil)) .nil))), (.cons .bool .nil), fun (x : Int × Int × List Int) => zq148 (x.1, x.2.1) x.2.2, [], [(true, 2), (false, 1)], [(false, 1)], [false], []⟩
noncomputable abbrev zq148.E : V.Env := V.mkE V.tys [(118, zq168.con), (147, zq179.con)] [] [(1, 10)] [] [] []
theorem zq148.eq (x0 : TSig) (x1 : List Int) : V.evBody zq148.E zq148.con Tryz.f316 ((x0.1, x0.2, x1) : Int × Int × List Int) = zq148 x0 x1 := by kernel_rfl
theorem zq148.ok : V.Valid Tryz.prog 316 zq148.con :=
  V.fo (V.tab_cons zq168.ok (V.tab_cons zq179.ok V.tab_nil)) Tryz.func316 (by kernel_rfl) (fun x y h => (show V.evBody zq148.E zq148.con Tryz.f316 x = _ from zq148.eq (x.1, x.2.1) x.2.2).trans (V.cfl (by kernel_rfl) h))
noncomputable abbrev zq132.con : V.Con := ⟨(.cons (.sl (.cons (.int .i64) .nil)) (.cons (.int .i64) (.cons (.sl (.cons (.int .i64) .nil)) (.cons (.sl (.cons (.int .i64) (.cons (.int .i64) .nil))) .nil)))), (.cons (.int .i64) .nil), fun (x : List Int × Int × List Int × List TSig) => zq132 (x.1, x.2.1) x.2.2.1 x.2.2.2, [], [(true, 2), (false, 1), (false, 1)], [(false, 1)], [false], []⟩
noncomputable abbrev zq132.E : V.Env := V.mkE V.tys [(316, zq148.con)] [(6, [1, 2, 3, 7, 8], []), (12, [1, 2, 3, 7, 8, 9], []), (19, [1, 2, 3, 7, 8, 9, 41], [])] [(8, 17)] [] [] []
noncomputable abbrev zq132.kt (x0 : TKeys) (x1 : List Int) (x2 : List TSig) : V.Kt Int := V.ktOf zq132.E zq132.con Tryz.f309 ((x0.1, x0.2, x1, x2) : List Int × Int × List Int × List TSig)
noncomputable abbrev zq132.s19 (x0 : TKeys) (x1 : List Int) (x2 : List TSig) (v6_2 : Int) (v6_3 : Int) (v12_4 : Int) (v19_5 : Bool) : V.St := ⟨[(1, .v false [.val (.sl (.cons (.int .i64) .nil) x1)]), (2, .v false [.val (.sl (.cons (.int .i64) (.cons (.int .i64) .nil)) x2)]), (3, .v false [.ptr 64000 0]), (7, .v false [.val (.int .i64 v6_2)]), (8, .v false [.val (.int .i64 v6_3)]), (9, .v false [.val (.int .i64 v12_4)]), (41, .v false [.val (.bool v19_5)])], [(64000, .box [.val (.sl (.cons (.int .i64) .nil) x0.1), .val (.int .i64 x0.2)])]⟩
noncomputable abbrev zq132.s12 (x0 : TKeys) (x1 : List Int) (x2 : List TSig) (v6_2 : Int) (v6_3 : Int) (v12_4 : Int) : V.St := ⟨[(1, .v false [.val (.sl (.cons (.int .i64) .nil) x1)]), (2, .v false [.val (.sl (.cons (.int .i64) (.cons (.int .i64) .nil)) x2)]), (3, .v false [.ptr 64000 0]), (7, .v false [.val (.int .i64 v6_2)]), (8, .v false [.val (.int .i64 v6_3)]), (9, .v false [.val (.int .i64 v12_4)])], [(64000, .box [.val (.sl (.cons (.int .i64) .nil) x0.1), .val (.int .i64 x0.2)])]⟩
noncomputable abbrev zq132.s6 (x0 : TKeys) (x1 : List Int) (x2 : List TSig) (v6_2 : Int) (v6_3 : Int) : V.St := ⟨[(1, .v false [.val (.sl (.cons (.int .i64) .nil) x1)]), (2, .v false [.val (.sl (.cons (.int .i64) (.cons (.int .i64) .nil)) x2)]), (3, .v false [.ptr 64000 0]), (7, .v false [.val (.int .i64 v6_2)]), (8, .v false [.val (.int .i64 v6_3)])], [(64000, .box [.val (.sl (.cons (.int .i64) .nil) x0.1), .val (.int .i64 x0.2)])]⟩
theorem zq132.r19 (x0 : TKeys) (x1 : List Int) (x2 : List TSig) (v12_4 : Int) (v6_2 : Int) (v6_3 : Int) (R6 : V.St → Option Int) (R12 : V.St → Option Int) (v19_5 : Bool) : V.joinF zq132.E Tryz.f309.ntmps [1, 1, 0, 1, 0, 0, 1, 0, 0, 1, 0, 0, 1, 0, 0] [R6, R12] (V.codeOf Tryz.f309) (zq132.kt x0 x1 x2) (zq132.s19 x0 x1 x2 v6_2 v6_3 v12_4 v19_5) = zq132.g19 x0 x1 x2 v6_2 v6_3 v12_4 (fun v6_2 v6_3 => R6 (zq132.s6 x0 x1 x2 v6_2 v6_3)) (fun v12_4 => R12 (zq132.s12 x0 x1 x2 v6_2 v6_3 v12_4)) v19_5 := by kernel_rfl
theorem zq132.e19 (x0 : TKeys) (x1 : List Int) (x2 : List TSig) (v12_4 : Int) (v6_2 : Int) (v6_3 : Int) (R6 : V.St → Option Int) (R12 : V.St → Option Int) (v19_5 : Bool) : V.jn (V.joinF zq132.E Tryz.f309.ntmps [1, 1, 0, 1, 0, 0, 1, 0, 0, 1, 0, 0, 1, 0, 0] [R6, R12] (V.codeOf Tryz.f309) (zq132.kt x0 x1 x2)) (zq132.s19 x0 x1 x2 v6_2 v6_3 v12_4 v19_5) = zq132.l19 x0 x1 x2 v6_2 v6_3 v12_4 (fun v6_2 v6_3 => R6 (zq132.s6 x0 x1 x2 v6_2 v6_3)) (fun v12_4 => R12 (zq132.s12 x0 x1 x2 v6_2 v6_3 v12_4)) v19_5 := by
  rw [V.jn_eq, zq132.r19]
  rfl
theorem zq132.r12 (x0 : TKeys) (x1 : List Int) (x2 : List TSig) (v6_2 : Int) (v6_3 : Int) (R6 : V.St → Option Int) (R : V.St → Option Int) (v12_4 : Int) : V.loopF zq132.E Tryz.f309.ntmps [1, 1, 0, 1, 0, 0, 1, 0, 0, 1, 0] [R6] (V.codeOf Tryz.f309) (zq132.kt x0 x1 x2) R (zq132.s12 x0 x1 x2 v6_2 v6_3 v12_4) = zq132.g12 x0 x1 x2 v6_2 v6_3 (fun v6_2 v6_3 => R6 (zq132.s6 x0 x1 x2 v6_2 v6_3)) (fun v12_4 => R (zq132.s12 x0 x1 x2 v6_2 v6_3 v12_4)) (fun v19_5 => V.jn (V.joinF zq132.E Tryz.f309.ntmps [1, 1, 0, 1, 0, 0, 1, 0, 0, 1, 0, 0, 1, 0, 0] [R6, R] (V.codeOf Tryz.f309) (zq132.kt x0 x1 x2)) (zq132.s19 x0 x1 x2 v6_2 v6_3 v12_4 v19_5)) v12_4 := by kernel_rfl
theorem zq132.e12 (x0 : TKeys) (x1 : List Int) (x2 : List TSig) (v6_2 : Int) (v6_3 : Int) (R6 : V.St → Option Int) : ∀ (n : Nat) (v12_4 : Int), V.loopN (V.loopF zq132.E Tryz.f309.ntmps [1, 1, 0, 1, 0, 0, 1, 0, 0, 1, 0] [R6] (V.codeOf Tryz.f309) (zq132.kt x0 x1 x2)) n (zq132.s12 x0 x1 x2 v6_2 v6_3 v12_4) = zq132.l12 x0 x1 x2 v6_2 v6_3 (fun v6_2 v6_3 => R6 (zq132.s6 x0 x1 x2 v6_2 v6_3)) n v12_4 := by
  intro n
  induction n with
  | zero => intros; rw [V.loopN_z]; rfl
  | succ n ih =>
    intro v12_4
    rw [V.loopN_s, zq132.r12]
    simp only [zq132.e19, ih]
    first | exact (zq132.u12 ..).symm | rfl
theorem zq132.r6 (x0 : TKeys) (x1 : List Int) (x2 : List TSig) (R : V.St → Option Int) (v6_2 : Int) (v6_3 : Int) : V.loopF zq132.E Tryz.f309.ntmps [1, 1, 0, 1, 0] [] (V.codeOf Tryz.f309) (zq132.kt x0 x1 x2) R (zq132.s6 x0 x1 x2 v6_2 v6_3) = zq132.g6 x0 x1 x2 (fun v6_2 v6_3 => R (zq132.s6 x0 x1 x2 v6_2 v6_3)) (fun v12_4 => V.loopN (V.loopF zq132.E Tryz.f309.ntmps [1, 1, 0, 1, 0, 0, 1, 0, 0, 1, 0] [R] (V.codeOf Tryz.f309) (zq132.kt x0 x1 x2)) V.KK (zq132.s12 x0 x1 x2 v6_2 v6_3 v12_4)) v6_2 v6_3 := by kernel_rfl
theorem zq132.e6 (x0 : TKeys) (x1 : List Int) (x2 : List TSig) : ∀ (n : Nat) (v6_2 : Int) (v6_3 : Int), V.loopN (V.loopF zq132.E Tryz.f309.ntmps [1, 1, 0, 1, 0] [] (V.codeOf Tryz.f309) (zq132.kt x0 x1 x2)) n (zq132.s6 x0 x1 x2 v6_2 v6_3) = zq132.l6 x0 x1 x2 n v6_2 v6_3 := by
  intro n
  induction n with
  | zero => intros; rw [V.loopN_z]; rfl
  | succ n ih =>
    intro v6_2 v6_3
    rw [V.loopN_s, zq132.r6]
    simp only [zq132.e12, ih]
    first | exact (zq132.u6 ..).symm | rfl
theorem zq132.v (x0 : TKeys) (x1 : List Int) (x2 : List TSig) : V.evBody zq132.E zq132.con Tryz.f309 ((x0.1, x0.2, x1, x2) : List Int × Int × List Int × List TSig) = zq132.b x0 x1 x2 (fun v6_2 v6_3 => V.loopN (V.loopF zq132.E Tryz.f309.ntmps [1, 1, 0, 1, 0] [] (V.codeOf Tryz.f309) (zq132.kt x0 x1 x2)) V.KK (zq132.s6 x0 x1 x2 v6_2 v6_3)) := by kernel_rfl
theorem zq132.eq (x0 : TKeys) (x1 : List Int) (x2 : List TSig) : V.evBody zq132.E zq132.con Tryz.f309 ((x0.1, x0.2, x1, x2) : List Int × Int × List Int × List TSig) = zq132 x0 x1 x2 := by
  rw [zq132.v]
  simp only [zq132.e6]
  rfl
theorem zq132.ok : V.Valid Tryz.prog 309 zq132.con :=
  V.fo (V.tab_cons zq148.ok V.tab_nil) Tryz.func309 (by kernel_rfl) (fun x y h => (show V.evBody zq132.E zq132.con Tryz.f309 x = _ from zq132.eq (x.1, x.2.1) x.2.2.1 x.2.2.2).trans (V.cfl (by kernel_rfl) h))
noncomputable abbrev zq149.con : V.Con := ⟨(.cons (.sl (.cons (.int .i64) .nil)) (.cons (.int .i64) (.cons (.sl (.cons (.int .i64) .nil)) (.cons (.sl (.cons (.int .i64) (.cons (.int .i64) .nil))) .nil)))), (.cons .bool .nil), fun (x : List Int × Int × List Int × List TSig) => zq149 (x.1, x.2.1) x.2.2.1 x.2.2.2, [], [(true, 2), (false, 1), (false, 1)], [(false, 1)], [false], []⟩
noncomputable abbrev zq149.E : V.Env := V.mkE V.tys [(245, zq145.con), (309, zq132.con)] [] [(1, 9)] [] [] []
theorem zq149.eq (x0 : TKeys) (x1 : List Int) (x2 : List TSig) : V.evBody zq149.E zq149.con Tryz.f287 ((x0.1, x0.2, x1, x2) : List Int × Int × List Int × List TSig) = zq149 x0 x1 x2 := by kernel_rfl
theorem zq149.ok : V.Valid Tryz.prog 287 zq149.con :=
  V.fo (V.tab_cons zq145.ok (V.tab_cons zq132.ok V.tab_nil)) Tryz.func287 (by kernel_rfl) (fun x y h => (show V.evBody zq149.E zq149.con Tryz.f287 x = _ from zq149.eq (x.1, x.2.1) x.2.2.1 x.2.2.2).trans (V.cfl (by kernel_rfl) h))
noncomputable abbrev zq143.con : V.Con := ⟨V.A3, (.cons .bool .nil), fun (x : V.D3) => zq143 (V.p3_0 x), [], [(true, 17)], [(false, 1)], [false], []⟩
noncomputable abbrev zq143.E : V.Env := V.mkE V.tys [(183, zq144.con), (205, zq140.con), (224, zq170.con), (287, zq149.con)] [] [(2, 34)] [] [] []
noncomputable abbrev zq143.kt (x0 : TSigned) : V.Kt Bool := V.ktOf zq143.E zq143.con Tryz.f264 (V.fl3 x0)
noncomputable abbrev zq143.s (x0 : TSigned) : V.St := ⟨[(0, .v true [.val (.int .i64 x0.1), .val (.int .i64 x0.2.1), .val (.int .i64 x0.2.2.1), .val (.int .i64 x0.2.2.2.1), .val (.int .i64 x0.2.2.2.2.1), .val (.int .i64 x0.2.2.2.2.2.1), .val (.int .i64 x0.2.2.2.2.2.2.1), .val (.int .i64 x0.2.2.2.2.2.2.2.1), .val (.sl (.cons (.int .i64) .nil) x0.2.2.2.2.2.2.2.2.1), .val (.int .i64 x0.2.2.2.2.2.2.2.2.2.1), .val (.sl (.cons (.int .i64) .nil) x0.2.2.2.2.2.2.2.2.2.2.1), .val (.int .i64 x0.2.2.2.2.2.2.2.2.2.2.2.1), .val (.int .i64 x0.2.2.2.2.2.2.2.2.2.2.2.2.1), .val (.sl (.cons (.int .i64) .nil) x0.2.2.2.2.2.2.2.2.2.2.2.2.2.1), .val (.int .i64 x0.2.2.2.2.2.2.2.2.2.2.2.2.2.2.1), .val (.bool x0.2.2.2.2.2.2.2.2.2.2.2.2.2.2.2.1), .val (.sl (.cons (.int .i64) (.cons (.int .i64) .nil)) x0.2.2.2.2.2.2.2.2.2.2.2.2.2.2.2.2)])], []⟩
theorem zq143.v0 (x0 : TSigned) : V.evBody zq143.E zq143.con Tryz.f264 (V.fl3 x0) = V.evC zq143.E Tryz.f264.ntmps (V.codeOf Tryz.f264) (zq143.kt x0) (zq143.s x0) := by kernel_rfl
theorem zq143.v (x0 : TSigned) : V.evC zq143.E Tryz.f264.ntmps (V.codeOf Tryz.f264) (zq143.kt x0) (zq143.s x0) = zq143 x0 := by kernel_rfl
theorem zq143.eq (x0 : TSigned) : V.evBody zq143.E zq143.con Tryz.f264 (V.fl3 x0) = zq143 x0 := (zq143.v0 x0).trans (zq143.v x0)
theorem zq143.ok : V.Valid Tryz.prog 264 zq143.con :=
  V.fo (V.tab_cons zq144.ok (V.tab_cons zq140.ok (V.tab_cons zq170.ok (V.tab_cons zq149.ok V.tab_nil)))) Tryz.func264 (by kernel_rfl) (fun x y h => (show V.evBody zq143.E zq143.con Tryz.f264 x = _ from zq143.eq (V.p3_0 x)).trans (V.cfl (by kernel_rfl) h))
noncomputable abbrev zq139.con : V.Con := ⟨V.A2, (.cons (.int .i64) .nil), fun (x : V.D2) => zq139 (V.p2_0 x), [], [(true, 16)], [(false, 1)], [false], []⟩
noncomputable abbrev zq139.E : V.Env := V.mkE V.tys [(205, zq140.con), (247, zq138.con)] [] [] [] [] []
noncomputable abbrev zq139.kt (x0 : THead) : V.Kt Int := V.ktOf zq139.E zq139.con Tryz.f185 (V.fl2 x0)
noncomputable abbrev zq139.s (x0 : THead) : V.St := ⟨[(0, .v true [.val (.int .i64 x0.1), .val (.int .i64 x0.2.1), .val (.int .i64 x0.2.2.1), .val (.int .i64 x0.2.2.2.1), .val (.int .i64 x0.2.2.2.2.1), .val (.int .i64 x0.2.2.2.2.2.1), .val (.int .i64 x0.2.2.2.2.2.2.1), .val (.int .i64 x0.2.2.2.2.2.2.2.1), .val (.sl (.cons (.int .i64) .nil) x0.2.2.2.2.2.2.2.2.1), .val (.int .i64 x0.2.2.2.2.2.2.2.2.2.1), .val (.sl (.cons (.int .i64) .nil) x0.2.2.2.2.2.2.2.2.2.2.1), .val (.int .i64 x0.2.2.2.2.2.2.2.2.2.2.2.1), .val (.int .i64 x0.2.2.2.2.2.2.2.2.2.2.2.2.1), .val (.sl (.cons (.int .i64) .nil) x0.2.2.2.2.2.2.2.2.2.2.2.2.2.1), .val (.int .i64 x0.2.2.2.2.2.2.2.2.2.2.2.2.2.2.1), .val (.bool x0.2.2.2.2.2.2.2.2.2.2.2.2.2.2.2)])], []⟩
theorem zq139.v0 (x0 : THead) : V.evBody zq139.E zq139.con Tryz.f185 (V.fl2 x0) = V.evC zq139.E Tryz.f185.ntmps (V.codeOf Tryz.f185) (zq139.kt x0) (zq139.s x0) := by kernel_rfl
theorem zq139.v (x0 : THead) : V.evC zq139.E Tryz.f185.ntmps (V.codeOf Tryz.f185) (zq139.kt x0) (zq139.s x0) = zq139 x0 := by kernel_rfl
theorem zq139.eq (x0 : THead) : V.evBody zq139.E zq139.con Tryz.f185 (V.fl2 x0) = zq139 x0 := (zq139.v0 x0).trans (zq139.v x0)
theorem zq139.ok : V.Valid Tryz.prog 185 zq139.con :=
  V.fo (V.tab_cons zq140.ok (V.tab_cons zq138.ok V.tab_nil)) Tryz.func185 (by kernel_rfl) (fun x y h => (show V.evBody zq139.E zq139.con Tryz.f185 x = _ from zq139.eq (V.p2_0 x)).trans (V.cfl (by kernel_rfl) h))
noncomputable abbrev zq177.con : V.Con := ⟨V.A4, (.cons (.int .i64) .nil), fun (x : V.D4) => zq177 (V.p4_0 x) (V.p4_1 x), [], [(true, 16), (true, 16)], [(false, 1)], [false], []⟩
noncomputable abbrev zq177.E : V.Env := V.mkE V.tys [] [] [] [] [] []
noncomputable abbrev zq177.kt (x0 : THead) (x1 : THead) : V.Kt Int := V.ktOf zq177.E zq177.con Tryz.f284 (V.fl4 x0 x1)
noncomputable abbrev zq177.s (x0 : THead) (x1 : THead) : V.St := ⟨[(0, .v true [.val (.int .i64 x0.1), .val (.int .i64 x0.2.1), .val (.int .i64 x0.2.2.1), .val (.int .i64 x0.2.2.2.1), .val (.int .i64 x0.2.2.2.2.1), .val (.int .i64 x0.2.2.2.2.2.1), .val (.int .i64 x0.2.2.2.2.2.2.1), .val (.int .i64 x0.2.2.2.2.2.2.2.1), .val (.sl (.cons (.int .i64) .nil) x0.2.2.2.2.2.2.2.2.1), .val (.int .i64 x0.2.2.2.2.2.2.2.2.2.1), .val (.sl (.cons (.int .i64) .nil) x0.2.2.2.2.2.2.2.2.2.2.1), .val (.int .i64 x0.2.2.2.2.2.2.2.2.2.2.2.1), .val (.int .i64 x0.2.2.2.2.2.2.2.2.2.2.2.2.1), .val (.sl (.cons (.int .i64) .nil) x0.2.2.2.2.2.2.2.2.2.2.2.2.2.1), .val (.int .i64 x0.2.2.2.2.2.2.2.2.2.2.2.2.2.2.1), .val (.bool x0.2.2.2.2.2.2.2.2.2.2.2.2.2.2.2)]), (1, .v true [.val (.int .i64 x1.1), .val (.int .i64 x1.2.1), .val (.int .i64 x1.2.2.1), .val (.int .i64 x1.2.2.2.1), .val (.int .i64 x1.2.2.2.2.1), .val (.int .i64 x1.2.2.2.2.2.1), .val (.int .i64 x1.2.2.2.2.2.2.1), .val (.int .i64 x1.2.2.2.2.2.2.2.1), .val (.sl (.cons (.int .i64) .nil) x1.2.2.2.2.2.2.2.2.1), .val (.int .i64 x1.2.2.2.2.2.2.2.2.2.1), .val (.sl (.cons (.int .i64) .nil) x1.2.2.2.2.2.2.2.2.2.2.1), .val (.int .i64 x1.2.2.2.2.2.2.2.2.2.2.2.1), .val (.int .i64 x1.2.2.2.2.2.2.2.2.2.2.2.2.1), .val (.sl (.cons (.int .i64) .nil) x1.2.2.2.2.2.2.2.2.2.2.2.2.2.1), .val (.int .i64 x1.2.2.2.2.2.2.2.2.2.2.2.2.2.2.1), .val (.bool x1.2.2.2.2.2.2.2.2.2.2.2.2.2.2.2)])], []⟩
theorem zq177.v0 (x0 : THead) (x1 : THead) : V.evBody zq177.E zq177.con Tryz.f284 (V.fl4 x0 x1) = V.evC zq177.E Tryz.f284.ntmps (V.codeOf Tryz.f284) (zq177.kt x0 x1) (zq177.s x0 x1) := by kernel_rfl
theorem zq177.v (x0 : THead) (x1 : THead) : V.evC zq177.E Tryz.f284.ntmps (V.codeOf Tryz.f284) (zq177.kt x0 x1) (zq177.s x0 x1) = zq177 x0 x1 := by kernel_rfl
theorem zq177.eq (x0 : THead) (x1 : THead) : V.evBody zq177.E zq177.con Tryz.f284 (V.fl4 x0 x1) = zq177 x0 x1 := (zq177.v0 x0 x1).trans (zq177.v x0 x1)
theorem zq177.ok : V.Valid Tryz.prog 284 zq177.con :=
  V.fo V.tab_nil Tryz.func284 (by kernel_rfl) (fun x y h => (show V.evBody zq177.E zq177.con Tryz.f284 x = _ from zq177.eq (V.p4_0 x) (V.p4_1 x)).trans (V.cfl (by kernel_rfl) h))
noncomputable abbrev zq134.con : V.Con := ⟨(.cons (.sl (.cons (.int .i64) .nil)) (.cons (.sl (.cons (.int .i64) .nil)) .nil)), (.cons .bool .nil), fun (x : List Int × List Int) => zq134 x.1 x.2, [], [(false, 1), (false, 1)], [(false, 1)], [false], []⟩
noncomputable abbrev zq134.E : V.Env := V.mkE V.tys [] [(8, [0, 1, 5], [])] [(6, 8)] [] [] []
noncomputable abbrev zq134.kt (x0 : List Int) (x1 : List Int) : V.Kt Bool := V.ktOf zq134.E zq134.con Tryz.f204 ((x0, x1) : List Int × List Int)
noncomputable abbrev zq134.s8 (x0 : List Int) (x1 : List Int) (v8_2 : Int) : V.St := ⟨[(0, .v false [.val (.sl (.cons (.int .i64) .nil) x0)]), (1, .v false [.val (.sl (.cons (.int .i64) .nil) x1)]), (5, .v false [.val (.int .i64 v8_2)])], []⟩
theorem zq134.r8 (x0 : List Int) (x1 : List Int) (R : V.St → Option Bool) (v8_2 : Int) : V.loopF zq134.E Tryz.f204.ntmps [1, 1, 0, 1, 0] [] (V.codeOf Tryz.f204) (zq134.kt x0 x1) R (zq134.s8 x0 x1 v8_2) = zq134.g8 x0 x1 (fun v8_2 => R (zq134.s8 x0 x1 v8_2)) v8_2 := by kernel_rfl
theorem zq134.e8 (x0 : List Int) (x1 : List Int) : ∀ (n : Nat) (v8_2 : Int), V.loopN (V.loopF zq134.E Tryz.f204.ntmps [1, 1, 0, 1, 0] [] (V.codeOf Tryz.f204) (zq134.kt x0 x1)) n (zq134.s8 x0 x1 v8_2) = zq134.l8 x0 x1 n v8_2 := by
  intro n
  induction n with
  | zero => intros; rw [V.loopN_z]; rfl
  | succ n ih =>
    intro v8_2
    rw [V.loopN_s, zq134.r8]
    simp only [ih]
    first | exact (zq134.u8 ..).symm | rfl
theorem zq134.v (x0 : List Int) (x1 : List Int) : V.evBody zq134.E zq134.con Tryz.f204 ((x0, x1) : List Int × List Int) = zq134.b x0 x1 (fun v8_2 => V.loopN (V.loopF zq134.E Tryz.f204.ntmps [1, 1, 0, 1, 0] [] (V.codeOf Tryz.f204) (zq134.kt x0 x1)) V.KK (zq134.s8 x0 x1 v8_2)) := by kernel_rfl
theorem zq134.eq (x0 : List Int) (x1 : List Int) : V.evBody zq134.E zq134.con Tryz.f204 ((x0, x1) : List Int × List Int) = zq134 x0 x1 := by
  rw [zq134.v]
  simp only [zq134.e8]
  rfl
theorem zq134.ok : V.Valid Tryz.prog 204 zq134.con :=
  V.fo V.tab_nil Tryz.func204 (by kernel_rfl) (fun x y h => (show V.evBody zq134.E zq134.con Tryz.f204 x = _ from zq134.eq x.1 x.2).trans (V.cfl (by kernel_rfl) h))
noncomputable abbrev zq135.con : V.Con := ⟨(.cons (.sl (.cons (.int .i64) .nil)) (.cons (.int .i64) (.cons (.sl (.cons (.int .i64) .nil)) (.cons (.int .i64) .nil)))), (.cons .bool .nil), fun (x : List Int × Int × List Int × Int) => zq135 (x.1, x.2.1) x.2.2, [], [(true, 2), (true, 2)], [(false, 1)], [false], []⟩
noncomputable abbrev zq135.E : V.Env := V.mkE V.tys [(204, zq134.con)] [] [] [] [] []
theorem zq135.eq (x0 : TKeys) (x1 : TKeys) : V.evBody zq135.E zq135.con Tryz.f307 ((x0.1, x0.2, x1.1, x1.2) : List Int × Int × List Int × Int) = zq135 x0 x1 := by kernel_rfl
theorem zq135.ok : V.Valid Tryz.prog 307 zq135.con :=
  V.fo (V.tab_cons zq134.ok V.tab_nil) Tryz.func307 (by kernel_rfl) (fun x y h => (show V.evBody zq135.E zq135.con Tryz.f307 x = _ from zq135.eq (x.1, x.2.1) x.2.2).trans (V.cfl (by kernel_rfl) h))
noncomputable abbrev zq164.con : V.Con := ⟨V.A4, (.cons .bool .nil), fun (x : V.D4) => zq164 (V.p4_0 x) (V.p4_1 x), [], [(true, 16), (true, 16)], [(false, 1)], [false], []⟩
noncomputable abbrev zq164.E : V.Env := V.mkE V.tys [] [] [] [] [] []
noncomputable abbrev zq164.kt (x0 : THead) (x1 : THead) : V.Kt Bool := V.ktOf zq164.E zq164.con Tryz.f308 (V.fl4 x0 x1)
noncomputable abbrev zq164.s (x0 : THead) (x1 : THead) : V.St := ⟨[(0, .v true [.val (.int .i64 x0.1), .val (.int .i64 x0.2.1), .val (.int .i64 x0.2.2.1), .val (.int .i64 x0.2.2.2.1), .val (.int .i64 x0.2.2.2.2.1), .val (.int .i64 x0.2.2.2.2.2.1), .val (.int .i64 x0.2.2.2.2.2.2.1), .val (.int .i64 x0.2.2.2.2.2.2.2.1), .val (.sl (.cons (.int .i64) .nil) x0.2.2.2.2.2.2.2.2.1), .val (.int .i64 x0.2.2.2.2.2.2.2.2.2.1), .val (.sl (.cons (.int .i64) .nil) x0.2.2.2.2.2.2.2.2.2.2.1), .val (.int .i64 x0.2.2.2.2.2.2.2.2.2.2.2.1), .val (.int .i64 x0.2.2.2.2.2.2.2.2.2.2.2.2.1), .val (.sl (.cons (.int .i64) .nil) x0.2.2.2.2.2.2.2.2.2.2.2.2.2.1), .val (.int .i64 x0.2.2.2.2.2.2.2.2.2.2.2.2.2.2.1), .val (.bool x0.2.2.2.2.2.2.2.2.2.2.2.2.2.2.2)]), (1, .v true [.val (.int .i64 x1.1), .val (.int .i64 x1.2.1), .val (.int .i64 x1.2.2.1), .val (.int .i64 x1.2.2.2.1), .val (.int .i64 x1.2.2.2.2.1), .val (.int .i64 x1.2.2.2.2.2.1), .val (.int .i64 x1.2.2.2.2.2.2.1), .val (.int .i64 x1.2.2.2.2.2.2.2.1), .val (.sl (.cons (.int .i64) .nil) x1.2.2.2.2.2.2.2.2.1), .val (.int .i64 x1.2.2.2.2.2.2.2.2.2.1), .val (.sl (.cons (.int .i64) .nil) x1.2.2.2.2.2.2.2.2.2.2.1), .val (.int .i64 x1.2.2.2.2.2.2.2.2.2.2.2.1), .val (.int .i64 x1.2.2.2.2.2.2.2.2.2.2.2.2.1), .val (.sl (.cons (.int .i64) .nil) x1.2.2.2.2.2.2.2.2.2.2.2.2.2.1), .val (.int .i64 x1.2.2.2.2.2.2.2.2.2.2.2.2.2.2.1), .val (.bool x1.2.2.2.2.2.2.2.2.2.2.2.2.2.2.2)])], []⟩
theorem zq164.v0 (x0 : THead) (x1 : THead) : V.evBody zq164.E zq164.con Tryz.f308 (V.fl4 x0 x1) = V.evC zq164.E Tryz.f308.ntmps (V.codeOf Tryz.f308) (zq164.kt x0 x1) (zq164.s x0 x1) := by kernel_rfl
theorem zq164.v (x0 : THead) (x1 : THead) : V.evC zq164.E Tryz.f308.ntmps (V.codeOf Tryz.f308) (zq164.kt x0 x1) (zq164.s x0 x1) = zq164 x0 x1 := by kernel_rfl
theorem zq164.eq (x0 : THead) (x1 : THead) : V.evBody zq164.E zq164.con Tryz.f308 (V.fl4 x0 x1) = zq164 x0 x1 := (zq164.v0 x0 x1).trans (zq164.v x0 x1)
theorem zq164.ok : V.Valid Tryz.prog 308 zq164.con :=
  V.fo V.tab_nil Tryz.func308 (by kernel_rfl) (fun x y h => (show V.evBody zq164.E zq164.con Tryz.f308 x = _ from zq164.eq (V.p4_0 x) (V.p4_1 x)).trans (V.cfl (by kernel_rfl) h))
noncomputable abbrev zq175.con : V.Con := ⟨V.A4, (.cons (.int .i64) .nil), fun (x : V.D4) => zq175 (V.p4_0 x) (V.p4_1 x), [], [(true, 16), (true, 16)], [(false, 1)], [false], []⟩
noncomputable abbrev zq175.E : V.Env := V.mkE V.tys [(246, zq160.con), (307, zq135.con), (308, zq164.con)] [(9, [2, 3, 8], [])] [] [] [] []
noncomputable abbrev zq175.kt (x0 : THead) (x1 : THead) : V.Kt Int := V.ktOf zq175.E zq175.con Tryz.f285 (V.fl4 x0 x1)
noncomputable abbrev zq175.s9 (x0 : THead) (x1 : THead) (v9_0 : Bool) : V.St := ⟨[(2, .v false [.ptr 64000 0]), (3, .v false [.ptr 64064 0]), (8, .v false [.val (.bool v9_0)])], [(64000, .box [.val (.int .i64 x0.1), .val (.int .i64 x0.2.1), .val (.int .i64 x0.2.2.1), .val (.int .i64 x0.2.2.2.1), .val (.int .i64 x0.2.2.2.2.1), .val (.int .i64 x0.2.2.2.2.2.1), .val (.int .i64 x0.2.2.2.2.2.2.1), .val (.int .i64 x0.2.2.2.2.2.2.2.1), .val (.sl (.cons (.int .i64) .nil) x0.2.2.2.2.2.2.2.2.1), .val (.int .i64 x0.2.2.2.2.2.2.2.2.2.1), .val (.sl (.cons (.int .i64) .nil) x0.2.2.2.2.2.2.2.2.2.2.1), .val (.int .i64 x0.2.2.2.2.2.2.2.2.2.2.2.1), .val (.int .i64 x0.2.2.2.2.2.2.2.2.2.2.2.2.1), .val (.sl (.cons (.int .i64) .nil) x0.2.2.2.2.2.2.2.2.2.2.2.2.2.1), .val (.int .i64 x0.2.2.2.2.2.2.2.2.2.2.2.2.2.2.1), .val (.bool x0.2.2.2.2.2.2.2.2.2.2.2.2.2.2.2)]), (64064, .box [.val (.int .i64 x1.1), .val (.int .i64 x1.2.1), .val (.int .i64 x1.2.2.1), .val (.int .i64 x1.2.2.2.1), .val (.int .i64 x1.2.2.2.2.1), .val (.int .i64 x1.2.2.2.2.2.1), .val (.int .i64 x1.2.2.2.2.2.2.1), .val (.int .i64 x1.2.2.2.2.2.2.2.1), .val (.sl (.cons (.int .i64) .nil) x1.2.2.2.2.2.2.2.2.1), .val (.int .i64 x1.2.2.2.2.2.2.2.2.2.1), .val (.sl (.cons (.int .i64) .nil) x1.2.2.2.2.2.2.2.2.2.2.1), .val (.int .i64 x1.2.2.2.2.2.2.2.2.2.2.2.1), .val (.int .i64 x1.2.2.2.2.2.2.2.2.2.2.2.2.1), .val (.sl (.cons (.int .i64) .nil) x1.2.2.2.2.2.2.2.2.2.2.2.2.2.1), .val (.int .i64 x1.2.2.2.2.2.2.2.2.2.2.2.2.2.2.1), .val (.bool x1.2.2.2.2.2.2.2.2.2.2.2.2.2.2.2)])]⟩
theorem zq175.r9 (x0 : THead) (x1 : THead) (v9_0 : Bool) : V.joinF zq175.E Tryz.f285.ntmps [1, 0, 0, 1, 1] [] (V.codeOf Tryz.f285) (zq175.kt x0 x1) (zq175.s9 x0 x1 v9_0) = zq175.g9 x0 x1 v9_0 := by kernel_rfl
theorem zq175.e9 (x0 : THead) (x1 : THead) (v9_0 : Bool) : V.jn (V.joinF zq175.E Tryz.f285.ntmps [1, 0, 0, 1, 1] [] (V.codeOf Tryz.f285) (zq175.kt x0 x1)) (zq175.s9 x0 x1 v9_0) = zq175.l9 x0 x1 v9_0 := by
  rw [V.jn_eq, zq175.r9]
  rfl
noncomputable abbrev zq175.s (x0 : THead) (x1 : THead) : V.St := ⟨[(0, .v true [.val (.int .i64 x0.1), .val (.int .i64 x0.2.1), .val (.int .i64 x0.2.2.1), .val (.int .i64 x0.2.2.2.1), .val (.int .i64 x0.2.2.2.2.1), .val (.int .i64 x0.2.2.2.2.2.1), .val (.int .i64 x0.2.2.2.2.2.2.1), .val (.int .i64 x0.2.2.2.2.2.2.2.1), .val (.sl (.cons (.int .i64) .nil) x0.2.2.2.2.2.2.2.2.1), .val (.int .i64 x0.2.2.2.2.2.2.2.2.2.1), .val (.sl (.cons (.int .i64) .nil) x0.2.2.2.2.2.2.2.2.2.2.1), .val (.int .i64 x0.2.2.2.2.2.2.2.2.2.2.2.1), .val (.int .i64 x0.2.2.2.2.2.2.2.2.2.2.2.2.1), .val (.sl (.cons (.int .i64) .nil) x0.2.2.2.2.2.2.2.2.2.2.2.2.2.1), .val (.int .i64 x0.2.2.2.2.2.2.2.2.2.2.2.2.2.2.1), .val (.bool x0.2.2.2.2.2.2.2.2.2.2.2.2.2.2.2)]), (1, .v true [.val (.int .i64 x1.1), .val (.int .i64 x1.2.1), .val (.int .i64 x1.2.2.1), .val (.int .i64 x1.2.2.2.1), .val (.int .i64 x1.2.2.2.2.1), .val (.int .i64 x1.2.2.2.2.2.1), .val (.int .i64 x1.2.2.2.2.2.2.1), .val (.int .i64 x1.2.2.2.2.2.2.2.1), .val (.sl (.cons (.int .i64) .nil) x1.2.2.2.2.2.2.2.2.1), .val (.int .i64 x1.2.2.2.2.2.2.2.2.2.1), .val (.sl (.cons (.int .i64) .nil) x1.2.2.2.2.2.2.2.2.2.2.1), .val (.int .i64 x1.2.2.2.2.2.2.2.2.2.2.2.1), .val (.int .i64 x1.2.2.2.2.2.2.2.2.2.2.2.2.1), .val (.sl (.cons (.int .i64) .nil) x1.2.2.2.2.2.2.2.2.2.2.2.2.2.1), .val (.int .i64 x1.2.2.2.2.2.2.2.2.2.2.2.2.2.2.1), .val (.bool x1.2.2.2.2.2.2.2.2.2.2.2.2.2.2.2)])], []⟩
theorem zq175.v0 (x0 : THead) (x1 : THead) : V.evBody zq175.E zq175.con Tryz.f285 (V.fl4 x0 x1) = V.evC zq175.E Tryz.f285.ntmps (V.codeOf Tryz.f285) (zq175.kt x0 x1) (zq175.s x0 x1) := by kernel_rfl
theorem zq175.v (x0 : THead) (x1 : THead) : V.evC zq175.E Tryz.f285.ntmps (V.codeOf Tryz.f285) (zq175.kt x0 x1) (zq175.s x0 x1) = zq175.b x0 x1 (fun v9_0 => V.jn (V.joinF zq175.E Tryz.f285.ntmps [1, 0, 0, 1, 1] [] (V.codeOf Tryz.f285) (zq175.kt x0 x1)) (zq175.s9 x0 x1 v9_0)) := by kernel_rfl
theorem zq175.eq (x0 : THead) (x1 : THead) : V.evBody zq175.E zq175.con Tryz.f285 (V.fl4 x0 x1) = zq175 x0 x1 := by
  rw [zq175.v0, zq175.v]
  simp only [zq175.e9]
  rfl
theorem zq175.ok : V.Valid Tryz.prog 285 zq175.con :=
  V.fo (V.tab_cons zq160.ok (V.tab_cons zq135.ok (V.tab_cons zq164.ok V.tab_nil))) Tryz.func285 (by kernel_rfl) (fun x y h => (show V.evBody zq175.E zq175.con Tryz.f285 x = _ from zq175.eq (V.p4_0 x) (V.p4_1 x)).trans (V.cfl (by kernel_rfl) h))
noncomputable abbrev zq176.con : V.Con := ⟨V.A4, (.cons (.int .i64) .nil), fun (x : V.D4) => zq176 (V.p4_0 x) (V.p4_1 x), [], [(true, 16), (true, 16)], [(false, 1)], [false], []⟩
noncomputable abbrev zq176.E : V.Env := V.mkE V.tys [(246, zq160.con), (307, zq135.con), (308, zq164.con)] [(9, [2, 3, 9], [])] [] [] [] []
noncomputable abbrev zq176.kt (x0 : THead) (x1 : THead) : V.Kt Int := V.ktOf zq176.E zq176.con Tryz.f286 (V.fl4 x0 x1)
noncomputable abbrev zq176.s9 (x0 : THead) (x1 : THead) (v9_0 : Bool) : V.St := ⟨[(2, .v false [.ptr 64000 0]), (3, .v false [.ptr 64064 0]), (9, .v false [.val (.bool v9_0)])], [(64000, .box [.val (.int .i64 x0.1), .val (.int .i64 x0.2.1), .val (.int .i64 x0.2.2.1), .val (.int .i64 x0.2.2.2.1), .val (.int .i64 x0.2.2.2.2.1), .val (.int .i64 x0.2.2.2.2.2.1), .val (.int .i64 x0.2.2.2.2.2.2.1), .val (.int .i64 x0.2.2.2.2.2.2.2.1), .val (.sl (.cons (.int .i64) .nil) x0.2.2.2.2.2.2.2.2.1), .val (.int .i64 x0.2.2.2.2.2.2.2.2.2.1), .val (.sl (.cons (.int .i64) .nil) x0.2.2.2.2.2.2.2.2.2.2.1), .val (.int .i64 x0.2.2.2.2.2.2.2.2.2.2.2.1), .val (.int .i64 x0.2.2.2.2.2.2.2.2.2.2.2.2.1), .val (.sl (.cons (.int .i64) .nil) x0.2.2.2.2.2.2.2.2.2.2.2.2.2.1), .val (.int .i64 x0.2.2.2.2.2.2.2.2.2.2.2.2.2.2.1), .val (.bool x0.2.2.2.2.2.2.2.2.2.2.2.2.2.2.2)]), (64064, .box [.val (.int .i64 x1.1), .val (.int .i64 x1.2.1), .val (.int .i64 x1.2.2.1), .val (.int .i64 x1.2.2.2.1), .val (.int .i64 x1.2.2.2.2.1), .val (.int .i64 x1.2.2.2.2.2.1), .val (.int .i64 x1.2.2.2.2.2.2.1), .val (.int .i64 x1.2.2.2.2.2.2.2.1), .val (.sl (.cons (.int .i64) .nil) x1.2.2.2.2.2.2.2.2.1), .val (.int .i64 x1.2.2.2.2.2.2.2.2.2.1), .val (.sl (.cons (.int .i64) .nil) x1.2.2.2.2.2.2.2.2.2.2.1), .val (.int .i64 x1.2.2.2.2.2.2.2.2.2.2.2.1), .val (.int .i64 x1.2.2.2.2.2.2.2.2.2.2.2.2.1), .val (.sl (.cons (.int .i64) .nil) x1.2.2.2.2.2.2.2.2.2.2.2.2.2.1), .val (.int .i64 x1.2.2.2.2.2.2.2.2.2.2.2.2.2.2.1), .val (.bool x1.2.2.2.2.2.2.2.2.2.2.2.2.2.2.2)])]⟩
theorem zq176.r9 (x0 : THead) (x1 : THead) (v9_0 : Bool) : V.joinF zq176.E Tryz.f286.ntmps [1, 0, 0, 1, 1] [] (V.codeOf Tryz.f286) (zq176.kt x0 x1) (zq176.s9 x0 x1 v9_0) = zq176.g9 x0 x1 v9_0 := by kernel_rfl
theorem zq176.e9 (x0 : THead) (x1 : THead) (v9_0 : Bool) : V.jn (V.joinF zq176.E Tryz.f286.ntmps [1, 0, 0, 1, 1] [] (V.codeOf Tryz.f286) (zq176.kt x0 x1)) (zq176.s9 x0 x1 v9_0) = zq176.l9 x0 x1 v9_0 := by
  rw [V.jn_eq, zq176.r9]
  rfl
noncomputable abbrev zq176.s (x0 : THead) (x1 : THead) : V.St := ⟨[(0, .v true [.val (.int .i64 x0.1), .val (.int .i64 x0.2.1), .val (.int .i64 x0.2.2.1), .val (.int .i64 x0.2.2.2.1), .val (.int .i64 x0.2.2.2.2.1), .val (.int .i64 x0.2.2.2.2.2.1), .val (.int .i64 x0.2.2.2.2.2.2.1), .val (.int .i64 x0.2.2.2.2.2.2.2.1), .val (.sl (.cons (.int .i64) .nil) x0.2.2.2.2.2.2.2.2.1), .val (.int .i64 x0.2.2.2.2.2.2.2.2.2.1), .val (.sl (.cons (.int .i64) .nil) x0.2.2.2.2.2.2.2.2.2.2.1), .val (.int .i64 x0.2.2.2.2.2.2.2.2.2.2.2.1), .val (.int .i64 x0.2.2.2.2.2.2.2.2.2.2.2.2.1), .val (.sl (.cons (.int .i64) .nil) x0.2.2.2.2.2.2.2.2.2.2.2.2.2.1), .val (.int .i64 x0.2.2.2.2.2.2.2.2.2.2.2.2.2.2.1), .val (.bool x0.2.2.2.2.2.2.2.2.2.2.2.2.2.2.2)]), (1, .v true [.val (.int .i64 x1.1), .val (.int .i64 x1.2.1), .val (.int .i64 x1.2.2.1), .val (.int .i64 x1.2.2.2.1), .val (.int .i64 x1.2.2.2.2.1), .val (.int .i64 x1.2.2.2.2.2.1), .val (.int .i64 x1.2.2.2.2.2.2.1), .val (.int .i64 x1.2.2.2.2.2.2.2.1), .val (.sl (.cons (.int .i64) .nil) x1.2.2.2.2.2.2.2.2.1), .val (.int .i64 x1.2.2.2.2.2.2.2.2.2.1), .val (.sl (.cons (.int .i64) .nil) x1.2.2.2.2.2.2.2.2.2.2.1), .val (.int .i64 x1.2.2.2.2.2.2.2.2.2.2.2.1), .val (.int .i64 x1.2.2.2.2.2.2.2.2.2.2.2.2.1), .val (.sl (.cons (.int .i64) .nil) x1.2.2.2.2.2.2.2.2.2.2.2.2.2.1), .val (.int .i64 x1.2.2.2.2.2.2.2.2.2.2.2.2.2.2.1), .val (.bool x1.2.2.2.2.2.2.2.2.2.2.2.2.2.2.2)])], []⟩
theorem zq176.v0 (x0 : THead) (x1 : THead) : V.evBody zq176.E zq176.con Tryz.f286 (V.fl4 x0 x1) = V.evC zq176.E Tryz.f286.ntmps (V.codeOf Tryz.f286) (zq176.kt x0 x1) (zq176.s x0 x1) := by kernel_rfl
theorem zq176.v (x0 : THead) (x1 : THead) : V.evC zq176.E Tryz.f286.ntmps (V.codeOf Tryz.f286) (zq176.kt x0 x1) (zq176.s x0 x1) = zq176.b x0 x1 (fun v9_0 => V.jn (V.joinF zq176.E Tryz.f286.ntmps [1, 0, 0, 1, 1] [] (V.codeOf Tryz.f286) (zq176.kt x0 x1)) (zq176.s9 x0 x1 v9_0)) := by kernel_rfl
theorem zq176.eq (x0 : THead) (x1 : THead) : V.evBody zq176.E zq176.con Tryz.f286 (V.fl4 x0 x1) = zq176 x0 x1 := by
  rw [zq176.v0, zq176.v]
  simp only [zq176.e9]
  rfl
theorem zq176.ok : V.Valid Tryz.prog 286 zq176.con :=
  V.fo (V.tab_cons zq160.ok (V.tab_cons zq135.ok (V.tab_cons zq164.ok V.tab_nil))) Tryz.func286 (by kernel_rfl) (fun x y h => (show V.evBody zq176.E zq176.con Tryz.f286 x = _ from zq176.eq (V.p4_0 x) (V.p4_1 x)).trans (V.cfl (by kernel_rfl) h))
noncomputable abbrev zq159.con : V.Con := ⟨V.A5, (.cons (.int .i64) .nil), fun (x : V.D5) => zq159 (V.p5_0 x) (V.p5_1 x), [], [(true, 16), (true, 17)], [(false, 1)], [false], []⟩
noncomputable abbrev zq159.E : V.Env := V.mkE V.tys [(183, zq144.con), (185, zq139.con), (205, zq140.con), (284, zq177.con), (285, zq175.con), (286, zq176.con), (287, zq149.con)] [(9, [2, 3, 5], []), (13, [2, 3, 5], []), (31, [3, 5, 6, 7], [])] [(4, 25), (15, 8)] [] [] []
noncomputable abbrev zq159.kt (x0 : THead) (x1 : TSigned) : V.Kt Int := V.ktOf zq159.E zq159.con Tryz.f242 (V.fl5 x0 x1)
noncomputable abbrev zq159.s31 (x1 : TSigned) (v31_0 : Int) (v31_34 : List Int) (v31_35 : Int) : V.St := ⟨[(3, .v false [.ptr 64064 0]), (5, .v false [.ptr 128128 0]), (6, .v false [.val (.int .i64 v31_0)]), (7, .v false [.ptr 512128 0])], [(64064, .box [.val (.int .i64 x1.1), .val (.int .i64 x1.2.1), .val (.int .i64 x1.2.2.1), .val (.int .i64 x1.2.2.2.1), .val (.int .i64 x1.2.2.2.2.1), .val (.int .i64 x1.2.2.2.2.2.1), .val (.int .i64 x1.2.2.2.2.2.2.1), .val (.int .i64 x1.2.2.2.2.2.2.2.1), .val (.sl (.cons (.int .i64) .nil) x1.2.2.2.2.2.2.2.2.1), .val (.int .i64 x1.2.2.2.2.2.2.2.2.2.1), .val (.sl (.cons (.int .i64) .nil) x1.2.2.2.2.2.2.2.2.2.2.1), .val (.int .i64 x1.2.2.2.2.2.2.2.2.2.2.2.1), .val (.int .i64 x1.2.2.2.2.2.2.2.2.2.2.2.2.1), .val (.sl (.cons (.int .i64) .nil) x1.2.2.2.2.2.2.2.2.2.2.2.2.2.1), .val (.int .i64 x1.2.2.2.2.2.2.2.2.2.2.2.2.2.2.1), .val (.bool x1.2.2.2.2.2.2.2.2.2.2.2.2.2.2.2.1), .val (.sl (.cons (.int .i64) (.cons (.int .i64) .nil)) x1.2.2.2.2.2.2.2.2.2.2.2.2.2.2.2.2)]), (128128, .box [.val (.int .i64 x1.1), .val (.int .i64 x1.2.1), .val (.int .i64 x1.2.2.1), .val (.int .i64 x1.2.2.2.1), .val (.int .i64 x1.2.2.2.2.1), .val (.int .i64 x1.2.2.2.2.2.1), .val (.int .i64 x1.2.2.2.2.2.2.1), .val (.int .i64 x1.2.2.2.2.2.2.2.1), .val (.sl (.cons (.int .i64) .nil) x1.2.2.2.2.2.2.2.2.1), .val (.int .i64 x1.2.2.2.2.2.2.2.2.2.1), .val (.sl (.cons (.int .i64) .nil) x1.2.2.2.2.2.2.2.2.2.2.1), .val (.int .i64 x1.2.2.2.2.2.2.2.2.2.2.2.1), .val (.int .i64 x1.2.2.2.2.2.2.2.2.2.2.2.2.1), .val (.sl (.cons (.int .i64) .nil) x1.2.2.2.2.2.2.2.2.2.2.2.2.2.1), .val (.int .i64 x1.2.2.2.2.2.2.2.2.2.2.2.2.2.2.1), .val (.bool x1.2.2.2.2.2.2.2.2.2.2.2.2.2.2.2.1)]), (512128, .box [.val (.sl (.cons (.int .i64) .nil) v31_34), .val (.int .i64 v31_35)])]⟩
noncomputable abbrev zq159.s13 (x0 : THead) (x1 : TSigned) : V.St := ⟨[(2, .v false [.ptr 64000 0]), (3, .v false [.ptr 64064 0]), (5, .v false [.ptr 128128 0])], [(64000, .box [.val (.int .i64 x0.1), .val (.int .i64 x0.2.1), .val (.int .i64 x0.2.2.1), .val (.int .i64 x0.2.2.2.1), .val (.int .i64 x0.2.2.2.2.1), .val (.int .i64 x0.2.2.2.2.2.1), .val (.int .i64 x0.2.2.2.2.2.2.1), .val (.int .i64 x0.2.2.2.2.2.2.2.1), .val (.sl (.cons (.int .i64) .nil) x0.2.2.2.2.2.2.2.2.1), .val (.int .i64 x0.2.2.2.2.2.2.2.2.2.1), .val (.sl (.cons (.int .i64) .nil) x0.2.2.2.2.2.2.2.2.2.2.1), .val (.int .i64 x0.2.2.2.2.2.2.2.2.2.2.2.1), .val (.int .i64 x0.2.2.2.2.2.2.2.2.2.2.2.2.1), .val (.sl (.cons (.int .i64) .nil) x0.2.2.2.2.2.2.2.2.2.2.2.2.2.1), .val (.int .i64 x0.2.2.2.2.2.2.2.2.2.2.2.2.2.2.1), .val (.bool x0.2.2.2.2.2.2.2.2.2.2.2.2.2.2.2)]), (64064, .box [.val (.int .i64 x1.1), .val (.int .i64 x1.2.1), .val (.int .i64 x1.2.2.1), .val (.int .i64 x1.2.2.2.1), .val (.int .i64 x1.2.2.2.2.1), .val (.int .i64 x1.2.2.2.2.2.1), .val (.int .i64 x1.2.2.2.2.2.2.1), .val (.int .i64 x1.2.2.2.2.2.2.2.1), .val (.sl (.cons (.int .i64) .nil) x1.2.2.2.2.2.2.2.2.1), .val (.int .i64 x1.2.2.2.2.2.2.2.2.2.1), .val (.sl (.cons (.int .i64) .nil) x1.2.2.2.2.2.2.2.2.2.2.1), .val (.int .i64 x1.2.2.2.2.2.2.2.2.2.2.2.1), .val (.int .i64 x1.2.2.2.2.2.2.2.2.2.2.2.2.1), .val (.sl (.cons (.int .i64) .nil) x1.2.2.2.2.2.2.2.2.2.2.2.2.2.1), .val (.int .i64 x1.2.2.2.2.2.2.2.2.2.2.2.2.2.2.1), .val (.bool x1.2.2.2.2.2.2.2.2.2.2.2.2.2.2.2.1), .val (.sl (.cons (.int .i64) (.cons (.int .i64) .nil)) x1.2.2.2.2.2.2.2.2.2.2.2.2.2.2.2.2)]), (128128, .box [.val (.int .i64 x1.1), .val (.int .i64 x1.2.1), .val (.int .i64 x1.2.2.1), .val (.int .i64 x1.2.2.2.1), .val (.int .i64 x1.2.2.2.2.1), .val (.int .i64 x1.2.2.2.2.2.1), .val (.int .i64 x1.2.2.2.2.2.2.1), .val (.int .i64 x1.2.2.2.2.2.2.2.1), .val (.sl (.cons (.int .i64) .nil) x1.2.2.2.2.2.2.2.2.1), .val (.int .i64 x1.2.2.2.2.2.2.2.2.2.1), .val (.sl (.cons (.int .i64) .nil) x1.2.2.2.2.2.2.2.2.2.2.1), .val (.int .i64 x1.2.2.2.2.2.2.2.2.2.2.2.1), .val (.int .i64 x1.2.2.2.2.2.2.2.2.2.2.2.2.1), .val (.sl (.cons (.int .i64) .nil) x1.2.2.2.2.2.2.2.2.2.2.2.2.2.1), .val (.int .i64 x1.2.2.2.2.2.2.2.2.2.2.2.2.2.2.1), .val (.bool x1.2.2.2.2.2.2.2.2.2.2.2.2.2.2.2.1)])]⟩
noncomputable abbrev zq159.s9 (x0 : THead) (x1 : TSigned) : V.St := ⟨[(2, .v false [.ptr 64000 0]), (3, .v false [.ptr 64064 0]), (5, .v false [.ptr 128128 0])], [(64000, .box [.val (.int .i64 x0.1), .val (.int .i64 x0.2.1), .val (.int .i64 x0.2.2.1), .val (.int .i64 x0.2.2.2.1), .val (.int .i64 x0.2.2.2.2.1), .val (.int .i64 x0.2.2.2.2.2.1), .val (.int .i64 x0.2.2.2.2.2.2.1), .val (.int .i64 x0.2.2.2.2.2.2.2.1), .val (.sl (.cons (.int .i64) .nil) x0.2.2.2.2.2.2.2.2.1), .val (.int .i64 x0.2.2.2.2.2.2.2.2.2.1), .val (.sl (.cons (.int .i64) .nil) x0.2.2.2.2.2.2.2.2.2.2.1), .val (.int .i64 x0.2.2.2.2.2.2.2.2.2.2.2.1), .val (.int .i64 x0.2.2.2.2.2.2.2.2.2.2.2.2.1), .val (.sl (.cons (.int .i64) .nil) x0.2.2.2.2.2.2.2.2.2.2.2.2.2.1), .val (.int .i64 x0.2.2.2.2.2.2.2.2.2.2.2.2.2.2.1), .val (.bool x0.2.2.2.2.2.2.2.2.2.2.2.2.2.2.2)]), (64064, .box [.val (.int .i64 x1.1), .val (.int .i64 x1.2.1), .val (.int .i64 x1.2.2.1), .val (.int .i64 x1.2.2.2.1), .val (.int .i64 x1.2.2.2.2.1), .val (.int .i64 x1.2.2.2.2.2.1), .val (.int .i64 x1.2.2.2.2.2.2.1), .val (.int .i64 x1.2.2.2.2.2.2.2.1), .val (.sl (.cons (.int .i64) .nil) x1.2.2.2.2.2.2.2.2.1), .val (.int .i64 x1.2.2.2.2.2.2.2.2.2.1), .val (.sl (.cons (.int .i64) .nil) x1.2.2.2.2.2.2.2.2.2.2.1), .val (.int .i64 x1.2.2.2.2.2.2.2.2.2.2.2.1), .val (.int .i64 x1.2.2.2.2.2.2.2.2.2.2.2.2.1), .val (.sl (.cons (.int .i64) .nil) x1.2.2.2.2.2.2.2.2.2.2.2.2.2.1), .val (.int .i64 x1.2.2.2.2.2.2.2.2.2.2.2.2.2.2.1), .val (.bool x1.2.2.2.2.2.2.2.2.2.2.2.2.2.2.2.1), .val (.sl (.cons (.int .i64) (.cons (.int .i64) .nil)) x1.2.2.2.2.2.2.2.2.2.2.2.2.2.2.2.2)]), (128128, .box [.val (.int .i64 x1.1), .val (.int .i64 x1.2.1), .val (.int .i64 x1.2.2.1), .val (.int .i64 x1.2.2.2.1), .val (.int .i64 x1.2.2.2.2.1), .val (.int .i64 x1.2.2.2.2.2.1), .val (.int .i64 x1.2.2.2.2.2.2.1), .val (.int .i64 x1.2.2.2.2.2.2.2.1), .val (.sl (.cons (.int .i64) .nil) x1.2.2.2.2.2.2.2.2.1), .val (.int .i64 x1.2.2.2.2.2.2.2.2.2.1), .val (.sl (.cons (.int .i64) .nil) x1.2.2.2.2.2.2.2.2.2.2.1), .val (.int .i64 x1.2.2.2.2.2.2.2.2.2.2.2.1), .val (.int .i64 x1.2.2.2.2.2.2.2.2.2.2.2.2.1), .val (.sl (.cons (.int .i64) .nil) x1.2.2.2.2.2.2.2.2.2.2.2.2.2.1), .val (.int .i64 x1.2.2.2.2.2.2.2.2.2.2.2.2.2.2.1), .val (.bool x1.2.2.2.2.2.2.2.2.2.2.2.2.2.2.2.1)])]⟩
theorem zq159.r31 (x0 : THead) (x1 : TSigned) (v31_0 : Int) (v31_34 : List Int) (v31_35 : Int) : V.joinF zq159.E Tryz.f242.ntmps [1, 1, 1, 1, 1, 1] [] (V.codeOf Tryz.f242) (zq159.kt x0 x1) (zq159.s31 x1 v31_0 v31_34 v31_35) = zq159.g31 x1 v31_0 v31_34 v31_35 := by kernel_rfl
theorem zq159.e31 (x0 : THead) (x1 : TSigned) (v31_0 : Int) (v31_34 : List Int) (v31_35 : Int) : V.jn (V.joinF zq159.E Tryz.f242.ntmps [1, 1, 1, 1, 1, 1] [] (V.codeOf Tryz.f242) (zq159.kt x0 x1)) (zq159.s31 x1 v31_0 v31_34 v31_35) = zq159.l31 x1 v31_0 v31_34 v31_35 := by
  rw [V.jn_eq, zq159.r31]
  rfl
theorem zq159.r13 (x0 : THead) (x1 : TSigned) : V.joinF zq159.E Tryz.f242.ntmps [1, 1, 1] [] (V.codeOf Tryz.f242) (zq159.kt x0 x1) (zq159.s13 x0 x1) = zq159.g13 x0 x1 (fun v31_0 v31_34 v31_35 => V.jn (V.joinF zq159.E Tryz.f242.ntmps [1, 1, 1, 1, 1, 1] [] (V.codeOf Tryz.f242) (zq159.kt x0 x1)) (zq159.s31 x1 v31_0 v31_34 v31_35)) := by kernel_rfl
theorem zq159.e13 (x0 : THead) (x1 : TSigned) : V.jn (V.joinF zq159.E Tryz.f242.ntmps [1, 1, 1] [] (V.codeOf Tryz.f242) (zq159.kt x0 x1)) (zq159.s13 x0 x1) = zq159.l13 x0 x1 := by
  rw [V.jn_eq, zq159.r13]
  simp only [zq159.e31]
  rfl
theorem zq159.r9 (x0 : THead) (x1 : TSigned) : V.joinF zq159.E Tryz.f242.ntmps [1, 1] [] (V.codeOf Tryz.f242) (zq159.kt x0 x1) (zq159.s9 x0 x1) = zq159.g9 x0 x1 (V.jn (V.joinF zq159.E Tryz.f242.ntmps [1, 1, 1] [] (V.codeOf Tryz.f242) (zq159.kt x0 x1)) (zq159.s13 x0 x1)) := by kernel_rfl
theorem zq159.e9 (x0 : THead) (x1 : TSigned) : V.jn (V.joinF zq159.E Tryz.f242.ntmps [1, 1] [] (V.codeOf Tryz.f242) (zq159.kt x0 x1)) (zq159.s9 x0 x1) = zq159.l9 x0 x1 := by
  rw [V.jn_eq, zq159.r9]
  simp only [zq159.e13]
  rfl
noncomputable abbrev zq159.s (x0 : THead) (x1 : TSigned) : V.St := ⟨[(0, .v true [.val (.int .i64 x0.1), .val (.int .i64 x0.2.1), .val (.int .i64 x0.2.2.1), .val (.int .i64 x0.2.2.2.1), .val (.int .i64 x0.2.2.2.2.1), .val (.int .i64 x0.2.2.2.2.2.1), .val (.int .i64 x0.2.2.2.2.2.2.1), .val (.int .i64 x0.2.2.2.2.2.2.2.1), .val (.sl (.cons (.int .i64) .nil) x0.2.2.2.2.2.2.2.2.1), .val (.int .i64 x0.2.2.2.2.2.2.2.2.2.1), .val (.sl (.cons (.int .i64) .nil) x0.2.2.2.2.2.2.2.2.2.2.1), .val (.int .i64 x0.2.2.2.2.2.2.2.2.2.2.2.1), .val (.int .i64 x0.2.2.2.2.2.2.2.2.2.2.2.2.1), .val (.sl (.cons (.int .i64) .nil) x0.2.2.2.2.2.2.2.2.2.2.2.2.2.1), .val (.int .i64 x0.2.2.2.2.2.2.2.2.2.2.2.2.2.2.1), .val (.bool x0.2.2.2.2.2.2.2.2.2.2.2.2.2.2.2)]), (1, .v true [.val (.int .i64 x1.1), .val (.int .i64 x1.2.1), .val (.int .i64 x1.2.2.1), .val (.int .i64 x1.2.2.2.1), .val (.int .i64 x1.2.2.2.2.1), .val (.int .i64 x1.2.2.2.2.2.1), .val (.int .i64 x1.2.2.2.2.2.2.1), .val (.int .i64 x1.2.2.2.2.2.2.2.1), .val (.sl (.cons (.int .i64) .nil) x1.2.2.2.2.2.2.2.2.1), .val (.int .i64 x1.2.2.2.2.2.2.2.2.2.1), .val (.sl (.cons (.int .i64) .nil) x1.2.2.2.2.2.2.2.2.2.2.1), .val (.int .i64 x1.2.2.2.2.2.2.2.2.2.2.2.1), .val (.int .i64 x1.2.2.2.2.2.2.2.2.2.2.2.2.1), .val (.sl (.cons (.int .i64) .nil) x1.2.2.2.2.2.2.2.2.2.2.2.2.2.1), .val (.int .i64 x1.2.2.2.2.2.2.2.2.2.2.2.2.2.2.1), .val (.bool x1.2.2.2.2.2.2.2.2.2.2.2.2.2.2.2.1), .val (.sl (.cons (.int .i64) (.cons (.int .i64) .nil)) x1.2.2.2.2.2.2.2.2.2.2.2.2.2.2.2.2)])], []⟩
theorem zq159.v0 (x0 : THead) (x1 : TSigned) : V.evBody zq159.E zq159.con Tryz.f242 (V.fl5 x0 x1) = V.evC zq159.E Tryz.f242.ntmps (V.codeOf Tryz.f242) (zq159.kt x0 x1) (zq159.s x0 x1) := by kernel_rfl
theorem zq159.v (x0 : THead) (x1 : TSigned) : V.evC zq159.E Tryz.f242.ntmps (V.codeOf Tryz.f242) (zq159.kt x0 x1) (zq159.s x0 x1) = zq159.b x0 x1 (V.jn (V.joinF zq159.E Tryz.f242.ntmps [1, 1] [] (V.codeOf Tryz.f242) (zq159.kt x0 x1)) (zq159.s9 x0 x1)) := by kernel_rfl
theorem zq159.eq (x0 : THead) (x1 : TSigned) : V.evBody zq159.E zq159.con Tryz.f242 (V.fl5 x0 x1) = zq159 x0 x1 := by
  rw [zq159.v0, zq159.v]
  simp only [zq159.e9]
  rfl
theorem zq159.ok : V.Valid Tryz.prog 242 zq159.con :=
  V.fo (V.tab_cons zq144.ok (V.tab_cons zq139.ok (V.tab_cons zq140.ok (V.tab_cons zq177.ok (V.tab_cons zq175.ok (V.tab_cons zq176.ok (V.tab_cons zq149.ok V.tab_nil))))))) Tryz.func242 (by kernel_rfl) (fun x y h => (show V.evBody zq159.E zq159.con Tryz.f242 x = _ from zq159.eq (V.p5_0 x) (V.p5_1 x)).trans (V.cfl (by kernel_rfl) h))
noncomputable abbrev zq157.con : V.Con := ⟨V.A5, (.cons .bool .nil), fun (x : V.D5) => zq157 (V.p5_0 x) (V.p5_1 x), [], [(true, 16), (true, 17)], [(false, 1)], [false], []⟩
noncomputable abbrev zq157.E : V.Env := V.mkE V.tys [(242, zq159.con)] [] [] [] [] []
noncomputable abbrev zq157.kt (x0 : THead) (x1 : TSigned) : V.Kt Bool := V.ktOf zq157.E zq157.con Tryz.f265 (V.fl5 x0 x1)
noncomputable abbrev zq157.s (x0 : THead) (x1 : TSigned) : V.St := ⟨[(0, .v true [.val (.int .i64 x0.1), .val (.int .i64 x0.2.1), .val (.int .i64 x0.2.2.1), .val (.int .i64 x0.2.2.2.1), .val (.int .i64 x0.2.2.2.2.1), .val (.int .i64 x0.2.2.2.2.2.1), .val (.int .i64 x0.2.2.2.2.2.2.1), .val (.int .i64 x0.2.2.2.2.2.2.2.1), .val (.sl (.cons (.int .i64) .nil) x0.2.2.2.2.2.2.2.2.1), .val (.int .i64 x0.2.2.2.2.2.2.2.2.2.1), .val (.sl (.cons (.int .i64) .nil) x0.2.2.2.2.2.2.2.2.2.2.1), .val (.int .i64 x0.2.2.2.2.2.2.2.2.2.2.2.1), .val (.int .i64 x0.2.2.2.2.2.2.2.2.2.2.2.2.1), .val (.sl (.cons (.int .i64) .nil) x0.2.2.2.2.2.2.2.2.2.2.2.2.2.1), .val (.int .i64 x0.2.2.2.2.2.2.2.2.2.2.2.2.2.2.1), .val (.bool x0.2.2.2.2.2.2.2.2.2.2.2.2.2.2.2)]), (1, .v true [.val (.int .i64 x1.1), .val (.int .i64 x1.2.1), .val (.int .i64 x1.2.2.1), .val (.int .i64 x1.2.2.2.1), .val (.int .i64 x1.2.2.2.2.1), .val (.int .i64 x1.2.2.2.2.2.1), .val (.int .i64 x1.2.2.2.2.2.2.1), .val (.int .i64 x1.2.2.2.2.2.2.2.1), .val (.sl (.cons (.int .i64) .nil) x1.2.2.2.2.2.2.2.2.1), .val (.int .i64 x1.2.2.2.2.2.2.2.2.2.1), .val (.sl (.cons (.int .i64) .nil) x1.2.2.2.2.2.2.2.2.2.2.1), .val (.int .i64 x1.2.2.2.2.2.2.2.2.2.2.2.1), .val (.int .i64 x1.2.2.2.2.2.2.2.2.2.2.2.2.1), .val (.sl (.cons (.int .i64) .nil) x1.2.2.2.2.2.2.2.2.2.2.2.2.2.1), .val (.int .i64 x1.2.2.2.2.2.2.2.2.2.2.2.2.2.2.1), .val (.bool x1.2.2.2.2.2.2.2.2.2.2.2.2.2.2.2.1), .val (.sl (.cons (.int .i64) (.cons (.int .i64) .nil)) x1.2.2.2.2.2.2.2.2.2.2.2.2.2.2.2.2)])], []⟩
theorem zq157.v0 (x0 : THead) (x1 : TSigned) : V.evBody zq157.E zq157.con Tryz.f265 (V.fl5 x0 x1) = V.evC zq157.E Tryz.f265.ntmps (V.codeOf Tryz.f265) (zq157.kt x0 x1) (zq157.s x0 x1) := by kernel_rfl
theorem zq157.v (x0 : THead) (x1 : TSigned) : V.evC zq157.E Tryz.f265.ntmps (V.codeOf Tryz.f265) (zq157.kt x0 x1) (zq157.s x0 x1) = zq157 x0 x1 := by kernel_rfl
theorem zq157.eq (x0 : THead) (x1 : TSigned) : V.evBody zq157.E zq157.con Tryz.f265 (V.fl5 x0 x1) = zq157 x0 x1 := (zq157.v0 x0 x1).trans (zq157.v x0 x1)
theorem zq157.ok : V.Valid Tryz.prog 265 zq157.con :=
  V.fo (V.tab_cons zq159.ok V.tab_nil) Tryz.func265 (by kernel_rfl) (fun x y h => (show V.evBody zq157.E zq157.con Tryz.f265 x = _ from zq157.eq (V.p5_0 x) (V.p5_1 x)).trans (V.cfl (by kernel_rfl) h))
noncomputable abbrev zq137.con : V.Con := ⟨(.cons (.sl V.eSigned) .nil), (.cons (.int .i64) .nil), fun (x : List TSigned) => zq137 x, [], [(false, 1)], [(false, 1)], [false], []⟩
noncomputable abbrev zq137.E : V.Env := V.mkE V.tys [(264, zq143.con), (265, zq157.con)] [(4, [0, 3], [])] [(4, 23)] [] [] []
noncomputable abbrev zq137.kt (x0 : List TSigned) : V.Kt Int := V.ktOf zq137.E zq137.con Tryz.f203 ((x0) : List TSigned)
noncomputable abbrev zq137.s4 (x0 : List TSigned) (v4_1 : Int) : V.St := ⟨[(0, .v false [.val (.sl V.eSigned x0)]), (3, .v false [.val (.int .i64 v4_1)])], []⟩
theorem zq137.r4 (x0 : List TSigned) (R : V.St → Option Int) (v4_1 : Int) : V.loopF zq137.E Tryz.f203.ntmps [1, 0, 1, 0] [] (V.codeOf Tryz.f203) (zq137.kt x0) R (zq137.s4 x0 v4_1) = zq137.g4 x0 (fun v4_1 => R (zq137.s4 x0 v4_1)) v4_1 := by kernel_rfl
theorem zq137.e4 (x0 : List TSigned) : ∀ (n : Nat) (v4_1 : Int), V.loopN (V.loopF zq137.E Tryz.f203.ntmps [1, 0, 1, 0] [] (V.codeOf Tryz.f203) (zq137.kt x0)) n (zq137.s4 x0 v4_1) = zq137.l4 x0 n v4_1 := by
  intro n
  induction n with
  | zero => intros; rw [V.loopN_z]; rfl
  | succ n ih =>
    intro v4_1
    rw [V.loopN_s, zq137.r4]
    simp only [ih]
    first | exact (zq137.u4 ..).symm | rfl
theorem zq137.v (x0 : List TSigned) : V.evBody zq137.E zq137.con Tryz.f203 ((x0) : List TSigned) = zq137.b x0 (fun v4_1 => V.loopN (V.loopF zq137.E Tryz.f203.ntmps [1, 0, 1, 0] [] (V.codeOf Tryz.f203) (zq137.kt x0)) V.KK (zq137.s4 x0 v4_1)) := by kernel_rfl
theorem zq137.eq (x0 : List TSigned) : V.evBody zq137.E zq137.con Tryz.f203 ((x0) : List TSigned) = zq137 x0 := by
  rw [zq137.v]
  simp only [zq137.e4]
  rfl
theorem zq137.ok : V.Valid Tryz.prog 203 zq137.con :=
  V.fo (V.tab_cons zq143.ok (V.tab_cons zq157.ok V.tab_nil)) Tryz.func203 (by kernel_rfl) (fun x y h => (show V.evBody zq137.E zq137.con Tryz.f203 x = _ from zq137.eq x).trans (V.cfl (by kernel_rfl) h))
noncomputable abbrev zq141.con : V.Con := ⟨(.cons (.sl V.eSigned) .nil), (.cons .bool .nil), fun (x : List TSigned) => zq141 x, [], [(false, 1)], [(false, 1)], [false], []⟩
noncomputable abbrev zq141.E : V.Env := V.mkE V.tys [(147, zq179.con), (203, zq137.con)] [] [] [] [] []
theorem zq141.eq (x0 : List TSigned) : V.evBody zq141.E zq141.con Tryz.f99 ((x0) : List TSigned) = zq141 x0 := by kernel_rfl
theorem zq141.ok : V.Valid Tryz.prog 99 zq141.con :=
  V.fo (V.tab_cons zq179.ok (V.tab_cons zq137.ok V.tab_nil)) Tryz.func99 (by kernel_rfl) (fun x y h => (show V.evBody zq141.E zq141.con Tryz.f99 x = _ from zq141.eq x).trans (V.cfl (by kernel_rfl) h))
noncomputable abbrev zq182.con : V.Con := ⟨(.cons (.sl (.cons (.int .i64) .nil)) (.cons (.int .i64) .nil)), (.cons (.sl (.cons (.int .i64) .nil)) (.cons (.int .i64) .nil)), fun (x : List Int × Int) => zq182 x, [], [(true, 2)], [(true, 2)], [true, false], []⟩
noncomputable abbrev zq182.E : V.Env := V.mkE V.tys [] [] [(1, 6)] [] [] []
theorem zq182.eq (x0 : TKeys) : V.evBody zq182.E zq182.con Tryz.f225 ((x0.1, x0.2) : List Int × Int) = zq182 x0 := by kernel_rfl
theorem zq182.ok : V.Valid Tryz.prog 225 zq182.con :=
  V.fo V.tab_nil Tryz.func225 (by kernel_rfl) (fun x y h => (show V.evBody zq182.E zq182.con Tryz.f225 x = _ from zq182.eq x).trans (V.cfl (by kernel_rfl) h))
noncomputable abbrev zq173.con : V.Con := ⟨V.A2, V.eHead, fun (x : V.D2) => zq173 (V.p2_0 x), [], [(true, 16)], [(true, 16)], [false, false, false, false, false, false, false, false, true, false, true, false, false, true, false, false], []⟩
noncomputable abbrev zq173.E : V.Env := V.mkE V.tys [(225, zq182.con)] [] [] [] [] []
noncomputable abbrev zq173.kt (x0 : THead) : V.Kt THead := V.ktOf zq173.E zq173.con Tryz.f184 (V.fl2 x0)
noncomputable abbrev zq173.s (x0 : THead) : V.St := ⟨[(0, .v true [.val (.int .i64 x0.1), .val (.int .i64 x0.2.1), .val (.int .i64 x0.2.2.1), .val (.int .i64 x0.2.2.2.1), .val (.int .i64 x0.2.2.2.2.1), .val (.int .i64 x0.2.2.2.2.2.1), .val (.int .i64 x0.2.2.2.2.2.2.1), .val (.int .i64 x0.2.2.2.2.2.2.2.1), .val (.sl (.cons (.int .i64) .nil) x0.2.2.2.2.2.2.2.2.1), .val (.int .i64 x0.2.2.2.2.2.2.2.2.2.1), .val (.sl (.cons (.int .i64) .nil) x0.2.2.2.2.2.2.2.2.2.2.1), .val (.int .i64 x0.2.2.2.2.2.2.2.2.2.2.2.1), .val (.int .i64 x0.2.2.2.2.2.2.2.2.2.2.2.2.1), .val (.sl (.cons (.int .i64) .nil) x0.2.2.2.2.2.2.2.2.2.2.2.2.2.1), .val (.int .i64 x0.2.2.2.2.2.2.2.2.2.2.2.2.2.2.1), .val (.bool x0.2.2.2.2.2.2.2.2.2.2.2.2.2.2.2)])], []⟩
theorem zq173.v0 (x0 : THead) : V.evBody zq173.E zq173.con Tryz.f184 (V.fl2 x0) = V.evC zq173.E Tryz.f184.ntmps (V.codeOf Tryz.f184) (zq173.kt x0) (zq173.s x0) := by kernel_rfl
theorem zq173.v (x0 : THead) : V.evC zq173.E Tryz.f184.ntmps (V.codeOf Tryz.f184) (zq173.kt x0) (zq173.s x0) = zq173 x0 := by kernel_rfl
theorem zq173.eq (x0 : THead) : V.evBody zq173.E zq173.con Tryz.f184 (V.fl2 x0) = zq173 x0 := (zq173.v0 x0).trans (zq173.v x0)
theorem zq173.ok : V.Valid Tryz.prog 184 zq173.con :=
  V.fo (V.tab_cons zq182.ok V.tab_nil) Tryz.func184 (by kernel_rfl) (fun x y h => (show V.evBody zq173.E zq173.con Tryz.f184 x = _ from zq173.eq (V.p2_0 x)).trans (V.cfl (by kernel_rfl) h))
noncomputable abbrev zq154.con : V.Con := ⟨(.cons (.sl V.eSigned) .nil), V.eRHeadBool, fun (x : List TSigned) => zq154 x, [], [(false, 1)], [(true, 16), (false, 1)], [false, false, false, false, false, false, false, false, true, false, true, false, false, true, false, false, false], []⟩
noncomputable abbrev zq154.E : V.Env := V.mkE V.tys [(99, zq141.con), (184, zq173.con)] [] [] [] [] []
theorem zq154.eq (x0 : List TSigned) : V.evBody zq154.E zq154.con Tryz.f134 ((x0) : List TSigned) = zq154 x0 := by kernel_rfl
theorem zq154.ok : V.Valid Tryz.prog 134 zq154.con :=
  V.fo (V.tab_cons zq141.ok (V.tab_cons zq173.ok V.tab_nil)) Tryz.func134 (by kernel_rfl) (fun x y h => (show V.evBody zq154.E zq154.con Tryz.f134 x = _ from zq154.eq x).trans (V.cfl (by kernel_rfl) h))
noncomputable abbrev zq146.con : V.Con := ⟨(.cons .str .nil), (.cons .bool .nil), fun (x : ByteArray) => zq146 x, [], [(false, 1)], [(false, 1)], [false], []⟩
noncomputable abbrev zq146.E : V.Env := V.mkE V.tys [(147, zq179.con)] [(7, [0], []), (8, [0, 3], [])] [] [] [] []
noncomputable abbrev zq146.kt (x0 : ByteArray) : V.Kt Bool := V.ktOf zq146.E zq146.con Tryz.f248 ((x0) : ByteArray)
noncomputable abbrev zq146.s8 (x0 : ByteArray) (v8_1 : Int) : V.St := ⟨[(0, .v false [.val (.str x0)]), (3, .v false [.val (.int .i64 v8_1)])], []⟩
noncomputable abbrev zq146.s7 (x0 : ByteArray) : V.St := ⟨[(0, .v false [.val (.str x0)])], []⟩
theorem zq146.r8 (x0 : ByteArray) (R : V.St → Option Bool) (v8_1 : Int) : V.loopF zq146.E Tryz.f248.ntmps [1, 1, 0, 1, 0] [] (V.codeOf Tryz.f248) (zq146.kt x0) R (zq146.s8 x0 v8_1) = zq146.g8 x0 (fun v8_1 => R (zq146.s8 x0 v8_1)) v8_1 := by kernel_rfl
theorem zq146.e8 (x0 : ByteArray) : ∀ (n : Nat) (v8_1 : Int), V.loopN (V.loopF zq146.E Tryz.f248.ntmps [1, 1, 0, 1, 0] [] (V.codeOf Tryz.f248) (zq146.kt x0)) n (zq146.s8 x0 v8_1) = zq146.l8 x0 n v8_1 := by
  intro n
  induction n with
  | zero => intros; rw [V.loopN_z]; rfl
  | succ n ih =>
    intro v8_1
    rw [V.loopN_s, zq146.r8]
    simp only [ih]
    first | exact (zq146.u8 ..).symm | rfl
theorem zq146.r7 (x0 : ByteArray) : V.joinF zq146.E Tryz.f248.ntmps [1] [] (V.codeOf Tryz.f248) (zq146.kt x0) (zq146.s7 x0) = zq146.g7 x0 (fun v8_1 => V.loopN (V.loopF zq146.E Tryz.f248.ntmps [1, 1, 0, 1, 0] [] (V.codeOf Tryz.f248) (zq146.kt x0)) V.KK (zq146.s8 x0 v8_1)) := by kernel_rfl
theorem zq146.e7 (x0 : ByteArray) : V.jn (V.joinF zq146.E Tryz.f248.ntmps [1] [] (V.codeOf Tryz.f248) (zq146.kt x0)) (zq146.s7 x0) = zq146.l7 x0 := by
  rw [V.jn_eq, zq146.r7]
  simp only [zq146.e8]
  rfl
theorem zq146.v (x0 : ByteArray) : V.evBody zq146.E zq146.con Tryz.f248 ((x0) : ByteArray) = zq146.b x0 (V.jn (V.joinF zq146.E Tryz.f248.ntmps [1] [] (V.codeOf Tryz.f248) (zq146.kt x0)) (zq146.s7 x0)) := by kernel_rfl
theorem zq146.eq (x0 : ByteArray) : V.evBody zq146.E zq146.con Tryz.f248 ((x0) : ByteArray) = zq146 x0 := by
  rw [zq146.v]
  simp only [zq146.e7]
  rfl
theorem zq146.ok : V.Valid Tryz.prog 248 zq146.con :=
  V.fo (V.tab_cons zq179.ok V.tab_nil) Tryz.func248 (by kernel_rfl) (fun x y h => (show V.evBody zq146.E zq146.con Tryz.f248 x = _ from zq146.eq x).trans (V.cfl (by kernel_rfl) h))
noncomputable abbrev zq147.con : V.Con := ⟨(.cons (.sl (.cons .str .nil)) .nil), (.cons .bool .nil), fun (x : List ByteArray) => zq147 x, [], [(false, 1)], [(false, 1)], [false], []⟩
noncomputable abbrev zq147.E : V.Env := V.mkE V.tys [(147, zq179.con), (248, zq146.con)] [(4, [0, 3], [])] [] [] [] []
noncomputable abbrev zq147.kt (x0 : List ByteArray) : V.Kt Bool := V.ktOf zq147.E zq147.con Tryz.f249 ((x0) : List ByteArray)
noncomputable abbrev zq147.s4 (x0 : List ByteArray) (v4_1 : Int) : V.St := ⟨[(0, .v false [.val (.sl (.cons .str .nil) x0)]), (3, .v false [.val (.int .i64 v4_1)])], []⟩
theorem zq147.r4 (x0 : List ByteArray) (R : V.St → Option Bool) (v4_1 : Int) : V.loopF zq147.E Tryz.f249.ntmps [1, 0, 1, 0] [] (V.codeOf Tryz.f249) (zq147.kt x0) R (zq147.s4 x0 v4_1) = zq147.g4 x0 (fun v4_1 => R (zq147.s4 x0 v4_1)) v4_1 := by kernel_rfl
theorem zq147.e4 (x0 : List ByteArray) : ∀ (n : Nat) (v4_1 : Int), V.loopN (V.loopF zq147.E Tryz.f249.ntmps [1, 0, 1, 0] [] (V.codeOf Tryz.f249) (zq147.kt x0)) n (zq147.s4 x0 v4_1) = zq147.l4 x0 n v4_1 := by
  intro n
  induction n with
  | zero => intros; rw [V.loopN_z]; rfl
  | succ n ih =>
    intro v4_1
    rw [V.loopN_s, zq147.r4]
    simp only [ih]
    first | exact (zq147.u4 ..).symm | rfl
theorem zq147.v (x0 : List ByteArray) : V.evBody zq147.E zq147.con Tryz.f249 ((x0) : List ByteArray) = zq147.b x0 (fun v4_1 => V.loopN (V.loopF zq147.E Tryz.f249.ntmps [1, 0, 1, 0] [] (V.codeOf Tryz.f249) (zq147.kt x0)) V.KK (zq147.s4 x0 v4_1)) := by kernel_rfl
theorem zq147.eq (x0 : List ByteArray) : V.evBody zq147.E zq147.con Tryz.f249 ((x0) : List ByteArray) = zq147 x0 := by
  rw [zq147.v]
  simp only [zq147.e4]
  rfl
theorem zq147.ok : V.Valid Tryz.prog 249 zq147.con :=
  V.fo (V.tab_cons zq179.ok (V.tab_cons zq146.ok V.tab_nil)) Tryz.func249 (by kernel_rfl) (fun x y h => (show V.evBody zq147.E zq147.con Tryz.f249 x = _ from zq147.eq x).trans (V.cfl (by kernel_rfl) h))
noncomputable abbrev zq142.con : V.Con := ⟨V.eEntry, (.cons .bool .nil), fun (x : ByteArray × Int × Int × List ByteArray) => zq142 x, [], [(true, 4)], [(false, 1)], [false], []⟩
noncomputable abbrev zq142.E : V.Env := V.mkE V.tys [(147, zq179.con), (248, zq146.con), (249, zq147.con)] [] [] [] [] []
theorem zq142.eq (x0 : TEntry) : V.evBody zq142.E zq142.con Tryz.f186 ((x0.1, x0.2.1, x0.2.2.1, x0.2.2.2) : ByteArray × Int × Int × List ByteArray) = zq142 x0 := by kernel_rfl
theorem zq142.ok : V.Valid Tryz.prog 186 zq142.con :=
  V.fo (V.tab_cons zq179.ok (V.tab_cons zq146.ok (V.tab_cons zq147.ok V.tab_nil))) Tryz.func186 (by kernel_rfl) (fun x y h => (show V.evBody zq142.E zq142.con Tryz.f186 x = _ from zq142.eq x).trans (V.cfl (by kernel_rfl) h))
noncomputable abbrev zq131.con : V.Con := ⟨(.cons .str (.cons .str .nil)), (.cons (.int .i64) .nil), fun (x : ByteArray × ByteArray) => zq131 x.1 x.2, [], [(false, 1), (false, 1)], [(false, 1)], [false], []⟩
noncomputable abbrev zq131.E : V.Env := V.mkE V.tys [] [] [] [] [] []
theorem zq131.eq (x0 : ByteArray) (x1 : ByteArray) : V.evBody zq131.E zq131.con Tryz.f187 ((x0, x1) : ByteArray × ByteArray) = zq131 x0 x1 := by kernel_rfl
theorem zq131.ok : V.Valid Tryz.prog 187 zq131.con :=
  V.fo V.tab_nil Tryz.func187 (by kernel_rfl) (fun x y h => (show V.evBody zq131.E zq131.con Tryz.f187 x = _ from zq131.eq x.1 x.2).trans (V.cfl (by kernel_rfl) h))
noncomputable abbrev zq128.con : V.Con := ⟨(.cons (.sl V.eEntry) .nil), (.cons .bool .nil), fun (x : List TEntry) => zq128 x, [], [(false, 1)], [(false, 1)], [false], []⟩
noncomputable abbrev zq128.E : V.Env := V.mkE V.tys [(186, zq142.con), (187, zq131.con)] [(4, [0, 3], [])] [(4, 21)] [] [] []
noncomputable abbrev zq128.kt (x0 : List TEntry) : V.Kt Bool := V.ktOf zq128.E zq128.con Tryz.f87 ((x0) : List TEntry)
noncomputable abbrev zq128.s4 (x0 : List TEntry) (v4_1 : Int) : V.St := ⟨[(0, .v false [.val (.sl V.eEntry x0)]), (3, .v false [.val (.int .i64 v4_1)])], []⟩
theorem zq128.r4 (x0 : List TEntry) (R : V.St → Option Bool) (v4_1 : Int) : V.loopF zq128.E Tryz.f87.ntmps [1, 0, 1, 0] [] (V.codeOf Tryz.f87) (zq128.kt x0) R (zq128.s4 x0 v4_1) = zq128.g4 x0 (fun v4_1 => R (zq128.s4 x0 v4_1)) v4_1 := by kernel_rfl
theorem zq128.e4 (x0 : List TEntry) : ∀ (n : Nat) (v4_1 : Int), V.loopN (V.loopF zq128.E Tryz.f87.ntmps [1, 0, 1, 0] [] (V.codeOf Tryz.f87) (zq128.kt x0)) n (zq128.s4 x0 v4_1) = zq128.l4 x0 n v4_1 := by
  intro n
  induction n with
  | zero => intros; rw [V.loopN_z]; rfl
  | succ n ih =>
    intro v4_1
    rw [V.loopN_s, zq128.r4]
    simp only [ih]
    first | exact (zq128.u4 ..).symm | rfl
theorem zq128.v (x0 : List TEntry) : V.evBody zq128.E zq128.con Tryz.f87 ((x0) : List TEntry) = zq128.b x0 (fun v4_1 => V.loopN (V.loopF zq128.E Tryz.f87.ntmps [1, 0, 1, 0] [] (V.codeOf Tryz.f87) (zq128.kt x0)) V.KK (zq128.s4 x0 v4_1)) := by kernel_rfl
theorem zq128.eq (x0 : List TEntry) : V.evBody zq128.E zq128.con Tryz.f87 ((x0) : List TEntry) = zq128 x0 := by
  rw [zq128.v]
  simp only [zq128.e4]
  rfl
theorem zq128.ok : V.Valid Tryz.prog 87 zq128.con :=
  V.fo (V.tab_cons zq142.ok (V.tab_cons zq131.ok V.tab_nil)) Tryz.func87 (by kernel_rfl) (fun x y h => (show V.evBody zq128.E zq128.con Tryz.f87 x = _ from zq128.eq x).trans (V.cfl (by kernel_rfl) h))
noncomputable abbrev zq129.con : V.Con := ⟨(.cons (.sl (.cons (.int .u8) .nil)) .nil), (.cons (.sl (.cons (.int .i64) .nil)) .nil), fun (x : List Int) => zq129 x, [], [(false, 1)], [(false, 1)], [true], []⟩
noncomputable abbrev zq129.E : V.Env := V.mkE V.tys [] [(6, [0, 3, 4], [])] [] [] [] []
noncomputable abbrev zq129.kt (x0 : List Int) : V.Kt (List Int) := V.ktOf zq129.E zq129.con Tryz.f317 ((x0) : List Int)
noncomputable abbrev zq129.s6 (x0 : List Int) (v6_1 : Int) (v6_2 : List Int) : V.St := ⟨[(0, .v false [.val (.sl (.cons (.int .u8) .nil) x0)]), (3, .v false [.ref 64000038400192]), (4, .v false [.val (.int .i64 v6_1)])], [(64000038400192, .row (.cons (.int .i64) .nil) true v6_2)]⟩
theorem zq129.r6 (x0 : List Int) (R : V.St → Option (List Int)) (v6_1 : Int) (v6_2 : List Int) : V.loopF zq129.E Tryz.f317.ntmps [1, 1, 0, 1, 0] [] (V.codeOf Tryz.f317) (zq129.kt x0) R (zq129.s6 x0 v6_1 v6_2) = zq129.g6 x0 (fun v6_1 v6_2 => R (zq129.s6 x0 v6_1 v6_2)) v6_1 v6_2 := by kernel_rfl
theorem zq129.e6 (x0 : List Int) : ∀ (n : Nat) (v6_1 : Int) (v6_2 : List Int), V.loopN (V.loopF zq129.E Tryz.f317.ntmps [1, 1, 0, 1, 0] [] (V.codeOf Tryz.f317) (zq129.kt x0)) n (zq129.s6 x0 v6_1 v6_2) = zq129.l6 x0 n v6_1 v6_2 := by
  intro n
  induction n with
  | zero => intros; rw [V.loopN_z]; rfl
  | succ n ih =>
    intro v6_1 v6_2
    rw [V.loopN_s, zq129.r6]
    simp only [ih]
    first | exact (zq129.u6 ..).symm | rfl
theorem zq129.v (x0 : List Int) : V.evBody zq129.E zq129.con Tryz.f317 ((x0) : List Int) = zq129.b x0 (fun v6_1 v6_2 => V.loopN (V.loopF zq129.E Tryz.f317.ntmps [1, 1, 0, 1, 0] [] (V.codeOf Tryz.f317) (zq129.kt x0)) V.KK (zq129.s6 x0 v6_1 v6_2)) := by kernel_rfl
theorem zq129.eq (x0 : List Int) : V.evBody zq129.E zq129.con Tryz.f317 ((x0) : List Int) = zq129 x0 := by
  rw [zq129.v]
  simp only [zq129.e6]
  rfl
theorem zq129.ok : V.Valid Tryz.prog 317 zq129.con :=
  V.fo V.tab_nil Tryz.func317 (by kernel_rfl) (fun x y h => (show V.evBody zq129.E zq129.con Tryz.f317 x = _ from zq129.eq x).trans (V.cfl (by kernel_rfl) h))
noncomputable abbrev zq153.con : V.Con := ⟨(.cons .str .nil), (.cons (.sl (.cons (.int .i64) .nil)) .nil), fun (x : ByteArray) => zq153 x, [], [(false, 1)], [(false, 1)], [true], []⟩
noncomputable abbrev zq153.E : V.Env := V.mkE V.tys [(317, zq129.con)] [] [] [] [] []
theorem zq153.eq (x0 : ByteArray) : V.evBody zq153.E zq153.con Tryz.f311 ((x0) : ByteArray) = zq153 x0 := by kernel_rfl
theorem zq153.ok : V.Valid Tryz.prog 311 zq153.con :=
  V.fo (V.tab_cons zq129.ok V.tab_nil) Tryz.func311 (by kernel_rfl) (fun x y h => (show V.evBody zq153.E zq153.con Tryz.f311 x = _ from zq153.eq x).trans (V.cfl (by kernel_rfl) h))
noncomputable abbrev zq133.con : V.Con := ⟨V.eEntry, (.cons (.sl (.cons (.int .i64) .nil)) .nil), fun (x : ByteArray × Int × Int × List ByteArray) => zq133 x, [], [(true, 4)], [(false, 1)], [true], []⟩
noncomputable abbrev zq133.E : V.Env := V.mkE V.tys [(311, zq153.con)] [(6, [1, 3, 4], [])] [(1, 11)] [] [] []
noncomputable abbrev zq133.kt (x0 : TEntry) : V.Kt (List Int) := V.ktOf zq133.E zq133.con Tryz.f294 ((x0.1, x0.2.1, x0.2.2.1, x0.2.2.2) : ByteArray × Int × Int × List ByteArray)
noncomputable abbrev zq133.s6 (x0 : TEntry) (v6_0 : Int) (v6_5 : List Int) : V.St := ⟨[(1, .v false [.ptr 64000 0]), (3, .v false [.ref 64000038400192]), (4, .v false [.val (.int .i64 v6_0)])], [(64000, .box [.val (.str x0.1), .val (.int .i64 x0.2.1), .val (.int .i64 x0.2.2.1), .val (.sl (.cons .str .nil) x0.2.2.2)]), (64000038400192, .row (.cons (.int .i64) .nil) true v6_5)]⟩
theorem zq133.r6 (x0 : TEntry) (R : V.St → Option (List Int)) (v6_0 : Int) (v6_5 : List Int) : V.loopF zq133.E Tryz.f294.ntmps [1, 1, 0, 1, 0] [] (V.codeOf Tryz.f294) (zq133.kt x0) R (zq133.s6 x0 v6_0 v6_5) = zq133.g6 x0 (fun v6_0 v6_5 => R (zq133.s6 x0 v6_0 v6_5)) v6_0 v6_5 := by kernel_rfl
theorem zq133.e6 (x0 : TEntry) : ∀ (n : Nat) (v6_0 : Int) (v6_5 : List Int), V.loopN (V.loopF zq133.E Tryz.f294.ntmps [1, 1, 0, 1, 0] [] (V.codeOf Tryz.f294) (zq133.kt x0)) n (zq133.s6 x0 v6_0 v6_5) = zq133.l6 x0 n v6_0 v6_5 := by
  intro n
  induction n with
  | zero => intros; rw [V.loopN_z]; rfl
  | succ n ih =>
    intro v6_0 v6_5
    rw [V.loopN_s, zq133.r6]
    simp only [ih]
    first | exact (zq133.u6 ..).symm | rfl
theorem zq133.v (x0 : TEntry) : V.evBody zq133.E zq133.con Tryz.f294 ((x0.1, x0.2.1, x0.2.2.1, x0.2.2.2) : ByteArray × Int × Int × List ByteArray) = zq133.b x0 (fun v6_0 v6_5 => V.loopN (V.loopF zq133.E Tryz.f294.ntmps [1, 1, 0, 1, 0] [] (V.codeOf Tryz.f294) (zq133.kt x0)) V.KK (zq133.s6 x0 v6_0 v6_5)) := by kernel_rfl
theorem zq133.eq (x0 : TEntry) : V.evBody zq133.E zq133.con Tryz.f294 ((x0.1, x0.2.1, x0.2.2.1, x0.2.2.2) : ByteArray × Int × Int × List ByteArray) = zq133 x0 := by
  rw [zq133.v]
  simp only [zq133.e6]
  rfl
theorem zq133.ok : V.Valid Tryz.prog 294 zq133.con :=
  V.fo (V.tab_cons zq153.ok V.tab_nil) Tryz.func294 (by kernel_rfl) (fun x y h => (show V.evBody zq133.E zq133.con Tryz.f294 x = _ from zq133.eq x).trans (V.cfl (by kernel_rfl) h))
noncomputable abbrev zq155.con : V.Con := ⟨V.eEntry, (.cons (.int .i64) .nil), fun (x : ByteArray × Int × Int × List ByteArray) => zq155 x, [], [(true, 4)], [(false, 1)], [false], []⟩
noncomputable abbrev zq155.E : V.Env := V.mkE V.tys [(247, zq138.con), (294, zq133.con)] [] [] [] [] []
theorem zq155.eq (x0 : TEntry) : V.evBody zq155.E zq155.con Tryz.f251 ((x0.1, x0.2.1, x0.2.2.1, x0.2.2.2) : ByteArray × Int × Int × List ByteArray) = zq155 x0 := by kernel_rfl
theorem zq155.ok : V.Valid Tryz.prog 251 zq155.con :=
  V.fo (V.tab_cons zq138.ok (V.tab_cons zq133.ok V.tab_nil)) Tryz.func251 (by kernel_rfl) (fun x y h => (show V.evBody zq155.E zq155.con Tryz.f251 x = _ from zq155.eq x).trans (V.cfl (by kernel_rfl) h))
noncomputable abbrev zq156.con : V.Con := ⟨(.cons (.sl V.eEntry) .nil), (.cons (.sl (.cons (.int .i64) .nil)) .nil), fun (x : List TEntry) => zq156 x, [], [(false, 1)], [(false, 1)], [true], []⟩
noncomputable abbrev zq156.E : V.Env := V.mkE V.tys [(251, zq155.con)] [(6, [0, 3, 4], [(64000038400192, (.cons (.int .i64) .nil), true)])] [] [] [] []
noncomputable abbrev zq156.kt (x0 : List TEntry) : V.Kt (List Int) := V.ktOf zq156.E zq156.con Tryz.f190 ((x0) : List TEntry)
noncomputable abbrev zq156.s6 (x0 : List TEntry) (v6_1 : Int) (v6_2 : List Int) : V.St := ⟨[(0, .v false [.val (.sl V.eEntry x0)]), (3, .v false [.ref 64000038400192]), (4, .v false [.val (.int .i64 v6_1)])], [(64000038400192, .row (.cons (.int .i64) .nil) true v6_2)]⟩
theorem zq156.r6 (x0 : List TEntry) (R : V.St → Option (List Int)) (v6_1 : Int) (v6_2 : List Int) : V.loopF zq156.E Tryz.f190.ntmps [1, 1, 0, 1, 0] [] (V.codeOf Tryz.f190) (zq156.kt x0) R (zq156.s6 x0 v6_1 v6_2) = zq156.g6 x0 (fun v6_1 v6_2 => R (zq156.s6 x0 v6_1 v6_2)) v6_1 v6_2 := by kernel_rfl
theorem zq156.e6 (x0 : List TEntry) : ∀ (n : Nat) (v6_1 : Int) (v6_2 : List Int), V.loopN (V.loopF zq156.E Tryz.f190.ntmps [1, 1, 0, 1, 0] [] (V.codeOf Tryz.f190) (zq156.kt x0)) n (zq156.s6 x0 v6_1 v6_2) = zq156.l6 x0 n v6_1 v6_2 := by
  intro n
  induction n with
  | zero => intros; rw [V.loopN_z]; rfl
  | succ n ih =>
    intro v6_1 v6_2
    rw [V.loopN_s, zq156.r6]
    simp only [ih]
    first | exact (zq156.u6 ..).symm | rfl
theorem zq156.v (x0 : List TEntry) : V.evBody zq156.E zq156.con Tryz.f190 ((x0) : List TEntry) = zq156.b x0 (fun v6_1 v6_2 => V.loopN (V.loopF zq156.E Tryz.f190.ntmps [1, 1, 0, 1, 0] [] (V.codeOf Tryz.f190) (zq156.kt x0)) V.KK (zq156.s6 x0 v6_1 v6_2)) := by kernel_rfl
theorem zq156.eq (x0 : List TEntry) : V.evBody zq156.E zq156.con Tryz.f190 ((x0) : List TEntry) = zq156 x0 := by
  rw [zq156.v]
  simp only [zq156.e6]
  rfl
theorem zq156.ok : V.Valid Tryz.prog 190 zq156.con :=
  V.fo (V.tab_cons zq155.ok V.tab_nil) Tryz.func190 (by kernel_rfl) (fun x y h => (show V.evBody zq156.E zq156.con Tryz.f190 x = _ from zq156.eq x).trans (V.cfl (by kernel_rfl) h))
noncomputable abbrev zq161.con : V.Con := ⟨(.cons (.int .i64) (.cons (.int .i64) .nil)), (.cons (.int .i64) .nil), fun (x : Int × Int) => zq161 x.1 x.2, [], [(false, 1), (false, 1)], [(false, 1)], [false], []⟩
noncomputable abbrev zq161.E : V.Env := V.mkE V.tys [(247, zq138.con)] [] [] [] [] []
theorem zq161.eq (x0 : Int) (x1 : Int) : V.evBody zq161.E zq161.con Tryz.f293 ((x0, x1) : Int × Int) = zq161 x0 x1 := by kernel_rfl
theorem zq161.ok : V.Valid Tryz.prog 293 zq161.con :=
  V.fo (V.tab_cons zq138.ok V.tab_nil) Tryz.func293 (by kernel_rfl) (fun x y h => (show V.evBody zq161.E zq161.con Tryz.f293 x = _ from zq161.eq x.1 x.2).trans (V.cfl (by kernel_rfl) h))
noncomputable abbrev zq172.con : V.Con := ⟨(.cons (.sl (.cons (.int .i64) .nil)) .nil), (.cons (.sl (.cons (.int .i64) .nil)) .nil), fun (x : List Int) => zq172 x, [], [(false, 1)], [(false, 1)], [true], []⟩
noncomputable abbrev zq172.E : V.Env := V.mkE V.tys [(293, zq161.con)] [(6, [0, 3, 4], [(64000038400192, (.cons (.int .i64) .nil), true)])] [(6, 12)] [] [] []
noncomputable abbrev zq172.kt (x0 : List Int) : V.Kt (List Int) := V.ktOf zq172.E zq172.con Tryz.f250 ((x0) : List Int)
noncomputable abbrev zq172.s6 (x0 : List Int) (v6_1 : Int) (v6_2 : List Int) : V.St := ⟨[(0, .v false [.val (.sl (.cons (.int .i64) .nil) x0)]), (3, .v false [.ref 64000038400192]), (4, .v false [.val (.int .i64 v6_1)])], [(64000038400192, .row (.cons (.int .i64) .nil) true v6_2)]⟩
theorem zq172.r6 (x0 : List Int) (R : V.St → Option (List Int)) (v6_1 : Int) (v6_2 : List Int) : V.loopF zq172.E Tryz.f250.ntmps [1, 1, 0, 1, 0] [] (V.codeOf Tryz.f250) (zq172.kt x0) R (zq172.s6 x0 v6_1 v6_2) = zq172.g6 x0 (fun v6_1 v6_2 => R (zq172.s6 x0 v6_1 v6_2)) v6_1 v6_2 := by kernel_rfl
theorem zq172.e6 (x0 : List Int) : ∀ (n : Nat) (v6_1 : Int) (v6_2 : List Int), V.loopN (V.loopF zq172.E Tryz.f250.ntmps [1, 1, 0, 1, 0] [] (V.codeOf Tryz.f250) (zq172.kt x0)) n (zq172.s6 x0 v6_1 v6_2) = zq172.l6 x0 n v6_1 v6_2 := by
  intro n
  induction n with
  | zero => intros; rw [V.loopN_z]; rfl
  | succ n ih =>
    intro v6_1 v6_2
    rw [V.loopN_s, zq172.r6]
    simp only [ih]
    first | exact (zq172.u6 ..).symm | rfl
theorem zq172.v (x0 : List Int) : V.evBody zq172.E zq172.con Tryz.f250 ((x0) : List Int) = zq172.b x0 (fun v6_1 v6_2 => V.loopN (V.loopF zq172.E Tryz.f250.ntmps [1, 1, 0, 1, 0] [] (V.codeOf Tryz.f250) (zq172.kt x0)) V.KK (zq172.s6 x0 v6_1 v6_2)) := by kernel_rfl
theorem zq172.eq (x0 : List Int) : V.evBody zq172.E zq172.con Tryz.f250 ((x0) : List Int) = zq172 x0 := by
  rw [zq172.v]
  simp only [zq172.e6]
  rfl
theorem zq172.ok : V.Valid Tryz.prog 250 zq172.con :=
  V.fo (V.tab_cons zq161.ok V.tab_nil) Tryz.func250 (by kernel_rfl) (fun x y h => (show V.evBody zq172.E zq172.con Tryz.f250 x = _ from zq172.eq x).trans (V.cfl (by kernel_rfl) h))
noncomputable abbrev zq169.con : V.Con := ⟨(.cons (.sl (.cons (.int .i64) .nil)) .nil), (.cons (.int .i64) .nil), fun (x : List Int) => zq169 x, [], [(false, 1)], [(false, 1)], [false], []⟩
noncomputable abbrev zq169.E : V.Env := V.mkE V.tys [(247, zq138.con), (250, zq172.con)] [(8, [3], [(3, (.cons (.int .i64) .nil), false)])] [] [] [] []
noncomputable abbrev zq169.kt (x0 : List Int) : V.Kt Int := V.ktOf zq169.E zq169.con Tryz.f189 ((x0) : List Int)
noncomputable abbrev zq169.s8 (v8_0 : List Int) : V.St := ⟨[(3, .v false [.val (.sl (.cons (.int .i64) .nil) v8_0)])], []⟩
theorem zq169.r8 (x0 : List Int) (R : V.St → Option Int) (v8_0 : List Int) : V.loopF zq169.E Tryz.f189.ntmps [1, 1, 1, 0, 0] [] (V.codeOf Tryz.f189) (zq169.kt x0) R (zq169.s8 v8_0) = zq169.g8 (fun v8_0 => R (zq169.s8 v8_0)) v8_0 := by kernel_rfl
theorem zq169.e8 (x0 : List Int) : ∀ (n : Nat) (v8_0 : List Int), V.loopN (V.loopF zq169.E Tryz.f189.ntmps [1, 1, 1, 0, 0] [] (V.codeOf Tryz.f189) (zq169.kt x0)) n (zq169.s8 v8_0) = zq169.l8 n v8_0 := by
  intro n
  induction n with
  | zero => intros; rw [V.loopN_z]; rfl
  | succ n ih =>
    intro v8_0
    rw [V.loopN_s, zq169.r8]
    simp only [ih]
    first | exact (zq169.u8 ..).symm | rfl
theorem zq169.v (x0 : List Int) : V.evBody zq169.E zq169.con Tryz.f189 ((x0) : List Int) = zq169.b x0 (fun v8_0 => V.loopN (V.loopF zq169.E Tryz.f189.ntmps [1, 1, 1, 0, 0] [] (V.codeOf Tryz.f189) (zq169.kt x0)) V.KK (zq169.s8 v8_0)) := by kernel_rfl
theorem zq169.eq (x0 : List Int) : V.evBody zq169.E zq169.con Tryz.f189 ((x0) : List Int) = zq169 x0 := by
  rw [zq169.v]
  simp only [zq169.e8]
  rfl
theorem zq169.ok : V.Valid Tryz.prog 189 zq169.con :=
  V.fo (V.tab_cons zq138.ok (V.tab_cons zq172.ok V.tab_nil)) Tryz.func189 (by kernel_rfl) (fun x y h => (show V.evBody zq169.E zq169.con Tryz.f189 x = _ from zq169.eq x).trans (V.cfl (by kernel_rfl) h))
noncomputable abbrev zq171.con : V.Con := ⟨(.cons (.int .i64) (.cons (.int .i64) .nil)), (.cons (.int .i64) .nil), fun (x : Int × Int) => zq171 x.1 x.2, [], [(false, 1), (false, 1)], [(false, 1)], [false], []⟩
noncomputable abbrev zq171.E : V.Env := V.mkE V.tys [(247, zq138.con)] [] [] [] [] []
theorem zq171.eq (x0 : Int) (x1 : Int) : V.evBody zq171.E zq171.con Tryz.f188 ((x0, x1) : Int × Int) = zq171 x0 x1 := by kernel_rfl
theorem zq171.ok : V.Valid Tryz.prog 188 zq171.con :=
  V.fo (V.tab_cons zq138.ok V.tab_nil) Tryz.func188 (by kernel_rfl) (fun x y h => (show V.evBody zq171.E zq171.con Tryz.f188 x = _ from zq171.eq x.1 x.2).trans (V.cfl (by kernel_rfl) h))
noncomputable abbrev zq163.con : V.Con := ⟨(.cons (.sl V.eEntry) .nil), (.cons (.int .i64) .nil), fun (x : List TEntry) => zq163 x, [], [(false, 1)], [(false, 1)], [false], []⟩
noncomputable abbrev zq163.E : V.Env := V.mkE V.tys [(188, zq171.con), (189, zq169.con), (190, zq156.con)] [] [] [] [] []
theorem zq163.eq (x0 : List TEntry) : V.evBody zq163.E zq163.con Tryz.f88 ((x0) : List TEntry) = zq163 x0 := by kernel_rfl
theorem zq163.ok : V.Valid Tryz.prog 88 zq163.con :=
  V.fo (V.tab_cons zq171.ok (V.tab_cons zq169.ok (V.tab_cons zq156.ok V.tab_nil))) Tryz.func88 (by kernel_rfl) (fun x y h => (show V.evBody zq163.E zq163.con Tryz.f88 x = _ from zq163.eq x).trans (V.cfl (by kernel_rfl) h))
noncomputable abbrev zq130.con : V.Con := ⟨(.cons (.int .i64) (.cons (.sl V.eEntry) .nil)), (.cons .bool .nil), fun (x : Int × List TEntry) => zq130 x.1 x.2, [], [(false, 1), (false, 1)], [(false, 1)], [false], []⟩
noncomputable abbrev zq130.E : V.Env := V.mkE V.tys [(87, zq128.con), (88, zq163.con)] [] [] [] [] []
theorem zq130.eq (x0 : Int) (x1 : List TEntry) : V.evBody zq130.E zq130.con Tryz.f135 ((x0, x1) : Int × List TEntry) = zq130 x0 x1 := by kernel_rfl
theorem zq130.ok : V.Valid Tryz.prog 135 zq130.con :=
  V.fo (V.tab_cons zq128.ok (V.tab_cons zq163.ok V.tab_nil)) Tryz.func135 (by kernel_rfl) (fun x y h => (show V.evBody zq130.E zq130.con Tryz.f135 x = _ from zq130.eq x.1 x.2).trans (V.cfl (by kernel_rfl) h))
noncomputable abbrev zq150.con : V.Con := ⟨(.cons (.sl V.eSigned) (.cons (.sl V.eEntry) .nil)), (.cons .bool .nil), fun (x : List TSigned × List TEntry) => zq150 x, [], [(true, 2)], [(false, 1)], [false], []⟩
noncomputable abbrev zq150.E : V.Env := V.mkE V.tys [(134, zq154.con), (135, zq130.con)] [] [] [] [] []
theorem zq150.eq (x0 : TZone) : V.evBody zq150.E zq150.con Tryz.f44 ((x0.1, x0.2) : List TSigned × List TEntry) = zq150 x0 := by kernel_rfl
theorem zq150.ok : V.Valid Tryz.prog 44 zq150.con :=
  V.fo (V.tab_cons zq154.ok (V.tab_cons zq130.ok V.tab_nil)) Tryz.func44 (by kernel_rfl) (fun x y h => (show V.evBody zq150.E zq150.con Tryz.f44 x = _ from zq150.eq x).trans (V.cfl (by kernel_rfl) h))
noncomputable abbrev zq174.con : V.Con := ⟨V.A3, V.eSigned, fun (x : V.D3) => zq174 (V.p3_0 x), [], [(true, 17)], [(true, 17)], [false, false, false, false, false, false, false, false, true, false, true, false, false, true, false, false, true], []⟩
noncomputable abbrev zq174.E : V.Env := V.mkE V.tys [(184, zq173.con)] [] [(1, 6)] [] [] []
noncomputable abbrev zq174.kt (x0 : TSigned) : V.Kt TSigned := V.ktOf zq174.E zq174.con Tryz.f102 (V.fl3 x0)
noncomputable abbrev zq174.s (x0 : TSigned) : V.St := ⟨[(0, .v true [.val (.int .i64 x0.1), .val (.int .i64 x0.2.1), .val (.int .i64 x0.2.2.1), .val (.int .i64 x0.2.2.2.1), .val (.int .i64 x0.2.2.2.2.1), .val (.int .i64 x0.2.2.2.2.2.1), .val (.int .i64 x0.2.2.2.2.2.2.1), .val (.int .i64 x0.2.2.2.2.2.2.2.1), .val (.sl (.cons (.int .i64) .nil) x0.2.2.2.2.2.2.2.2.1), .val (.int .i64 x0.2.2.2.2.2.2.2.2.2.1), .val (.sl (.cons (.int .i64) .nil) x0.2.2.2.2.2.2.2.2.2.2.1), .val (.int .i64 x0.2.2.2.2.2.2.2.2.2.2.2.1), .val (.int .i64 x0.2.2.2.2.2.2.2.2.2.2.2.2.1), .val (.sl (.cons (.int .i64) .nil) x0.2.2.2.2.2.2.2.2.2.2.2.2.2.1), .val (.int .i64 x0.2.2.2.2.2.2.2.2.2.2.2.2.2.2.1), .val (.bool x0.2.2.2.2.2.2.2.2.2.2.2.2.2.2.2.1), .val (.sl (.cons (.int .i64) (.cons (.int .i64) .nil)) x0.2.2.2.2.2.2.2.2.2.2.2.2.2.2.2.2)])], []⟩
theorem zq174.v0 (x0 : TSigned) : V.evBody zq174.E zq174.con Tryz.f102 (V.fl3 x0) = V.evC zq174.E Tryz.f102.ntmps (V.codeOf Tryz.f102) (zq174.kt x0) (zq174.s x0) := by kernel_rfl
theorem zq174.v (x0 : TSigned) : V.evC zq174.E Tryz.f102.ntmps (V.codeOf Tryz.f102) (zq174.kt x0) (zq174.s x0) = zq174 x0 := by kernel_rfl
theorem zq174.eq (x0 : TSigned) : V.evBody zq174.E zq174.con Tryz.f102 (V.fl3 x0) = zq174 x0 := (zq174.v0 x0).trans (zq174.v x0)
theorem zq174.ok : V.Valid Tryz.prog 102 zq174.con :=
  V.fo (V.tab_cons zq173.ok V.tab_nil) Tryz.func102 (by kernel_rfl) (fun x y h => (show V.evBody zq174.E zq174.con Tryz.f102 x = _ from zq174.eq (V.p3_0 x)).trans (V.cfl (by kernel_rfl) h))
noncomputable abbrev zq178.con : V.Con := ⟨(.cons (.sl V.eSigned) .nil), (.cons (.sl V.eSigned) .nil), fun (x : List TSigned) => zq178 x, [], [(false, 1)], [(false, 1)], [true], []⟩
noncomputable abbrev zq178.E : V.Env := V.mkE V.tys [(102, zq174.con)] [(6, [0, 3, 4], [(64000038400192, V.eSigned, true)])] [] [] [] []
noncomputable abbrev zq178.kt (x0 : List TSigned) : V.Kt (List TSigned) := V.ktOf zq178.E zq178.con Tryz.f241 ((x0) : List TSigned)
noncomputable abbrev zq178.s6 (x0 : List TSigned) (v6_1 : Int) (v6_2 : List TSigned) : V.St := ⟨[(0, .v false [.val (.sl V.eSigned x0)]), (3, .v false [.ref 64000038400192]), (4, .v false [.val (.int .i64 v6_1)])], [(64000038400192, .row V.eSigned true v6_2)]⟩
theorem zq178.r6 (x0 : List TSigned) (R : V.St → Option (List TSigned)) (v6_1 : Int) (v6_2 : List TSigned) : V.loopF zq178.E Tryz.f241.ntmps [1, 1, 0, 1, 0] [] (V.codeOf Tryz.f241) (zq178.kt x0) R (zq178.s6 x0 v6_1 v6_2) = zq178.g6 x0 (fun v6_1 v6_2 => R (zq178.s6 x0 v6_1 v6_2)) v6_1 v6_2 := by kernel_rfl
theorem zq178.e6 (x0 : List TSigned) : ∀ (n : Nat) (v6_1 : Int) (v6_2 : List TSigned), V.loopN (V.loopF zq178.E Tryz.f241.ntmps [1, 1, 0, 1, 0] [] (V.codeOf Tryz.f241) (zq178.kt x0)) n (zq178.s6 x0 v6_1 v6_2) = zq178.l6 x0 n v6_1 v6_2 := by
  intro n
  induction n with
  | zero => intros; rw [V.loopN_z]; rfl
  | succ n ih =>
    intro v6_1 v6_2
    rw [V.loopN_s, zq178.r6]
    simp only [ih]
    first | exact (zq178.u6 ..).symm | rfl
theorem zq178.v (x0 : List TSigned) : V.evBody zq178.E zq178.con Tryz.f241 ((x0) : List TSigned) = zq178.b x0 (fun v6_1 v6_2 => V.loopN (V.loopF zq178.E Tryz.f241.ntmps [1, 1, 0, 1, 0] [] (V.codeOf Tryz.f241) (zq178.kt x0)) V.KK (zq178.s6 x0 v6_1 v6_2)) := by kernel_rfl
theorem zq178.eq (x0 : List TSigned) : V.evBody zq178.E zq178.con Tryz.f241 ((x0) : List TSigned) = zq178 x0 := by
  rw [zq178.v]
  simp only [zq178.e6]
  rfl
theorem zq178.ok : V.Valid Tryz.prog 241 zq178.con :=
  V.fo (V.tab_cons zq174.ok V.tab_nil) Tryz.func241 (by kernel_rfl) (fun x y h => (show V.evBody zq178.E zq178.con Tryz.f241 x = _ from zq178.eq x).trans (V.cfl (by kernel_rfl) h))
noncomputable abbrev zq181.con : V.Con := ⟨(.cons (.sl (.cons .str .nil)) .nil), (.cons (.sl (.cons .str .nil)) .nil), fun (x : List ByteArray) => zq181 x, [], [(false, 1)], [(false, 1)], [true], []⟩
noncomputable abbrev zq181.E : V.Env := V.mkE V.tys [] [] [] [] [] []
theorem zq181.eq (x0 : List ByteArray) : V.evBody zq181.E zq181.con Tryz.f239 ((x0) : List ByteArray) = zq181 x0 := by kernel_rfl
theorem zq181.ok : V.Valid Tryz.prog 239 zq181.con :=
  V.fo V.tab_nil Tryz.func239 (by kernel_rfl) (fun x y h => (show V.evBody zq181.E zq181.con Tryz.f239 x = _ from zq181.eq x).trans (V.cfl (by kernel_rfl) h))
noncomputable abbrev zq184.con : V.Con := ⟨V.eEntry, V.eEntry, fun (x : ByteArray × Int × Int × List ByteArray) => zq184 x, [], [(true, 4)], [(true, 4)], [false, false, false, true], []⟩
noncomputable abbrev zq184.E : V.Env := V.mkE V.tys [(239, zq181.con)] [] [(1, 9)] [] [] []
theorem zq184.eq (x0 : TEntry) : V.evBody zq184.E zq184.con Tryz.f166 ((x0.1, x0.2.1, x0.2.2.1, x0.2.2.2) : ByteArray × Int × Int × List ByteArray) = zq184 x0 := by kernel_rfl
theorem zq184.ok : V.Valid Tryz.prog 166 zq184.con :=
  V.fo (V.tab_cons zq181.ok V.tab_nil) Tryz.func166 (by kernel_rfl) (fun x y h => (show V.evBody zq184.E zq184.con Tryz.f166 x = _ from zq184.eq x).trans (V.cfl (by kernel_rfl) h))
noncomputable abbrev zq185.con : V.Con := ⟨(.cons (.sl V.eEntry) .nil), (.cons (.sl V.eEntry) .nil), fun (x : List TEntry) => zq185 x, [], [(false, 1)], [(false, 1)], [true], []⟩
noncomputable abbrev zq185.E : V.Env := V.mkE V.tys [(166, zq184.con)] [(6, [0, 3, 4], [(64000038400192, V.eEntry, true)])] [] [] [] []
noncomputable abbrev zq185.kt (x0 : List TEntry) : V.Kt (List TEntry) := V.ktOf zq185.E zq185.con Tryz.f140 ((x0) : List TEntry)
noncomputable abbrev zq185.s6 (x0 : List TEntry) (v6_1 : Int) (v6_2 : List TEntry) : V.St := ⟨[(0, .v false [.val (.sl V.eEntry x0)]), (3, .v false [.ref 64000038400192]), (4, .v false [.val (.int .i64 v6_1)])], [(64000038400192, .row V.eEntry true v6_2)]⟩
theorem zq185.r6 (x0 : List TEntry) (R : V.St → Option (List TEntry)) (v6_1 : Int) (v6_2 : List TEntry) : V.loopF zq185.E Tryz.f140.ntmps [1, 1, 0, 1, 0] [] (V.codeOf Tryz.f140) (zq185.kt x0) R (zq185.s6 x0 v6_1 v6_2) = zq185.g6 x0 (fun v6_1 v6_2 => R (zq185.s6 x0 v6_1 v6_2)) v6_1 v6_2 := by kernel_rfl
theorem zq185.e6 (x0 : List TEntry) : ∀ (n : Nat) (v6_1 : Int) (v6_2 : List TEntry), V.loopN (V.loopF zq185.E Tryz.f140.ntmps [1, 1, 0, 1, 0] [] (V.codeOf Tryz.f140) (zq185.kt x0)) n (zq185.s6 x0 v6_1 v6_2) = zq185.l6 x0 n v6_1 v6_2 := by
  intro n
  induction n with
  | zero => intros; rw [V.loopN_z]; rfl
  | succ n ih =>
    intro v6_1 v6_2
    rw [V.loopN_s, zq185.r6]
    simp only [ih]
    first | exact (zq185.u6 ..).symm | rfl
theorem zq185.v (x0 : List TEntry) : V.evBody zq185.E zq185.con Tryz.f140 ((x0) : List TEntry) = zq185.b x0 (fun v6_1 v6_2 => V.loopN (V.loopF zq185.E Tryz.f140.ntmps [1, 1, 0, 1, 0] [] (V.codeOf Tryz.f140) (zq185.kt x0)) V.KK (zq185.s6 x0 v6_1 v6_2)) := by kernel_rfl
theorem zq185.eq (x0 : List TEntry) : V.evBody zq185.E zq185.con Tryz.f140 ((x0) : List TEntry) = zq185 x0 := by
  rw [zq185.v]
  simp only [zq185.e6]
  rfl
theorem zq185.ok : V.Valid Tryz.prog 140 zq185.con :=
  V.fo (V.tab_cons zq184.ok V.tab_nil) Tryz.func140 (by kernel_rfl) (fun x y h => (show V.evBody zq185.E zq185.con Tryz.f140 x = _ from zq185.eq x).trans (V.cfl (by kernel_rfl) h))
noncomputable abbrev zq180.con : V.Con := ⟨(.cons (.sl V.eSigned) (.cons (.sl V.eEntry) .nil)), (.cons (.sl V.eSigned) (.cons (.sl V.eEntry) .nil)), fun (x : List TSigned × List TEntry) => zq180 x, [], [(true, 2)], [(true, 2)], [true, true], []⟩
noncomputable abbrev zq180.E : V.Env := V.mkE V.tys [(140, zq185.con), (241, zq178.con)] [] [(1, 5)] [] [] []
theorem zq180.eq (x0 : TZone) : V.evBody zq180.E zq180.con Tryz.f172 ((x0.1, x0.2) : List TSigned × List TEntry) = zq180 x0 := by kernel_rfl
theorem zq180.ok : V.Valid Tryz.prog 172 zq180.con :=
  V.fo (V.tab_cons zq185.ok (V.tab_cons zq178.ok V.tab_nil)) Tryz.func172 (by kernel_rfl) (fun x y h => (show V.evBody zq180.E zq180.con Tryz.f172 x = _ from zq180.eq x).trans (V.cfl (by kernel_rfl) h))
noncomputable abbrev zq183.con : V.Con := ⟨(.cons (.sl (.cons (.int .i64) .nil)) (.cons (.int .i64) .nil)), (.cons .bool .nil), fun (x : List Int × Int) => zq183 x.1 x.2, [], [(false, 1), (false, 1)], [(false, 1)], [false], []⟩
noncomputable abbrev zq183.E : V.Env := V.mkE V.tys [] [(4, [0, 1, 5], [])] [] [] [] []
noncomputable abbrev zq183.kt (x0 : List Int) (x1 : Int) : V.Kt Bool := V.ktOf zq183.E zq183.con Tryz.f274 ((x0, x1) : List Int × Int)
noncomputable abbrev zq183.s4 (x0 : List Int) (x1 : Int) (v4_2 : Int) : V.St := ⟨[(0, .v false [.val (.sl (.cons (.int .i64) .nil) x0)]), (1, .v false [.val (.int .i64 x1)]), (5, .v false [.val (.int .i64 v4_2)])], []⟩
theorem zq183.r4 (x0 : List Int) (x1 : Int) (R : V.St → Option Bool) (v4_2 : Int) : V.loopF zq183.E Tryz.f274.ntmps [1, 0, 1, 0] [] (V.codeOf Tryz.f274) (zq183.kt x0 x1) R (zq183.s4 x0 x1 v4_2) = zq183.g4 x0 x1 (fun v4_2 => R (zq183.s4 x0 x1 v4_2)) v4_2 := by kernel_rfl
theorem zq183.e4 (x0 : List Int) (x1 : Int) : ∀ (n : Nat) (v4_2 : Int), V.loopN (V.loopF zq183.E Tryz.f274.ntmps [1, 0, 1, 0] [] (V.codeOf Tryz.f274) (zq183.kt x0 x1)) n (zq183.s4 x0 x1 v4_2) = zq183.l4 x0 x1 n v4_2 := by
  intro n
  induction n with
  | zero => intros; rw [V.loopN_z]; rfl
  | succ n ih =>
    intro v4_2
    rw [V.loopN_s, zq183.r4]
    simp only [ih]
    first | exact (zq183.u4 ..).symm | rfl
theorem zq183.v (x0 : List Int) (x1 : Int) : V.evBody zq183.E zq183.con Tryz.f274 ((x0, x1) : List Int × Int) = zq183.b x0 x1 (fun v4_2 => V.loopN (V.loopF zq183.E Tryz.f274.ntmps [1, 0, 1, 0] [] (V.codeOf Tryz.f274) (zq183.kt x0 x1)) V.KK (zq183.s4 x0 x1 v4_2)) := by kernel_rfl
theorem zq183.eq (x0 : List Int) (x1 : Int) : V.evBody zq183.E zq183.con Tryz.f274 ((x0, x1) : List Int × Int) = zq183 x0 x1 := by
  rw [zq183.v]
  simp only [zq183.e4]
  rfl
theorem zq183.ok : V.Valid Tryz.prog 274 zq183.con :=
  V.fo V.tab_nil Tryz.func274 (by kernel_rfl) (fun x y h => (show V.evBody zq183.E zq183.con Tryz.f274 x = _ from zq183.eq x.1 x.2).trans (V.cfl (by kernel_rfl) h))
noncomputable abbrev zq165.con : V.Con := ⟨(.cons (.sl (.cons (.int .i64) .nil)) (.cons (.sl (.cons (.int .i64) .nil)) (.cons (.int .i64) (.cons (.sl (.cons (.int .i64) .nil)) .nil)))), (.cons (.sl (.cons (.int .i64) (.cons (.int .i64) .nil))) .nil), fun (x : List Int × List Int × Int × List Int) => zq165 x.1 (x.2.1, x.2.2.1) x.2.2.2, [], [(false, 1), (true, 2), (false, 1)], [(false, 1)], [true], []⟩
noncomputable abbrev zq165.E : V.Env := V.mkE V.tys [(118, zq168.con), (274, zq183.con)] [(6, [0, 2, 4, 7, 8], [(64000038400448, (.cons (.int .i64) (.cons (.int .i64) .nil)), true)])] [(6, 15)] [] [] []
noncomputable abbrev zq165.kt (x0 : List Int) (x1 : TKeys) (x2 : List Int) : V.Kt (List TSig) := V.ktOf zq165.E zq165.con Tryz.f226 ((x0, x1.1, x1.2, x2) : List Int × List Int × Int × List Int)
noncomputable abbrev zq165.s6 (x0 : List Int) (x1 : TKeys) (x2 : List Int) (v6_2 : Int) (v6_5 : List TSig) : V.St := ⟨[(0, .v false [.val (.sl (.cons (.int .i64) .nil) x0)]), (2, .v false [.val (.sl (.cons (.int .i64) .nil) x2)]), (4, .v false [.ptr 64000 0]), (7, .v false [.ref 64000038400448]), (8, .v false [.val (.int .i64 v6_2)])], [(64000, .box [.val (.sl (.cons (.int .i64) .nil) x1.1), .val (.int .i64 x1.2)]), (64000038400448, .row (.cons (.int .i64) (.cons (.int .i64) .nil)) true v6_5)]⟩
theorem zq165.r6 (x0 : List Int) (x1 : TKeys) (x2 : List Int) (R : V.St → Option (List TSig)) (v6_2 : Int) (v6_5 : List TSig) : V.loopF zq165.E Tryz.f226.ntmps [1, 1, 0, 1, 0] [] (V.codeOf Tryz.f226) (zq165.kt x0 x1 x2) R (zq165.s6 x0 x1 x2 v6_2 v6_5) = zq165.g6 x0 x1 x2 (fun v6_2 v6_5 => R (zq165.s6 x0 x1 x2 v6_2 v6_5)) v6_2 v6_5 := by kernel_rfl
theorem zq165.e6 (x0 : List Int) (x1 : TKeys) (x2 : List Int) : ∀ (n : Nat) (v6_2 : Int) (v6_5 : List TSig), V.loopN (V.loopF zq165.E Tryz.f226.ntmps [1, 1, 0, 1, 0] [] (V.codeOf Tryz.f226) (zq165.kt x0 x1 x2)) n (zq165.s6 x0 x1 x2 v6_2 v6_5) = zq165.l6 x0 x1 x2 n v6_2 v6_5 := by
  intro n
  induction n with
  | zero => intros; rw [V.loopN_z]; rfl
  | succ n ih =>
    intro v6_2 v6_5
    rw [V.loopN_s, zq165.r6]
    simp only [ih]
    first | exact (zq165.u6 ..).symm | rfl
theorem zq165.v (x0 : List Int) (x1 : TKeys) (x2 : List Int) : V.evBody zq165.E zq165.con Tryz.f226 ((x0, x1.1, x1.2, x2) : List Int × List Int × Int × List Int) = zq165.b x0 x1 x2 (fun v6_2 v6_5 => V.loopN (V.loopF zq165.E Tryz.f226.ntmps [1, 1, 0, 1, 0] [] (V.codeOf Tryz.f226) (zq165.kt x0 x1 x2)) V.KK (zq165.s6 x0 x1 x2 v6_2 v6_5)) := by kernel_rfl
theorem zq165.eq (x0 : List Int) (x1 : TKeys) (x2 : List Int) : V.evBody zq165.E zq165.con Tryz.f226 ((x0, x1.1, x1.2, x2) : List Int × List Int × Int × List Int) = zq165 x0 x1 x2 := by
  rw [zq165.v]
  simp only [zq165.e6]
  rfl
theorem zq165.ok : V.Valid Tryz.prog 226 zq165.con :=
  V.fo (V.tab_cons zq168.ok (V.tab_cons zq183.ok V.tab_nil)) Tryz.func226 (by kernel_rfl) (fun x y h => (show V.evBody zq165.E zq165.con Tryz.f226 x = _ from zq165.eq x.1 (x.2.1, x.2.2.1) x.2.2.2).trans (V.cfl (by kernel_rfl) h))
noncomputable abbrev zq166.con : V.Con := ⟨V.A6, V.eSigned, fun (x : V.D6) => zq166 (V.p6_0 x) (V.p6_1 x) (V.p6_2 x), [], [(false, 1), (true, 2), (true, 16)], [(true, 17)], [false, false, false, false, false, false, false, false, true, false, true, false, false, true, false, false, true], []⟩
noncomputable abbrev zq166.E : V.Env := V.mkE V.tys [(184, zq173.con), (205, zq140.con), (226, zq165.con)] [] [(1, 6)] [] [] []
noncomputable abbrev zq166.kt (x0 : List Int) (x1 : TKeys) (x2 : THead) : V.Kt TSigned := V.ktOf zq166.E zq166.con Tryz.f139 (V.fl6 x0 x1 x2)
noncomputable abbrev zq166.s (x0 : List Int) (x1 : TKeys) (x2 : THead) : V.St := ⟨[(0, .v false [.val (.sl (.cons (.int .i64) .nil) x0)]), (1, .v true [.val (.sl (.cons (.int .i64) .nil) x1.1), .val (.int .i64 x1.2)]), (2, .v true [.val (.int .i64 x2.1), .val (.int .i64 x2.2.1), .val (.int .i64 x2.2.2.1), .val (.int .i64 x2.2.2.2.1), .val (.int .i64 x2.2.2.2.2.1), .val (.int .i64 x2.2.2.2.2.2.1), .val (.int .i64 x2.2.2.2.2.2.2.1), .val (.int .i64 x2.2.2.2.2.2.2.2.1), .val (.sl (.cons (.int .i64) .nil) x2.2.2.2.2.2.2.2.2.1), .val (.int .i64 x2.2.2.2.2.2.2.2.2.2.1), .val (.sl (.cons (.int .i64) .nil) x2.2.2.2.2.2.2.2.2.2.2.1), .val (.int .i64 x2.2.2.2.2.2.2.2.2.2.2.2.1), .val (.int .i64 x2.2.2.2.2.2.2.2.2.2.2.2.2.1), .val (.sl (.cons (.int .i64) .nil) x2.2.2.2.2.2.2.2.2.2.2.2.2.2.1), .val (.int .i64 x2.2.2.2.2.2.2.2.2.2.2.2.2.2.2.1), .val (.bool x2.2.2.2.2.2.2.2.2.2.2.2.2.2.2.2)])], []⟩
theorem zq166.v0 (x0 : List Int) (x1 : TKeys) (x2 : THead) : V.evBody zq166.E zq166.con Tryz.f139 (V.fl6 x0 x1 x2) = V.evC zq166.E Tryz.f139.ntmps (V.codeOf Tryz.f139) (zq166.kt x0 x1 x2) (zq166.s x0 x1 x2) := by kernel_rfl
theorem zq166.v (x0 : List Int) (x1 : TKeys) (x2 : THead) : V.evC zq166.E Tryz.f139.ntmps (V.codeOf Tryz.f139) (zq166.kt x0 x1 x2) (zq166.s x0 x1 x2) = zq166 x0 x1 x2 := by kernel_rfl
theorem zq166.eq (x0 : List Int) (x1 : TKeys) (x2 : THead) : V.evBody zq166.E zq166.con Tryz.f139 (V.fl6 x0 x1 x2) = zq166 x0 x1 x2 := (zq166.v0 x0 x1 x2).trans (zq166.v x0 x1 x2)
theorem zq166.ok : V.Valid Tryz.prog 139 zq166.con :=
  V.fo (V.tab_cons zq173.ok (V.tab_cons zq140.ok (V.tab_cons zq165.ok V.tab_nil))) Tryz.func139 (by kernel_rfl) (fun x y h => (show V.evBody zq166.E zq166.con Tryz.f139 x = _ from zq166.eq (V.p6_0 x) (V.p6_1 x) (V.p6_2 x)).trans (V.cfl (by kernel_rfl) h))
noncomputable abbrev zq167.con : V.Con := ⟨V.A7, V.eSigned, fun (x : V.D7) => zq167 (V.p7_0 x) (V.p7_1 x) (V.p7_2 x), [], [(true, 16), (true, 16), (false, 1)], [(true, 17)], [false, false, false, false, false, false, false, false, true, false, true, false, false, true, false, false, true], []⟩
noncomputable abbrev zq167.E : V.Env := V.mkE V.tys [(139, zq166.con)] [] [] [] [] []
noncomputable abbrev zq167.kt (x0 : THead) (x1 : THead) (x2 : List Int) : V.Kt TSigned := V.ktOf zq167.E zq167.con Tryz.f174 (V.fl7 x0 x1 x2)
noncomputable abbrev zq167.s (x0 : THead) (x1 : THead) (x2 : List Int) : V.St := ⟨[(0, .v true [.val (.int .i64 x0.1), .val (.int .i64 x0.2.1), .val (.int .i64 x0.2.2.1), .val (.int .i64 x0.2.2.2.1), .val (.int .i64 x0.2.2.2.2.1), .val (.int .i64 x0.2.2.2.2.2.1), .val (.int .i64 x0.2.2.2.2.2.2.1), .val (.int .i64 x0.2.2.2.2.2.2.2.1), .val (.sl (.cons (.int .i64) .nil) x0.2.2.2.2.2.2.2.2.1), .val (.int .i64 x0.2.2.2.2.2.2.2.2.2.1), .val (.sl (.cons (.int .i64) .nil) x0.2.2.2.2.2.2.2.2.2.2.1), .val (.int .i64 x0.2.2.2.2.2.2.2.2.2.2.2.1), .val (.int .i64 x0.2.2.2.2.2.2.2.2.2.2.2.2.1), .val (.sl (.cons (.int .i64) .nil) x0.2.2.2.2.2.2.2.2.2.2.2.2.2.1), .val (.int .i64 x0.2.2.2.2.2.2.2.2.2.2.2.2.2.2.1), .val (.bool x0.2.2.2.2.2.2.2.2.2.2.2.2.2.2.2)]), (1, .v true [.val (.int .i64 x1.1), .val (.int .i64 x1.2.1), .val (.int .i64 x1.2.2.1), .val (.int .i64 x1.2.2.2.1), .val (.int .i64 x1.2.2.2.2.1), .val (.int .i64 x1.2.2.2.2.2.1), .val (.int .i64 x1.2.2.2.2.2.2.1), .val (.int .i64 x1.2.2.2.2.2.2.2.1), .val (.sl (.cons (.int .i64) .nil) x1.2.2.2.2.2.2.2.2.1), .val (.int .i64 x1.2.2.2.2.2.2.2.2.2.1), .val (.sl (.cons (.int .i64) .nil) x1.2.2.2.2.2.2.2.2.2.2.1), .val (.int .i64 x1.2.2.2.2.2.2.2.2.2.2.2.1), .val (.int .i64 x1.2.2.2.2.2.2.2.2.2.2.2.2.1), .val (.sl (.cons (.int .i64) .nil) x1.2.2.2.2.2.2.2.2.2.2.2.2.2.1), .val (.int .i64 x1.2.2.2.2.2.2.2.2.2.2.2.2.2.2.1), .val (.bool x1.2.2.2.2.2.2.2.2.2.2.2.2.2.2.2)]), (2, .v false [.val (.sl (.cons (.int .i64) .nil) x2)])], []⟩
theorem zq167.v0 (x0 : THead) (x1 : THead) (x2 : List Int) : V.evBody zq167.E zq167.con Tryz.f174 (V.fl7 x0 x1 x2) = V.evC zq167.E Tryz.f174.ntmps (V.codeOf Tryz.f174) (zq167.kt x0 x1 x2) (zq167.s x0 x1 x2) := by kernel_rfl
theorem zq167.v (x0 : THead) (x1 : THead) (x2 : List Int) : V.evC zq167.E Tryz.f174.ntmps (V.codeOf Tryz.f174) (zq167.kt x0 x1 x2) (zq167.s x0 x1 x2) = zq167 x0 x1 x2 := by kernel_rfl
theorem zq167.eq (x0 : THead) (x1 : THead) (x2 : List Int) : V.evBody zq167.E zq167.con Tryz.f174 (V.fl7 x0 x1 x2) = zq167 x0 x1 x2 := (zq167.v0 x0 x1 x2).trans (zq167.v x0 x1 x2)
theorem zq167.ok : V.Valid Tryz.prog 174 zq167.con :=
  V.fo (V.tab_cons zq166.ok V.tab_nil) Tryz.func174 (by kernel_rfl) (fun x y h => (show V.evBody zq167.E zq167.con Tryz.f174 x = _ from zq167.eq (V.p7_0 x) (V.p7_1 x) (V.p7_2 x)).trans (V.cfl (by kernel_rfl) h))
noncomputable abbrev zq136.con : V.Con := ⟨V.A8, (.cons (.sl V.eSigned) (.cons (.int .i64) .nil)), fun (x : V.D8) => zq136 (V.p8_0 x) (V.p8_1 x), [], [(false, 1), (true, 17)], [(false, 1), (false, 1)], [true, false], []⟩
noncomputable abbrev zq136.E : V.Env := V.mkE V.tys [(102, zq174.con), (134, zq154.con), (241, zq178.con), (242, zq159.con)] [(7, [0, 3, 6, 20], [])] [(7, 3)] [] [] []
noncomputable abbrev zq136.kt (x0 : List TSigned) (x1 : TSigned) : V.Kt (List TSigned × Int) := V.ktOf zq136.E zq136.con Tryz.f173 (V.fl8 x0 x1)
noncomputable abbrev zq136.s7 (x0 : List TSigned) (x1 : TSigned) (y1 : TRHeadBool) (v7_1 : Bool) : V.St := ⟨[(0, .v false [.val (.sl V.eSigned x0)]), (3, .v false [.ptr 64000 0]), (6, .v false [.ptr 128320 0]), (20, .v false [.val (.bool v7_1)])], [(64000, .box [.val (.int .i64 x1.1), .val (.int .i64 x1.2.1), .val (.int .i64 x1.2.2.1), .val (.int .i64 x1.2.2.2.1), .val (.int .i64 x1.2.2.2.2.1), .val (.int .i64 x1.2.2.2.2.2.1), .val (.int .i64 x1.2.2.2.2.2.2.1), .val (.int .i64 x1.2.2.2.2.2.2.2.1), .val (.sl (.cons (.int .i64) .nil) x1.2.2.2.2.2.2.2.2.1), .val (.int .i64 x1.2.2.2.2.2.2.2.2.2.1), .val (.sl (.cons (.int .i64) .nil) x1.2.2.2.2.2.2.2.2.2.2.1), .val (.int .i64 x1.2.2.2.2.2.2.2.2.2.2.2.1), .val (.int .i64 x1.2.2.2.2.2.2.2.2.2.2.2.2.1), .val (.sl (.cons (.int .i64) .nil) x1.2.2.2.2.2.2.2.2.2.2.2.2.2.1), .val (.int .i64 x1.2.2.2.2.2.2.2.2.2.2.2.2.2.2.1), .val (.bool x1.2.2.2.2.2.2.2.2.2.2.2.2.2.2.2.1), .val (.sl (.cons (.int .i64) (.cons (.int .i64) .nil)) x1.2.2.2.2.2.2.2.2.2.2.2.2.2.2.2.2)]), (128320, .box [.val (.int .i64 y1.1), .val (.int .i64 y1.2.1), .val (.int .i64 y1.2.2.1), .val (.int .i64 y1.2.2.2.1), .val (.int .i64 y1.2.2.2.2.1), .val (.int .i64 y1.2.2.2.2.2.1), .val (.int .i64 y1.2.2.2.2.2.2.1), .val (.int .i64 y1.2.2.2.2.2.2.2.1), .ref 64000000000008212488, .val (.int .i64 y1.2.2.2.2.2.2.2.2.2.1), .ref 64000000000008212490, .val (.int .i64 y1.2.2.2.2.2.2.2.2.2.2.2.1), .val (.int .i64 y1.2.2.2.2.2.2.2.2.2.2.2.2.1), .ref 64000000000008212493, .val (.int .i64 y1.2.2.2.2.2.2.2.2.2.2.2.2.2.2.1), .val (.bool y1.2.2.2.2.2.2.2.2.2.2.2.2.2.2.2.1)]), (64000000000008212488, .row (.cons (.int .i64) .nil) true y1.2.2.2.2.2.2.2.2.1), (64000000000008212490, .row (.cons (.int .i64) .nil) true y1.2.2.2.2.2.2.2.2.2.2.1), (64000000000008212493, .row (.cons (.int .i64) .nil) true y1.2.2.2.2.2.2.2.2.2.2.2.2.2.1)]⟩
theorem zq136.r7 (x0 : List TSigned) (x1 : TSigned) (y1 : TRHeadBool) (v7_1 : Bool) : V.joinF zq136.E Tryz.f173.ntmps [1, 1, 0] [] (V.codeOf Tryz.f173) (zq136.kt x0 x1) (zq136.s7 x0 x1 y1 v7_1) = zq136.g7 x0 x1 y1 v7_1 := by kernel_rfl
theorem zq136.e7 (x0 : List TSigned) (x1 : TSigned) (y1 : TRHeadBool) (v7_1 : Bool) : V.jn (V.joinF zq136.E Tryz.f173.ntmps [1, 1, 0] [] (V.codeOf Tryz.f173) (zq136.kt x0 x1)) (zq136.s7 x0 x1 y1 v7_1) = zq136.l7 x0 x1 y1 v7_1 := by
  rw [V.jn_eq, zq136.r7]
  rfl
noncomputable abbrev zq136.s (x0 : List TSigned) (x1 : TSigned) : V.St := ⟨[(0, .v false [.val (.sl V.eSigned x0)]), (1, .v true [.val (.int .i64 x1.1), .val (.int .i64 x1.2.1), .val (.int .i64 x1.2.2.1), .val (.int .i64 x1.2.2.2.1), .val (.int .i64 x1.2.2.2.2.1), .val (.int .i64 x1.2.2.2.2.2.1), .val (.int .i64 x1.2.2.2.2.2.2.1), .val (.int .i64 x1.2.2.2.2.2.2.2.1), .val (.sl (.cons (.int .i64) .nil) x1.2.2.2.2.2.2.2.2.1), .val (.int .i64 x1.2.2.2.2.2.2.2.2.2.1), .val (.sl (.cons (.int .i64) .nil) x1.2.2.2.2.2.2.2.2.2.2.1), .val (.int .i64 x1.2.2.2.2.2.2.2.2.2.2.2.1), .val (.int .i64 x1.2.2.2.2.2.2.2.2.2.2.2.2.1), .val (.sl (.cons (.int .i64) .nil) x1.2.2.2.2.2.2.2.2.2.2.2.2.2.1), .val (.int .i64 x1.2.2.2.2.2.2.2.2.2.2.2.2.2.2.1), .val (.bool x1.2.2.2.2.2.2.2.2.2.2.2.2.2.2.2.1), .val (.sl (.cons (.int .i64) (.cons (.int .i64) .nil)) x1.2.2.2.2.2.2.2.2.2.2.2.2.2.2.2.2)])], []⟩
theorem zq136.v0 (x0 : List TSigned) (x1 : TSigned) : V.evBody zq136.E zq136.con Tryz.f173 (V.fl8 x0 x1) = V.evC zq136.E Tryz.f173.ntmps (V.codeOf Tryz.f173) (zq136.kt x0 x1) (zq136.s x0 x1) := by kernel_rfl
theorem zq136.v (x0 : List TSigned) (x1 : TSigned) : V.evC zq136.E Tryz.f173.ntmps (V.codeOf Tryz.f173) (zq136.kt x0 x1) (zq136.s x0 x1) = zq136.b x0 x1 (fun y1 v7_1 => V.jn (V.joinF zq136.E Tryz.f173.ntmps [1, 1, 0] [] (V.codeOf Tryz.f173) (zq136.kt x0 x1)) (zq136.s7 x0 x1 y1 v7_1)) := by kernel_rfl
theorem zq136.eq (x0 : List TSigned) (x1 : TSigned) : V.evBody zq136.E zq136.con Tryz.f173 (V.fl8 x0 x1) = zq136 x0 x1 := by
  rw [zq136.v0, zq136.v]
  simp only [zq136.e7]
  rfl
theorem zq136.ok : V.Valid Tryz.prog 173 zq136.con :=
  V.fo (V.tab_cons zq174.ok (V.tab_cons zq154.ok (V.tab_cons zq178.ok (V.tab_cons zq159.ok V.tab_nil)))) Tryz.func173 (by kernel_rfl) (fun x y h => (show V.evBody zq136.E zq136.con Tryz.f173 x = _ from zq136.eq (V.p8_0 x) (V.p8_1 x)).trans (V.cfl (by kernel_rfl) h))
noncomputable abbrev zq162.con : V.Con := ⟨V.A9, (.cons (.sl V.eSigned) (.cons (.sl V.eEntry) (.cons (.int .i64) .nil))), fun (x : V.D9) => zq162 (V.p9_0 x) (V.p9_1 x) (V.p9_2 x) (V.p9_3 x), [], [(true, 2), (false, 1), (true, 16), (false, 1)], [(true, 2), (false, 1)], [true, true, false], []⟩
noncomputable abbrev zq162.E : V.Env := V.mkE V.tys [(44, zq150.con), (134, zq154.con), (140, zq185.con), (172, zq180.con), (173, zq136.con), (174, zq167.con)] [] [(4, 10)] [] [] []
noncomputable abbrev zq162.kt (x0 : TZone) (x1 : List Int) (x2 : THead) (x3 : List TEntry) : V.Kt TRZoneInt := V.ktOf zq162.E zq162.con Tryz.f76 (V.fl9 x0 x1 x2 x3)
noncomputable abbrev zq162.s (x0 : TZone) (x1 : List Int) (x2 : THead) (x3 : List TEntry) : V.St := ⟨[(0, .v true [.val (.sl V.eSigned x0.1), .val (.sl V.eEntry x0.2)]), (1, .v false [.val (.sl (.cons (.int .i64) .nil) x1)]), (2, .v true [.val (.int .i64 x2.1), .val (.int .i64 x2.2.1), .val (.int .i64 x2.2.2.1), .val (.int .i64 x2.2.2.2.1), .val (.int .i64 x2.2.2.2.2.1), .val (.int .i64 x2.2.2.2.2.2.1), .val (.int .i64 x2.2.2.2.2.2.2.1), .val (.int .i64 x2.2.2.2.2.2.2.2.1), .val (.sl (.cons (.int .i64) .nil) x2.2.2.2.2.2.2.2.2.1), .val (.int .i64 x2.2.2.2.2.2.2.2.2.2.1), .val (.sl (.cons (.int .i64) .nil) x2.2.2.2.2.2.2.2.2.2.2.1), .val (.int .i64 x2.2.2.2.2.2.2.2.2.2.2.2.1), .val (.int .i64 x2.2.2.2.2.2.2.2.2.2.2.2.2.1), .val (.sl (.cons (.int .i64) .nil) x2.2.2.2.2.2.2.2.2.2.2.2.2.2.1), .val (.int .i64 x2.2.2.2.2.2.2.2.2.2.2.2.2.2.2.1), .val (.bool x2.2.2.2.2.2.2.2.2.2.2.2.2.2.2.2)]), (3, .v false [.val (.sl V.eEntry x3)])], []⟩
theorem zq162.v0 (x0 : TZone) (x1 : List Int) (x2 : THead) (x3 : List TEntry) : V.evBody zq162.E zq162.con Tryz.f76 (V.fl9 x0 x1 x2 x3) = V.evC zq162.E Tryz.f76.ntmps (V.codeOf Tryz.f76) (zq162.kt x0 x1 x2 x3) (zq162.s x0 x1 x2 x3) := by kernel_rfl
theorem zq162.v (x0 : TZone) (x1 : List Int) (x2 : THead) (x3 : List TEntry) : V.evC zq162.E Tryz.f76.ntmps (V.codeOf Tryz.f76) (zq162.kt x0 x1 x2 x3) (zq162.s x0 x1 x2 x3) = zq162 x0 x1 x2 x3 := by kernel_rfl
theorem zq162.eq (x0 : TZone) (x1 : List Int) (x2 : THead) (x3 : List TEntry) : V.evBody zq162.E zq162.con Tryz.f76 (V.fl9 x0 x1 x2 x3) = zq162 x0 x1 x2 x3 := (zq162.v0 x0 x1 x2 x3).trans (zq162.v x0 x1 x2 x3)
theorem zq162.ok : V.Valid Tryz.prog 76 zq162.con :=
  V.fo (V.tab_cons zq150.ok (V.tab_cons zq154.ok (V.tab_cons zq185.ok (V.tab_cons zq180.ok (V.tab_cons zq136.ok (V.tab_cons zq167.ok V.tab_nil)))))) Tryz.func76 (by kernel_rfl) (fun x y h => (show V.evBody zq162.E zq162.con Tryz.f76 x = _ from zq162.eq (V.p9_0 x) (V.p9_1 x) (V.p9_2 x) (V.p9_3 x)).trans (V.cfl (by kernel_rfl) h))
noncomputable abbrev zq13.con : V.Con := ⟨(.cons (.int .i64) (.cons (.int .i64) (.cons (.int .i64) .nil))), (.cons .bool .nil), fun (x : Int × Int × Int) => zq13 x.1 x.2.1 x.2.2, [], [(false, 1), (false, 1), (false, 1)], [(false, 1)], [false], []⟩
noncomputable abbrev zq13.E : V.Env := V.mkE V.tys [] [] [] [] [] []
theorem zq13.eq (x0 : Int) (x1 : Int) (x2 : Int) : V.evBody zq13.E zq13.con Tryz.f151 ((x0, x1, x2) : Int × Int × Int) = zq13 x0 x1 x2 := by kernel_rfl
theorem zq13.ok : V.Valid Tryz.prog 151 zq13.con :=
  V.fo V.tab_nil Tryz.func151 (by kernel_rfl) (fun x y h => (show V.evBody zq13.E zq13.con Tryz.f151 x = _ from zq13.eq x.1 x.2.1 x.2.2).trans (V.cfl (by kernel_rfl) h))
noncomputable abbrev zq57.con : V.Con := ⟨(.cons (.int .i64) .nil), (.cons .bool .nil), fun (x : Int) => zq57 x, [], [(false, 1)], [(false, 1)], [false], []⟩
noncomputable abbrev zq57.E : V.Env := V.mkE V.tys [(151, zq13.con)] [] [] [] [] []
theorem zq57.eq (x0 : Int) : V.evBody zq57.E zq57.con Tryz.f217 ((x0) : Int) = zq57 x0 := by kernel_rfl
theorem zq57.ok : V.Valid Tryz.prog 217 zq57.con :=
  V.fo (V.tab_cons zq13.ok V.tab_nil) Tryz.func217 (by kernel_rfl) (fun x y h => (show V.evBody zq57.E zq57.con Tryz.f217 x = _ from zq57.eq x).trans (V.cfl (by kernel_rfl) h))
noncomputable abbrev zq61.con : V.Con := ⟨V.A2, (.cons .bool .nil), fun (x : V.D2) => zq61 (V.p2_0 x), [], [(true, 16)], [(false, 1)], [false], []⟩
noncomputable abbrev zq61.E : V.Env := V.mkE V.tys [] [] [] [] [] []
noncomputable abbrev zq61.kt (x0 : THead) : V.Kt Bool := V.ktOf zq61.E zq61.con Tryz.f255 (V.fl2 x0)
noncomputable abbrev zq61.s (x0 : THead) : V.St := ⟨[(0, .v true [.val (.int .i64 x0.1), .val (.int .i64 x0.2.1), .val (.int .i64 x0.2.2.1), .val (.int .i64 x0.2.2.2.1), .val (.int .i64 x0.2.2.2.2.1), .val (.int .i64 x0.2.2.2.2.2.1), .val (.int .i64 x0.2.2.2.2.2.2.1), .val (.int .i64 x0.2.2.2.2.2.2.2.1), .val (.sl (.cons (.int .i64) .nil) x0.2.2.2.2.2.2.2.2.1), .val (.int .i64 x0.2.2.2.2.2.2.2.2.2.1), .val (.sl (.cons (.int .i64) .nil) x0.2.2.2.2.2.2.2.2.2.2.1), .val (.int .i64 x0.2.2.2.2.2.2.2.2.2.2.2.1), .val (.int .i64 x0.2.2.2.2.2.2.2.2.2.2.2.2.1), .val (.sl (.cons (.int .i64) .nil) x0.2.2.2.2.2.2.2.2.2.2.2.2.2.1), .val (.int .i64 x0.2.2.2.2.2.2.2.2.2.2.2.2.2.2.1), .val (.bool x0.2.2.2.2.2.2.2.2.2.2.2.2.2.2.2)])], []⟩
theorem zq61.v0 (x0 : THead) : V.evBody zq61.E zq61.con Tryz.f255 (V.fl2 x0) = V.evC zq61.E Tryz.f255.ntmps (V.codeOf Tryz.f255) (zq61.kt x0) (zq61.s x0) := by kernel_rfl
theorem zq61.v (x0 : THead) : V.evC zq61.E Tryz.f255.ntmps (V.codeOf Tryz.f255) (zq61.kt x0) (zq61.s x0) = zq61 x0 := by kernel_rfl
theorem zq61.eq (x0 : THead) : V.evBody zq61.E zq61.con Tryz.f255 (V.fl2 x0) = zq61 x0 := (zq61.v0 x0).trans (zq61.v x0)
theorem zq61.ok : V.Valid Tryz.prog 255 zq61.con :=
  V.fo V.tab_nil Tryz.func255 (by kernel_rfl) (fun x y h => (show V.evBody zq61.E zq61.con Tryz.f255 x = _ from zq61.eq (V.p2_0 x)).trans (V.cfl (by kernel_rfl) h))
noncomputable abbrev zq46.con : V.Con := ⟨(.cons (.sl (.cons (.int .i64) .nil)) .nil), (.cons .bool .nil), fun (x : List Int) => zq46 x, [], [(false, 1)], [(false, 1)], [false], []⟩
noncomputable abbrev zq46.E : V.Env := V.mkE V.tys [] [(4, [0, 5, 6], [])] [(4, 12)] [] [] []
noncomputable abbrev zq46.kt (x0 : List Int) : V.Kt Bool := V.ktOf zq46.E zq46.con Tryz.f298 ((x0) : List Int)
noncomputable abbrev zq46.s4 (x0 : List Int) (v4_1 : Int) (v4_2 : Int) : V.St := ⟨[(0, .v false [.val (.sl (.cons (.int .i64) .nil) x0)]), (5, .v false [.val (.int .i64 v4_1)]), (6, .v false [.val (.int .i64 v4_2)])], []⟩
theorem zq46.r4 (x0 : List Int) (R : V.St → Option Bool) (v4_1 : Int) (v4_2 : Int) : V.loopF zq46.E Tryz.f298.ntmps [1, 0, 1, 0] [] (V.codeOf Tryz.f298) (zq46.kt x0) R (zq46.s4 x0 v4_1 v4_2) = zq46.g4 x0 (fun v4_1 v4_2 => R (zq46.s4 x0 v4_1 v4_2)) v4_1 v4_2 := by kernel_rfl
theorem zq46.e4 (x0 : List Int) : ∀ (n : Nat) (v4_1 : Int) (v4_2 : Int), V.loopN (V.loopF zq46.E Tryz.f298.ntmps [1, 0, 1, 0] [] (V.codeOf Tryz.f298) (zq46.kt x0)) n (zq46.s4 x0 v4_1 v4_2) = zq46.l4 x0 n v4_1 v4_2 := by
  intro n
  induction n with
  | zero => intros; rw [V.loopN_z]; rfl
  | succ n ih =>
    intro v4_1 v4_2
    rw [V.loopN_s, zq46.r4]
    simp only [ih]
    first | exact (zq46.u4 ..).symm | rfl
theorem zq46.v (x0 : List Int) : V.evBody zq46.E zq46.con Tryz.f298 ((x0) : List Int) = zq46.b x0 (fun v4_1 v4_2 => V.loopN (V.loopF zq46.E Tryz.f298.ntmps [1, 0, 1, 0] [] (V.codeOf Tryz.f298) (zq46.kt x0)) V.KK (zq46.s4 x0 v4_1 v4_2)) := by kernel_rfl
theorem zq46.eq (x0 : List Int) : V.evBody zq46.E zq46.con Tryz.f298 ((x0) : List Int) = zq46 x0 := by
  rw [zq46.v]
  simp only [zq46.e4]
  rfl
theorem zq46.ok : V.Valid Tryz.prog 298 zq46.con :=
  V.fo V.tab_nil Tryz.func298 (by kernel_rfl) (fun x y h => (show V.evBody zq46.E zq46.con Tryz.f298 x = _ from zq46.eq x).trans (V.cfl (by kernel_rfl) h))
noncomputable abbrev zq58.con : V.Con := ⟨(.cons (.int .i64) .nil), (.cons .bool .nil), fun (x : Int) => zq58 x, [], [(false, 1)], [(false, 1)], [false], []⟩
noncomputable abbrev zq58.E : V.Env := V.mkE V.tys [(151, zq13.con)] [] [] [] [] []
theorem zq58.eq (x0 : Int) : V.evBody zq58.E zq58.con Tryz.f218 ((x0) : Int) = zq58 x0 := by kernel_rfl
theorem zq58.ok : V.Valid Tryz.prog 218 zq58.con :=
  V.fo (V.tab_cons zq13.ok V.tab_nil) Tryz.func218 (by kernel_rfl) (fun x y h => (show V.evBody zq58.E zq58.con Tryz.f218 x = _ from zq58.eq x).trans (V.cfl (by kernel_rfl) h))
noncomputable abbrev zq18.con : V.Con := ⟨(.cons (.sl (.cons (.int .i64) .nil)) (.cons (.int .i64) .nil)), (.cons .bool .nil), fun (x : List Int × Int) => zq18 x, [], [(true, 2)], [(false, 1)], [false], []⟩
noncomputable abbrev zq18.E : V.Env := V.mkE V.tys [(151, zq13.con), (218, zq58.con), (298, zq46.con)] [] [] [] [] []
theorem zq18.eq (x0 : TKeys) : V.evBody zq18.E zq18.con Tryz.f256 ((x0.1, x0.2) : List Int × Int) = zq18 x0 := by kernel_rfl
theorem zq18.ok : V.Valid Tryz.prog 256 zq18.con :=
  V.fo (V.tab_cons zq13.ok (V.tab_cons zq58.ok (V.tab_cons zq46.ok V.tab_nil))) Tryz.func256 (by kernel_rfl) (fun x y h => (show V.evBody zq18.E zq18.con Tryz.f256 x = _ from zq18.eq x).trans (V.cfl (by kernel_rfl) h))
noncomputable abbrev zq33.con : V.Con := ⟨(.cons (.sl (.cons (.int .i64) .nil)) (.cons (.int .i64) .nil)), (.cons .bool .nil), fun (x : List Int × Int) => zq33 x, [], [(true, 2)], [(false, 1)], [false], []⟩
noncomputable abbrev zq33.E : V.Env := V.mkE V.tys [] [] [] [] [] []
theorem zq33.eq (x0 : TKeys) : V.evBody zq33.E zq33.con Tryz.f259 ((x0.1, x0.2) : List Int × Int) = zq33 x0 := by kernel_rfl
theorem zq33.ok : V.Valid Tryz.prog 259 zq33.con :=
  V.fo V.tab_nil Tryz.func259 (by kernel_rfl) (fun x y h => (show V.evBody zq33.E zq33.con Tryz.f259 x = _ from zq33.eq x).trans (V.cfl (by kernel_rfl) h))
noncomputable abbrev zq59.con : V.Con := ⟨(.cons (.sl (.cons (.int .i64) .nil)) (.cons (.int .i64) .nil)), (.cons .bool .nil), fun (x : List Int × Int) => zq59 x, [], [(true, 2)], [(false, 1)], [false], []⟩
noncomputable abbrev zq59.E : V.Env := V.mkE V.tys [(256, zq18.con), (259, zq33.con)] [] [] [] [] []
theorem zq59.eq (x0 : TKeys) : V.evBody zq59.E zq59.con Tryz.f257 ((x0.1, x0.2) : List Int × Int) = zq59 x0 := by kernel_rfl
theorem zq59.ok : V.Valid Tryz.prog 257 zq59.con :=
  V.fo (V.tab_cons zq18.ok (V.tab_cons zq33.ok V.tab_nil)) Tryz.func257 (by kernel_rfl) (fun x y h => (show V.evBody zq59.E zq59.con Tryz.f257 x = _ from zq59.eq x).trans (V.cfl (by kernel_rfl) h))
noncomputable abbrev zq62.con : V.Con := ⟨(.cons (.int .i64) (.cons (.sl (.cons (.int .i64) .nil)) (.cons (.int .i64) .nil))), (.cons .bool .nil), fun (x : Int × List Int × Int) => zq62 x.1 x.2, [], [(false, 1), (true, 2)], [(false, 1)], [false], []⟩
noncomputable abbrev zq62.E : V.Env := V.mkE V.tys [(151, zq13.con), (259, zq33.con)] [] [] [] [] []
theorem zq62.eq (x0 : Int) (x1 : TKeys) : V.evBody zq62.E zq62.con Tryz.f258 ((x0, x1.1, x1.2) : Int × List Int × Int) = zq62 x0 x1 := by kernel_rfl
theorem zq62.ok : V.Valid Tryz.prog 258 zq62.con :=
  V.fo (V.tab_cons zq13.ok (V.tab_cons zq33.ok V.tab_nil)) Tryz.func258 (by kernel_rfl) (fun x y h => (show V.evBody zq62.E zq62.con Tryz.f258 x = _ from zq62.eq x.1 x.2).trans (V.cfl (by kernel_rfl) h))
noncomputable abbrev zq17.con : V.Con := ⟨V.A2, (.cons .bool .nil), fun (x : V.D2) => zq17 (V.p2_0 x), [], [(true, 16)], [(false, 1)], [false], []⟩
noncomputable abbrev zq17.E : V.Env := V.mkE V.tys [(151, zq13.con), (217, zq57.con), (255, zq61.con), (256, zq18.con), (257, zq59.con), (258, zq62.con), (259, zq33.con)] [] [] [] [] []
noncomputable abbrev zq17.kt (x0 : THead) : V.Kt Bool := V.ktOf zq17.E zq17.con Tryz.f194 (V.fl2 x0)
noncomputable abbrev zq17.s (x0 : THead) : V.St := ⟨[(0, .v true [.val (.int .i64 x0.1), .val (.int .i64 x0.2.1), .val (.int .i64 x0.2.2.1), .val (.int .i64 x0.2.2.2.1), .val (.int .i64 x0.2.2.2.2.1), .val (.int .i64 x0.2.2.2.2.2.1), .val (.int .i64 x0.2.2.2.2.2.2.1), .val (.int .i64 x0.2.2.2.2.2.2.2.1), .val (.sl (.cons (.int .i64) .nil) x0.2.2.2.2.2.2.2.2.1), .val (.int .i64 x0.2.2.2.2.2.2.2.2.2.1), .val (.sl (.cons (.int .i64) .nil) x0.2.2.2.2.2.2.2.2.2.2.1), .val (.int .i64 x0.2.2.2.2.2.2.2.2.2.2.2.1), .val (.int .i64 x0.2.2.2.2.2.2.2.2.2.2.2.2.1), .val (.sl (.cons (.int .i64) .nil) x0.2.2.2.2.2.2.2.2.2.2.2.2.2.1), .val (.int .i64 x0.2.2.2.2.2.2.2.2.2.2.2.2.2.2.1), .val (.bool x0.2.2.2.2.2.2.2.2.2.2.2.2.2.2.2)])], []⟩
theorem zq17.v0 (x0 : THead) : V.evBody zq17.E zq17.con Tryz.f194 (V.fl2 x0) = V.evC zq17.E Tryz.f194.ntmps (V.codeOf Tryz.f194) (zq17.kt x0) (zq17.s x0) := by kernel_rfl
theorem zq17.v (x0 : THead) : V.evC zq17.E Tryz.f194.ntmps (V.codeOf Tryz.f194) (zq17.kt x0) (zq17.s x0) = zq17 x0 := by kernel_rfl
theorem zq17.eq (x0 : THead) : V.evBody zq17.E zq17.con Tryz.f194 (V.fl2 x0) = zq17 x0 := (zq17.v0 x0).trans (zq17.v x0)
theorem zq17.ok : V.Valid Tryz.prog 194 zq17.con :=
  V.fo (V.tab_cons zq13.ok (V.tab_cons zq57.ok (V.tab_cons zq61.ok (V.tab_cons zq18.ok (V.tab_cons zq59.ok (V.tab_cons zq62.ok (V.tab_cons zq33.ok V.tab_nil))))))) Tryz.func194 (by kernel_rfl) (fun x y h => (show V.evBody zq17.E zq17.con Tryz.f194 x = _ from zq17.eq (V.p2_0 x)).trans (V.cfl (by kernel_rfl) h))
noncomputable abbrev zq26.con : V.Con := ⟨(.cons (.sl (.cons (.int .i64) .nil)) (.cons (.int .i64) .nil)), (.cons (.sl (.cons (.int .i64) .nil)) .nil), fun (x : List Int × Int) => zq26 x, [], [(true, 2)], [(false, 1)], [true], []⟩
noncomputable abbrev zq26.E : V.Env := V.mkE V.tys [] [] [] [] [] []
theorem zq26.eq (x0 : TKeys) : V.evBody zq26.E zq26.con Tryz.f271 ((x0.1, x0.2) : List Int × Int) = zq26 x0 := by kernel_rfl
theorem zq26.ok : V.Valid Tryz.prog 271 zq26.con :=
  V.fo V.tab_nil Tryz.func271 (by kernel_rfl) (fun x y h => (show V.evBody zq26.E zq26.con Tryz.f271 x = _ from zq26.eq x).trans (V.cfl (by kernel_rfl) h))
noncomputable abbrev zq31.con : V.Con := ⟨(.cons (.int .i64) (.cons (.int .i64) .nil)), (.cons (.int .i64) .nil), fun (x : Int × Int) => zq31 x.1 x.2, [], [(false, 1), (false, 1)], [(false, 1)], [false], []⟩
noncomputable abbrev zq31.E : V.Env := V.mkE V.tys [(151, zq13.con)] [] [] [] [] []
theorem zq31.eq (x0 : Int) (x1 : Int) : V.evBody zq31.E zq31.con Tryz.f299 ((x0, x1) : Int × Int) = zq31 x0 x1 := by kernel_rfl
theorem zq31.ok : V.Valid Tryz.prog 299 zq31.con :=
  V.fo (V.tab_cons zq13.ok V.tab_nil) Tryz.func299 (by kernel_rfl) (fun x y h => (show V.evBody zq31.E zq31.con Tryz.f299 x = _ from zq31.eq x.1 x.2).trans (V.cfl (by kernel_rfl) h))
noncomputable abbrev zq10.con : V.Con := ⟨(.cons (.sl (.cons (.int .i64) .nil)) .nil), (.cons (.int .i64) .nil), fun (x : List Int) => zq10 x, [], [(false, 1)], [(false, 1)], [false], []⟩
noncomputable abbrev zq10.E : V.Env := V.mkE V.tys [(299, zq31.con)] [(6, [3, 6, 7, 8], [])] [] [] [] []
noncomputable abbrev zq10.kt (x0 : List Int) : V.Kt Int := V.ktOf zq10.E zq10.con Tryz.f260 ((x0) : List Int)
noncomputable abbrev zq10.s6 (x0 : List Int) (v6_0 : Int) (v6_2 : Int) (v6_3 : Int) : V.St := ⟨[(3, .v false [.val (.int .i64 v6_0)]), (6, .v false [.val (.sl (.cons (.int .i64) .nil) x0)]), (7, .v false [.val (.int .i64 v6_2)]), (8, .v false [.val (.int .i64 v6_3)])], []⟩
theorem zq10.r6 (x0 : List Int) (R : V.St → Option Int) (v6_0 : Int) (v6_2 : Int) (v6_3 : Int) : V.loopF zq10.E Tryz.f260.ntmps [1, 1, 0, 1, 0] [] (V.codeOf Tryz.f260) (zq10.kt x0) R (zq10.s6 x0 v6_0 v6_2 v6_3) = zq10.g6 x0 (fun v6_0 v6_2 v6_3 => R (zq10.s6 x0 v6_0 v6_2 v6_3)) v6_0 v6_2 v6_3 := by kernel_rfl
theorem zq10.e6 (x0 : List Int) : ∀ (n : Nat) (v6_0 : Int) (v6_2 : Int) (v6_3 : Int), V.loopN (V.loopF zq10.E Tryz.f260.ntmps [1, 1, 0, 1, 0] [] (V.codeOf Tryz.f260) (zq10.kt x0)) n (zq10.s6 x0 v6_0 v6_2 v6_3) = zq10.l6 x0 n v6_0 v6_2 v6_3 := by
  intro n
  induction n with
  | zero => intros; rw [V.loopN_z]; rfl
  | succ n ih =>
    intro v6_0 v6_2 v6_3
    rw [V.loopN_s, zq10.r6]
    simp only [ih]
    first | exact (zq10.u6 ..).symm | rfl
theorem zq10.v (x0 : List Int) : V.evBody zq10.E zq10.con Tryz.f260 ((x0) : List Int) = zq10.b x0 (fun v6_0 v6_2 v6_3 => V.loopN (V.loopF zq10.E Tryz.f260.ntmps [1, 1, 0, 1, 0] [] (V.codeOf Tryz.f260) (zq10.kt x0)) V.KK (zq10.s6 x0 v6_0 v6_2 v6_3)) := by kernel_rfl
theorem zq10.eq (x0 : List Int) : V.evBody zq10.E zq10.con Tryz.f260 ((x0) : List Int) = zq10 x0 := by
  rw [zq10.v]
  simp only [zq10.e6]
  rfl
theorem zq10.ok : V.Valid Tryz.prog 260 zq10.con :=
  V.fo (V.tab_cons zq31.ok V.tab_nil) Tryz.func260 (by kernel_rfl) (fun x y h => (show V.evBody zq10.E zq10.con Tryz.f260 x = _ from zq10.eq x).trans (V.cfl (by kernel_rfl) h))
noncomputable abbrev zq44.con : V.Con := ⟨(.cons (.sl (.cons (.int .i64) .nil)) (.cons (.int .i64) (.cons (.int .i64) .nil))), (.cons (.int .i64) .nil), fun (x : List Int × Int × Int) => zq44 (x.1, x.2.1) x.2.2, [], [(true, 2), (false, 1)], [(false, 1)], [false], []⟩
noncomputable abbrev zq44.E : V.Env := V.mkE V.tys [(260, zq10.con), (271, zq26.con)] [] [] [] [] []
theorem zq44.eq (x0 : TKeys) (x1 : Int) : V.evBody zq44.E zq44.con Tryz.f227 ((x0.1, x0.2, x1) : List Int × Int × Int) = zq44 x0 x1 := by kernel_rfl
theorem zq44.ok : V.Valid Tryz.prog 227 zq44.con :=
  V.fo (V.tab_cons zq10.ok (V.tab_cons zq26.ok V.tab_nil)) Tryz.func227 (by kernel_rfl) (fun x y h => (show V.evBody zq44.E zq44.con Tryz.f227 x = _ from zq44.eq (x.1, x.2.1) x.2.2).trans (V.cfl (by kernel_rfl) h))
noncomputable abbrev zq47.con : V.Con := ⟨(.cons .bool .nil), (.cons (.int .i64) .nil), fun (x : Bool) => zq47 x, [], [(false, 1)], [(false, 1)], [false], []⟩
noncomputable abbrev zq47.E : V.Env := V.mkE V.tys [] [] [] [] [] []
theorem zq47.eq (x0 : Bool) : V.evBody zq47.E zq47.con Tryz.f272 ((x0) : Bool) = zq47 x0 := by kernel_rfl
theorem zq47.ok : V.Valid Tryz.prog 272 zq47.con :=
  V.fo V.tab_nil Tryz.func272 (by kernel_rfl) (fun x y h => (show V.evBody zq47.E zq47.con Tryz.f272 x = _ from zq47.eq x).trans (V.cfl (by kernel_rfl) h))
noncomputable abbrev zq124.con : V.Con := ⟨(.cons (.sl (.cons (.int .i64) .nil)) (.cons (.int .i64) .nil)), (.cons (.sl (.cons (.int .i64) .nil)) .nil), fun (x : List Int × Int) => zq124 x.1 x.2, [], [(false, 1), (false, 1)], [(false, 1)], [true], [0]⟩
noncomputable abbrev zq124.E : V.Env := V.mkE V.tys [] [(7, [0, 1], [])] [] [] [] []
noncomputable abbrev zq124.kt (x0 : List Int) (x1 : Int) : V.Kt (List Int) := V.ktOf zq124.E zq124.con Tryz.f303 ((x0, x1) : List Int × Int)
noncomputable abbrev zq124.s7 (x1 : Int) : V.St := ⟨[(0, .v false [.nil0]), (1, .v false [.val (.int .i64 x1)])], []⟩
theorem zq124.r7 (x0 : List Int) (x1 : Int) : V.joinF zq124.E Tryz.f303.ntmps [1] [] (V.codeOf Tryz.f303) (zq124.kt x0 x1) (zq124.s7 x1) = zq124.g7 x1 := by kernel_rfl
theorem zq124.e7 (x0 : List Int) (x1 : Int) : V.jn (V.joinF zq124.E Tryz.f303.ntmps [1] [] (V.codeOf Tryz.f303) (zq124.kt x0 x1)) (zq124.s7 x1) = zq124.l7 x1 := by
  rw [V.jn_eq, zq124.r7]
  rfl
theorem zq124.v (x0 : List Int) (x1 : Int) : V.evBody zq124.E zq124.con Tryz.f303 ((x0, x1) : List Int × Int) = zq124.b x0 x1 (V.jn (V.joinF zq124.E Tryz.f303.ntmps [1] [] (V.codeOf Tryz.f303) (zq124.kt x0 x1)) (zq124.s7 x1)) := by kernel_rfl
theorem zq124.eq (x0 : List Int) (x1 : Int) : V.evBody zq124.E zq124.con Tryz.f303 ((x0, x1) : List Int × Int) = zq124 x0 x1 := by
  rw [zq124.v]
  simp only [zq124.e7]
  rfl
theorem zq124.ok : V.Valid Tryz.prog 303 zq124.con :=
  V.fo V.tab_nil Tryz.func303 (by kernel_rfl) (fun x y h => (show V.evBody zq124.E zq124.con Tryz.f303 x = _ from zq124.eq x.1 x.2).trans (V.cfl (by kernel_rfl) h))
noncomputable abbrev zq119.con : V.Con := ⟨(.cons (.sl (.cons (.sl (.cons (.int .i64) .nil)) .nil)) .nil), (.cons (.sl (.cons (.int .i64) .nil)) .nil), fun (x : List (List Int)) => zq119 x, [], [(false, 1)], [(false, 1)], [true], []⟩
noncomputable abbrev zq119.E : V.Env := V.mkE V.tys [(303, zq124.con)] [(6, [0, 3, 9, 10, 11], []), (22, [6, 25, 26, 27], [])] [] [] [] []
noncomputable abbrev zq119.kt (x0 : List (List Int)) : V.Kt (List Int) := V.ktOf zq119.E zq119.con Tryz.f270 ((x0) : List (List Int))
noncomputable abbrev zq119.s22 (x0 : List (List Int)) (v22_1 : Int) (v22_2 : Int) (v22_3 : List Int) : V.St := ⟨[(6, .v false [.ref 64000140800384]), (25, .v false [.val (.sl (.cons (.sl (.cons (.int .i64) .nil)) .nil) x0)]), (26, .v false [.val (.int .i64 v22_1)]), (27, .v false [.val (.int .i64 v22_2)])], [(64000140800384, .row (.cons (.int .i64) .nil) true v22_3)]⟩
noncomputable abbrev zq119.s6 (x0 : List (List Int)) (v6_1 : Int) (v6_3 : Int) (v6_4 : Int) : V.St := ⟨[(0, .v false [.val (.sl (.cons (.sl (.cons (.int .i64) .nil)) .nil) x0)]), (3, .v false [.val (.int .i64 v6_1)]), (9, .v false [.val (.sl (.cons (.sl (.cons (.int .i64) .nil)) .nil) x0)]), (10, .v false [.val (.int .i64 v6_3)]), (11, .v false [.val (.int .i64 v6_4)])], []⟩
theorem zq119.r22 (x0 : List (List Int)) (R : V.St → Option (List Int)) (v22_1 : Int) (v22_2 : Int) (v22_3 : List Int) : V.loopF zq119.E Tryz.f270.ntmps [1, 1, 1, 1, 0, 1, 0] [] (V.codeOf Tryz.f270) (zq119.kt x0) R (zq119.s22 x0 v22_1 v22_2 v22_3) = zq119.g22 x0 (fun v22_1 v22_2 v22_3 => R (zq119.s22 x0 v22_1 v22_2 v22_3)) v22_1 v22_2 v22_3 := by kernel_rfl
theorem zq119.e22 (x0 : List (List Int)) : ∀ (n : Nat) (v22_1 : Int) (v22_2 : Int) (v22_3 : List Int), V.loopN (V.loopF zq119.E Tryz.f270.ntmps [1, 1, 1, 1, 0, 1, 0] [] (V.codeOf Tryz.f270) (zq119.kt x0)) n (zq119.s22 x0 v22_1 v22_2 v22_3) = zq119.l22 x0 n v22_1 v22_2 v22_3 := by
  intro n
  induction n with
  | zero => intros; rw [V.loopN_z]; rfl
  | succ n ih =>
    intro v22_1 v22_2 v22_3
    rw [V.loopN_s, zq119.r22]
    simp only [ih]
    first | exact (zq119.u22 ..).symm | rfl
theorem zq119.r6 (x0 : List (List Int)) (R : V.St → Option (List Int)) (v6_1 : Int) (v6_3 : Int) (v6_4 : Int) : V.loopF zq119.E Tryz.f270.ntmps [1, 1, 0, 1, 0] [] (V.codeOf Tryz.f270) (zq119.kt x0) R (zq119.s6 x0 v6_1 v6_3 v6_4) = zq119.g6 x0 (fun v6_1 v6_3 v6_4 => R (zq119.s6 x0 v6_1 v6_3 v6_4)) (fun v22_1 v22_2 v22_3 => V.loopN (V.loopF zq119.E Tryz.f270.ntmps [1, 1, 1, 1, 0, 1, 0] [] (V.codeOf Tryz.f270) (zq119.kt x0)) V.KK (zq119.s22 x0 v22_1 v22_2 v22_3)) v6_1 v6_3 v6_4 := by kernel_rfl
theorem zq119.e6 (x0 : List (List Int)) : ∀ (n : Nat) (v6_1 : Int) (v6_3 : Int) (v6_4 : Int), V.loopN (V.loopF zq119.E Tryz.f270.ntmps [1, 1, 0, 1, 0] [] (V.codeOf Tryz.f270) (zq119.kt x0)) n (zq119.s6 x0 v6_1 v6_3 v6_4) = zq119.l6 x0 n v6_1 v6_3 v6_4 := by
  intro n
  induction n with
  | zero => intros; rw [V.loopN_z]; rfl
  | succ n ih =>
    intro v6_1 v6_3 v6_4
    rw [V.loopN_s, zq119.r6]
    simp only [zq119.e22, ih]
    first | exact (zq119.u6 ..).symm | rfl
theorem zq119.v (x0 : List (List Int)) : V.evBody zq119.E zq119.con Tryz.f270 ((x0) : List (List Int)) = zq119.b x0 (fun v6_1 v6_3 v6_4 => V.loopN (V.loopF zq119.E Tryz.f270.ntmps [1, 1, 0, 1, 0] [] (V.codeOf Tryz.f270) (zq119.kt x0)) V.KK (zq119.s6 x0 v6_1 v6_3 v6_4)) := by kernel_rfl
theorem zq119.eq (x0 : List (List Int)) : V.evBody zq119.E zq119.con Tryz.f270 ((x0) : List (List Int)) = zq119 x0 := by
  rw [zq119.v]
  simp only [zq119.e6]
  rfl
theorem zq119.ok : V.Valid Tryz.prog 270 zq119.con :=
  V.fo (V.tab_cons zq124.ok V.tab_nil) Tryz.func270 (by kernel_rfl) (fun x y h => (show V.evBody zq119.E zq119.con Tryz.f270 x = _ from zq119.eq x).trans (V.cfl (by kernel_rfl) h))
noncomputable abbrev zq12.con : V.Con := ⟨V.A2, (.cons (.sl (.cons (.int .i64) .nil)) .nil), fun (x : V.D2) => zq12 (V.p2_0 x), [], [(true, 16)], [(false, 1)], [true], []⟩
noncomputable abbrev zq12.E : V.Env := V.mkE V.tys [(270, zq119.con), (271, zq26.con), (272, zq47.con)] [] [(1, 33)] [] [] []
noncomputable abbrev zq12.kt (x0 : THead) : V.Kt (List Int) := V.ktOf zq12.E zq12.con Tryz.f210 (V.fl2 x0)
noncomputable abbrev zq12.s (x0 : THead) : V.St := ⟨[(0, .v true [.val (.int .i64 x0.1), .val (.int .i64 x0.2.1), .val (.int .i64 x0.2.2.1), .val (.int .i64 x0.2.2.2.1), .val (.int .i64 x0.2.2.2.2.1), .val (.int .i64 x0.2.2.2.2.2.1), .val (.int .i64 x0.2.2.2.2.2.2.1), .val (.int .i64 x0.2.2.2.2.2.2.2.1), .val (.sl (.cons (.int .i64) .nil) x0.2.2.2.2.2.2.2.2.1), .val (.int .i64 x0.2.2.2.2.2.2.2.2.2.1), .val (.sl (.cons (.int .i64) .nil) x0.2.2.2.2.2.2.2.2.2.2.1), .val (.int .i64 x0.2.2.2.2.2.2.2.2.2.2.2.1), .val (.int .i64 x0.2.2.2.2.2.2.2.2.2.2.2.2.1), .val (.sl (.cons (.int .i64) .nil) x0.2.2.2.2.2.2.2.2.2.2.2.2.2.1), .val (.int .i64 x0.2.2.2.2.2.2.2.2.2.2.2.2.2.2.1), .val (.bool x0.2.2.2.2.2.2.2.2.2.2.2.2.2.2.2)])], []⟩
theorem zq12.v0 (x0 : THead) : V.evBody zq12.E zq12.con Tryz.f210 (V.fl2 x0) = V.evC zq12.E Tryz.f210.ntmps (V.codeOf Tryz.f210) (zq12.kt x0) (zq12.s x0) := by kernel_rfl
theorem zq12.v (x0 : THead) : V.evC zq12.E Tryz.f210.ntmps (V.codeOf Tryz.f210) (zq12.kt x0) (zq12.s x0) = zq12 x0 := by kernel_rfl
theorem zq12.eq (x0 : THead) : V.evBody zq12.E zq12.con Tryz.f210 (V.fl2 x0) = zq12 x0 := (zq12.v0 x0).trans (zq12.v x0)
theorem zq12.ok : V.Valid Tryz.prog 210 zq12.con :=
  V.fo (V.tab_cons zq119.ok (V.tab_cons zq26.ok (V.tab_cons zq47.ok V.tab_nil))) Tryz.func210 (by kernel_rfl) (fun x y h => (show V.evBody zq12.E zq12.con Tryz.f210 x = _ from zq12.eq (V.p2_0 x)).trans (V.cfl (by kernel_rfl) h))
noncomputable abbrev zq25.con : V.Con := ⟨(.cons (.int .i64) (.cons (.sl (.cons (.int .i64) .nil)) .nil)), (.cons (.int .i64) .nil), fun (x : Int × List Int) => zq25 x.1 x.2, [], [(false, 1), (false, 1)], [(false, 1)], [false], []⟩
noncomputable abbrev zq25.E : V.Env := V.mkE V.tys [(260, zq10.con), (270, zq119.con)] [] [] [128320] [] []
theorem zq25.eq (x0 : Int) (x1 : List Int) : V.evBody zq25.E zq25.con Tryz.f222 ((x0, x1) : Int × List Int) = zq25 x0 x1 := by kernel_rfl
theorem zq25.ok : V.Valid Tryz.prog 222 zq25.con :=
  V.fo (V.tab_cons zq10.ok (V.tab_cons zq119.ok V.tab_nil)) Tryz.func222 (by kernel_rfl) (fun x y h => (show V.evBody zq25.E zq25.con Tryz.f222 x = _ from zq25.eq x.1 x.2).trans (V.cfl (by kernel_rfl) h))
noncomputable abbrev zq42.con : V.Con := ⟨(.cons (.int .i64) (.cons (.sl (.cons (.int .i64) .nil)) .nil)), (.cons (.int .i64) .nil), fun (x : Int × List Int) => zq42 x.1 x.2, [], [(false, 1), (false, 1)], [(false, 1)], [false], []⟩
noncomputable abbrev zq42.E : V.Env := V.mkE V.tys [(222, zq25.con)] [] [] [] [] []
theorem zq42.eq (x0 : Int) (x1 : List Int) : V.evBody zq42.E zq42.con Tryz.f128 ((x0, x1) : Int × List Int) = zq42 x0 x1 := by kernel_rfl
theorem zq42.ok : V.Valid Tryz.prog 128 zq42.con :=
  V.fo (V.tab_cons zq25.ok V.tab_nil) Tryz.func128 (by kernel_rfl) (fun x y h => (show V.evBody zq42.E zq42.con Tryz.f128 x = _ from zq42.eq x.1 x.2).trans (V.cfl (by kernel_rfl) h))
noncomputable abbrev zq22.con : V.Con := ⟨(.cons (.int .i64) (.cons (.int .i64) (.cons (.sl (.cons (.int .i64) .nil)) .nil))), (.cons .bool .nil), fun (x : Int × Int × List Int) => zq22 (x.1, x.2.1) x.2.2, [], [(true, 2), (false, 1)], [(false, 1)], [false], []⟩
noncomputable abbrev zq22.E : V.Env := V.mkE V.tys [(128, zq42.con), (218, zq58.con)] [] [(1, 10)] [] [] []
theorem zq22.eq (x0 : TSig) (x1 : List Int) : V.evBody zq22.E zq22.con Tryz.f322 ((x0.1, x0.2, x1) : Int × Int × List Int) = zq22 x0 x1 := by kernel_rfl
theorem zq22.ok : V.Valid Tryz.prog 322 zq22.con :=
  V.fo (V.tab_cons zq42.ok (V.tab_cons zq58.ok V.tab_nil)) Tryz.func322 (by kernel_rfl) (fun x y h => (show V.evBody zq22.E zq22.con Tryz.f322 x = _ from zq22.eq (x.1, x.2.1) x.2.2).trans (V.cfl (by kernel_rfl) h))
noncomputable abbrev zq5.con : V.Con := ⟨(.cons (.int .i64) (.cons (.int .i64) (.cons (.ptr (.cons (.int .i64) .nil)) (.cons (.ptr (.cons (.sl (.cons (.int .i64) .nil)) .nil)) .nil)))), (.cons .bool .nil), fun (x : Int × Int × Int × List Int) => zq5 (x.1, x.2.1) x.2.2.1 x.2.2.2, [], [(true, 2), (false, 1), (false, 1)], [(false, 1)], [false], []⟩
noncomputable abbrev zq5.E : V.Env := V.mkE V.tys [(322, zq22.con)] [] [] [] [] []
theorem zq5.eq (x0 : TSig) (x1 : Int) (x2 : List Int) : V.evBody zq5.E zq5.con Tryz.f321 ((x0.1, x0.2, x1, x2) : Int × Int × Int × List Int) = zq5 x0 x1 x2 := by kernel_rfl
theorem zq5.ok : V.Valid Tryz.prog 321 zq5.con :=
  V.fo (V.tab_cons zq22.ok V.tab_nil) Tryz.func321 (by kernel_rfl) (fun x y h => (show V.evBody zq5.E zq5.con Tryz.f321 x = _ from zq5.eq (x.1, x.2.1) x.2.2.1 x.2.2.2).trans (V.cfl (by kernel_rfl) h))
noncomputable abbrev zq125.con : V.Con := ⟨(.cons (.sl (.cons (.int .i64) (.cons (.int .i64) .nil))) (.cons (.fn 321 false .nil (.cons (.ptr (.cons (.int .i64) .nil)) (.cons (.ptr (.cons (.sl (.cons (.int .i64) .nil)) .nil)) .nil))) .nil)), (.cons (.int .i64) .nil), fun (x : List TSig × (Unit) × (Int × List Int)) => zq125 x.1 x.2, [], [(false, 1), (false, 1)], [(false, 1)], [false], []⟩
noncomputable abbrev zq125.E : V.Env := V.mkE V.tys [(321, zq5.con)] [(4, [0, 1, 7, 8], [])] [] [] [] []
noncomputable abbrev zq125.kt (x0 : List TSig) (x1 : (Unit) × (Int × List Int)) : V.Kt Int := V.ktOf zq125.E zq125.con Tryz.f323 ((x0, x1) : List TSig × (Unit) × (Int × List Int))
noncomputable abbrev zq125.s4 (x0 : List TSig) (x1 : (Unit) × (Int × List Int)) (v4_2 : Int) (v4_3 : Int) : V.St := ⟨[(0, .v false [.val (.sl (.cons (.int .i64) (.cons (.int .i64) .nil)) x0)]), (1, .v false [.val (.fn 321 false .nil (.cons (.ptr (.cons (.int .i64) .nil)) (.cons (.ptr (.cons (.sl (.cons (.int .i64) .nil)) .nil)) .nil)) () x1.2)]), (7, .v false [.val (.int .i64 v4_2)]), (8, .v false [.val (.int .i64 v4_3)])], []⟩
theorem zq125.r4 (x0 : List TSig) (x1 : (Unit) × (Int × List Int)) (R : V.St → Option Int) (v4_2 : Int) (v4_3 : Int) : V.loopF zq125.E Tryz.f323.ntmps [1, 0, 1, 0] [] (V.codeOf Tryz.f323) (zq125.kt x0 x1) R (zq125.s4 x0 x1 v4_2 v4_3) = zq125.g4 x0 x1 (fun v4_2 v4_3 => R (zq125.s4 x0 x1 v4_2 v4_3)) v4_2 v4_3 := by kernel_rfl
theorem zq125.e4 (x0 : List TSig) (x1 : (Unit) × (Int × List Int)) : ∀ (n : Nat) (v4_2 : Int) (v4_3 : Int), V.loopN (V.loopF zq125.E Tryz.f323.ntmps [1, 0, 1, 0] [] (V.codeOf Tryz.f323) (zq125.kt x0 x1)) n (zq125.s4 x0 x1 v4_2 v4_3) = zq125.l4 x0 x1 n v4_2 v4_3 := by
  intro n
  induction n with
  | zero => intros; rw [V.loopN_z]; rfl
  | succ n ih =>
    intro v4_2 v4_3
    rw [V.loopN_s, zq125.r4]
    simp only [ih]
    first | exact (zq125.u4 ..).symm | rfl
theorem zq125.v (x0 : List TSig) (x1 : (Unit) × (Int × List Int)) : V.evBody zq125.E zq125.con Tryz.f323 ((x0, x1) : List TSig × (Unit) × (Int × List Int)) = zq125.b x0 x1 (fun v4_2 v4_3 => V.loopN (V.loopF zq125.E Tryz.f323.ntmps [1, 0, 1, 0] [] (V.codeOf Tryz.f323) (zq125.kt x0 x1)) V.KK (zq125.s4 x0 x1 v4_2 v4_3)) := by kernel_rfl
theorem zq125.eq (x0 : List TSig) (x1 : (Unit) × (Int × List Int)) : V.evBody zq125.E zq125.con Tryz.f323 ((x0, x1) : List TSig × (Unit) × (Int × List Int)) = zq125 x0 x1 := by
  rw [zq125.v]
  simp only [zq125.e4]
  rfl
theorem zq125.ok : V.Valid Tryz.prog 323 zq125.con :=
  V.fo (V.tab_cons zq5.ok V.tab_nil) Tryz.func323 (by kernel_rfl) (fun x y h => (show V.evBody zq125.E zq125.con Tryz.f323 x = _ from zq125.eq x.1 x.2).trans (V.cfl (by kernel_rfl) h))
noncomputable abbrev zq120.con : V.Con := ⟨(.cons (.sl (.cons (.int .i64) (.cons (.int .i64) .nil))) (.cons (.fn 321 false .nil (.cons (.ptr (.cons (.int .i64) .nil)) (.cons (.ptr (.cons (.sl (.cons (.int .i64) .nil)) .nil)) .nil))) .nil)), (.cons .bool .nil), fun (x : List TSig × (Unit) × (Int × List Int)) => zq120 x.1 x.2, [], [(false, 1), (false, 1)], [(false, 1)], [false], []⟩
noncomputable abbrev zq120.E : V.Env := V.mkE V.tys [(323, zq125.con)] [] [] [] [] []
theorem zq120.eq (x0 : List TSig) (x1 : (Unit) × (Int × List Int)) : V.evBody zq120.E zq120.con Tryz.f320 ((x0, x1) : List TSig × (Unit) × (Int × List Int)) = zq120 x0 x1 := by kernel_rfl
theorem zq120.ok : V.Valid Tryz.prog 320 zq120.con :=
  V.fo (V.tab_cons zq125.ok V.tab_nil) Tryz.func320 (by kernel_rfl) (fun x y h => (show V.evBody zq120.E zq120.con Tryz.f320 x = _ from zq120.eq x.1 x.2).trans (V.cfl (by kernel_rfl) h))
noncomputable abbrev zq4.con : V.Con := ⟨(.cons (.sl (.cons (.int .i64) .nil)) (.cons (.int .i64) (.cons (.sl (.cons (.int .i64) .nil)) (.cons (.sl (.cons (.int .i64) (.cons (.int .i64) .nil))) .nil)))), (.cons (.int .i64) .nil), fun (x : List Int × Int × List Int × List TSig) => zq4 (x.1, x.2.1) x.2.2.1 x.2.2.2, [], [(true, 2), (false, 1), (false, 1)], [(false, 1)], [false], []⟩
noncomputable abbrev zq4.E : V.Env := V.mkE V.tys [(320, zq120.con)] [(6, [2, 4, 7, 11, 12, 13], [])] [] [] [] []
noncomputable abbrev zq4.kt (x0 : TKeys) (x1 : List Int) (x2 : List TSig) : V.Kt Int := V.ktOf zq4.E zq4.con Tryz.f319 ((x0.1, x0.2, x1, x2) : List Int × Int × List Int × List TSig)
noncomputable abbrev zq4.s6 (x0 : TKeys) (x1 : List Int) (x2 : List TSig) (v6_1 : Int) (v6_3 : Int) (v6_4 : Int) : V.St := ⟨[(2, .v false [.val (.sl (.cons (.int .i64) (.cons (.int .i64) .nil)) x2)]), (4, .v false [.ptr 64064 0]), (7, .v false [.val (.int .i64 v6_1)]), (11, .v false [.val (.sl (.cons (.int .i64) .nil) x0.1)]), (12, .v false [.val (.int .i64 v6_3)]), (13, .v false [.val (.int .i64 v6_4)])], [(64064, .box [.val (.sl (.cons (.int .i64) .nil) x1)])]⟩
theorem zq4.r6 (x0 : TKeys) (x1 : List Int) (x2 : List TSig) (R : V.St → Option Int) (v6_1 : Int) (v6_3 : Int) (v6_4 : Int) : V.loopF zq4.E Tryz.f319.ntmps [1, 1, 0, 1, 0] [] (V.codeOf Tryz.f319) (zq4.kt x0 x1 x2) R (zq4.s6 x0 x1 x2 v6_1 v6_3 v6_4) = zq4.g6 x0 x1 x2 (fun v6_1 v6_3 v6_4 => R (zq4.s6 x0 x1 x2 v6_1 v6_3 v6_4)) v6_1 v6_3 v6_4 := by kernel_rfl
theorem zq4.e6 (x0 : TKeys) (x1 : List Int) (x2 : List TSig) : ∀ (n : Nat) (v6_1 : Int) (v6_3 : Int) (v6_4 : Int), V.loopN (V.loopF zq4.E Tryz.f319.ntmps [1, 1, 0, 1, 0] [] (V.codeOf Tryz.f319) (zq4.kt x0 x1 x2)) n (zq4.s6 x0 x1 x2 v6_1 v6_3 v6_4) = zq4.l6 x0 x1 x2 n v6_1 v6_3 v6_4 := by
  intro n
  induction n with
  | zero => intros; rw [V.loopN_z]; rfl
  | succ n ih =>
    intro v6_1 v6_3 v6_4
    rw [V.loopN_s, zq4.r6]
    simp only [ih]
    first | exact (zq4.u6 ..).symm | rfl
theorem zq4.v (x0 : TKeys) (x1 : List Int) (x2 : List TSig) : V.evBody zq4.E zq4.con Tryz.f319 ((x0.1, x0.2, x1, x2) : List Int × Int × List Int × List TSig) = zq4.b x0 x1 x2 (fun v6_1 v6_3 v6_4 => V.loopN (V.loopF zq4.E Tryz.f319.ntmps [1, 1, 0, 1, 0] [] (V.codeOf Tryz.f319) (zq4.kt x0 x1 x2)) V.KK (zq4.s6 x0 x1 x2 v6_1 v6_3 v6_4)) := by kernel_rfl
theorem zq4.eq (x0 : TKeys) (x1 : List Int) (x2 : List TSig) : V.evBody zq4.E zq4.con Tryz.f319 ((x0.1, x0.2, x1, x2) : List Int × Int × List Int × List TSig) = zq4 x0 x1 x2 := by
  rw [zq4.v]
  simp only [zq4.e6]
  rfl
theorem zq4.ok : V.Valid Tryz.prog 319 zq4.con :=
  V.fo (V.tab_cons zq120.ok V.tab_nil) Tryz.func319 (by kernel_rfl) (fun x y h => (show V.evBody zq4.E zq4.con Tryz.f319 x = _ from zq4.eq (x.1, x.2.1) x.2.2.1 x.2.2.2).trans (V.cfl (by kernel_rfl) h))
noncomputable abbrev zq23.con : V.Con := ⟨(.cons (.sl (.cons (.int .i64) .nil)) (.cons (.int .i64) (.cons (.sl (.cons (.int .i64) .nil)) (.cons (.sl (.cons (.int .i64) (.cons (.int .i64) .nil))) .nil)))), (.cons .bool .nil), fun (x : List Int × Int × List Int × List TSig) => zq23 (x.1, x.2.1) x.2.2.1 x.2.2.2, [], [(true, 2), (false, 1), (false, 1)], [(false, 1)], [false], []⟩
noncomputable abbrev zq23.E : V.Env := V.mkE V.tys [(256, zq18.con), (319, zq4.con)] [] [(1, 9)] [] [] []
theorem zq23.eq (x0 : TKeys) (x1 : List Int) (x2 : List TSig) : V.evBody zq23.E zq23.con Tryz.f315 ((x0.1, x0.2, x1, x2) : List Int × Int × List Int × List TSig) = zq23 x0 x1 x2 := by kernel_rfl
theorem zq23.ok : V.Valid Tryz.prog 315 zq23.con :=
  V.fo (V.tab_cons zq18.ok (V.tab_cons zq4.ok V.tab_nil)) Tryz.func315 (by kernel_rfl) (fun x y h => (show V.evBody zq23.E zq23.con Tryz.f315 x = _ from zq23.eq (x.1, x.2.1) x.2.2.1 x.2.2.2).trans (V.cfl (by kernel_rfl) h))
noncomputable abbrev zq41.con : V.Con := ⟨V.A10, (.cons .bool .nil), fun (x : V.D10) => zq41 (V.p10_0 x) (V.p10_1 x), [], [(true, 17), (true, 2)], [(false, 1)], [false], []⟩
noncomputable abbrev zq41.E : V.Env := V.mkE V.tys [(210, zq12.con), (315, zq23.con)] [] [(1, 6)] [] [] []
noncomputable abbrev zq41.kt (x0 : TSigned) (x1 : TKeys) : V.Kt Bool := V.ktOf zq41.E zq41.con Tryz.f302 (V.fl10 x0 x1)
noncomputable abbrev zq41.s (x0 : TSigned) (x1 : TKeys) : V.St := ⟨[(0, .v true [.val (.int .i64 x0.1), .val (.int .i64 x0.2.1), .val (.int .i64 x0.2.2.1), .val (.int .i64 x0.2.2.2.1), .val (.int .i64 x0.2.2.2.2.1), .val (.int .i64 x0.2.2.2.2.2.1), .val (.int .i64 x0.2.2.2.2.2.2.1), .val (.int .i64 x0.2.2.2.2.2.2.2.1), .val (.sl (.cons (.int .i64) .nil) x0.2.2.2.2.2.2.2.2.1), .val (.int .i64 x0.2.2.2.2.2.2.2.2.2.1), .val (.sl (.cons (.int .i64) .nil) x0.2.2.2.2.2.2.2.2.2.2.1), .val (.int .i64 x0.2.2.2.2.2.2.2.2.2.2.2.1), .val (.int .i64 x0.2.2.2.2.2.2.2.2.2.2.2.2.1), .val (.sl (.cons (.int .i64) .nil) x0.2.2.2.2.2.2.2.2.2.2.2.2.2.1), .val (.int .i64 x0.2.2.2.2.2.2.2.2.2.2.2.2.2.2.1), .val (.bool x0.2.2.2.2.2.2.2.2.2.2.2.2.2.2.2.1), .val (.sl (.cons (.int .i64) (.cons (.int .i64) .nil)) x0.2.2.2.2.2.2.2.2.2.2.2.2.2.2.2.2)]), (1, .v true [.val (.sl (.cons (.int .i64) .nil) x1.1), .val (.int .i64 x1.2)])], []⟩
theorem zq41.v0 (x0 : TSigned) (x1 : TKeys) : V.evBody zq41.E zq41.con Tryz.f302 (V.fl10 x0 x1) = V.evC zq41.E Tryz.f302.ntmps (V.codeOf Tryz.f302) (zq41.kt x0 x1) (zq41.s x0 x1) := by kernel_rfl
theorem zq41.v (x0 : TSigned) (x1 : TKeys) : V.evC zq41.E Tryz.f302.ntmps (V.codeOf Tryz.f302) (zq41.kt x0 x1) (zq41.s x0 x1) = zq41 x0 x1 := by kernel_rfl
theorem zq41.eq (x0 : TSigned) (x1 : TKeys) : V.evBody zq41.E zq41.con Tryz.f302 (V.fl10 x0 x1) = zq41 x0 x1 := (zq41.v0 x0 x1).trans (zq41.v x0 x1)
theorem zq41.ok : V.Valid Tryz.prog 302 zq41.con :=
  V.fo (V.tab_cons zq12.ok (V.tab_cons zq23.ok V.tab_nil)) Tryz.func302 (by kernel_rfl) (fun x y h => (show V.evBody zq41.E zq41.con Tryz.f302 x = _ from zq41.eq (V.p10_0 x) (V.p10_1 x)).trans (V.cfl (by kernel_rfl) h))
noncomputable abbrev zq16.con : V.Con := ⟨V.A3, (.cons .bool .nil), fun (x : V.D3) => zq16 (V.p3_0 x), [], [(true, 17)], [(false, 1)], [false], []⟩
noncomputable abbrev zq16.E : V.Env := V.mkE V.tys [(194, zq17.con), (227, zq44.con), (302, zq41.con)] [] [(2, 31)] [] [] []
noncomputable abbrev zq16.kt (x0 : TSigned) : V.Kt Bool := V.ktOf zq16.E zq16.con Tryz.f268 (V.fl3 x0)
noncomputable abbrev zq16.s (x0 : TSigned) : V.St := ⟨[(0, .v true [.val (.int .i64 x0.1), .val (.int .i64 x0.2.1), .val (.int .i64 x0.2.2.1), .val (.int .i64 x0.2.2.2.1), .val (.int .i64 x0.2.2.2.2.1), .val (.int .i64 x0.2.2.2.2.2.1), .val (.int .i64 x0.2.2.2.2.2.2.1), .val (.int .i64 x0.2.2.2.2.2.2.2.1), .val (.sl (.cons (.int .i64) .nil) x0.2.2.2.2.2.2.2.2.1), .val (.int .i64 x0.2.2.2.2.2.2.2.2.2.1), .val (.sl (.cons (.int .i64) .nil) x0.2.2.2.2.2.2.2.2.2.2.1), .val (.int .i64 x0.2.2.2.2.2.2.2.2.2.2.2.1), .val (.int .i64 x0.2.2.2.2.2.2.2.2.2.2.2.2.1), .val (.sl (.cons (.int .i64) .nil) x0.2.2.2.2.2.2.2.2.2.2.2.2.2.1), .val (.int .i64 x0.2.2.2.2.2.2.2.2.2.2.2.2.2.2.1), .val (.bool x0.2.2.2.2.2.2.2.2.2.2.2.2.2.2.2.1), .val (.sl (.cons (.int .i64) (.cons (.int .i64) .nil)) x0.2.2.2.2.2.2.2.2.2.2.2.2.2.2.2.2)])], []⟩
theorem zq16.v0 (x0 : TSigned) : V.evBody zq16.E zq16.con Tryz.f268 (V.fl3 x0) = V.evC zq16.E Tryz.f268.ntmps (V.codeOf Tryz.f268) (zq16.kt x0) (zq16.s x0) := by kernel_rfl
theorem zq16.v (x0 : TSigned) : V.evC zq16.E Tryz.f268.ntmps (V.codeOf Tryz.f268) (zq16.kt x0) (zq16.s x0) = zq16 x0 := by kernel_rfl
theorem zq16.eq (x0 : TSigned) : V.evBody zq16.E zq16.con Tryz.f268 (V.fl3 x0) = zq16 x0 := (zq16.v0 x0).trans (zq16.v x0)
theorem zq16.ok : V.Valid Tryz.prog 268 zq16.con :=
  V.fo (V.tab_cons zq17.ok (V.tab_cons zq44.ok (V.tab_cons zq41.ok V.tab_nil))) Tryz.func268 (by kernel_rfl) (fun x y h => (show V.evBody zq16.E zq16.con Tryz.f268 x = _ from zq16.eq (V.p3_0 x)).trans (V.cfl (by kernel_rfl) h))
noncomputable abbrev zq11.con : V.Con := ⟨V.A2, (.cons (.int .i64) .nil), fun (x : V.D2) => zq11 (V.p2_0 x), [], [(true, 16)], [(false, 1)], [false], []⟩
noncomputable abbrev zq11.E : V.Env := V.mkE V.tys [(210, zq12.con), (260, zq10.con)] [] [] [] [] []
noncomputable abbrev zq11.kt (x0 : THead) : V.Kt Int := V.ktOf zq11.E zq11.con Tryz.f197 (V.fl2 x0)
noncomputable abbrev zq11.s (x0 : THead) : V.St := ⟨[(0, .v true [.val (.int .i64 x0.1), .val (.int .i64 x0.2.1), .val (.int .i64 x0.2.2.1), .val (.int .i64 x0.2.2.2.1), .val (.int .i64 x0.2.2.2.2.1), .val (.int .i64 x0.2.2.2.2.2.1), .val (.int .i64 x0.2.2.2.2.2.2.1), .val (.int .i64 x0.2.2.2.2.2.2.2.1), .val (.sl (.cons (.int .i64) .nil) x0.2.2.2.2.2.2.2.2.1), .val (.int .i64 x0.2.2.2.2.2.2.2.2.2.1), .val (.sl (.cons (.int .i64) .nil) x0.2.2.2.2.2.2.2.2.2.2.1), .val (.int .i64 x0.2.2.2.2.2.2.2.2.2.2.2.1), .val (.int .i64 x0.2.2.2.2.2.2.2.2.2.2.2.2.1), .val (.sl (.cons (.int .i64) .nil) x0.2.2.2.2.2.2.2.2.2.2.2.2.2.1), .val (.int .i64 x0.2.2.2.2.2.2.2.2.2.2.2.2.2.2.1), .val (.bool x0.2.2.2.2.2.2.2.2.2.2.2.2.2.2.2)])], []⟩
theorem zq11.v0 (x0 : THead) : V.evBody zq11.E zq11.con Tryz.f197 (V.fl2 x0) = V.evC zq11.E Tryz.f197.ntmps (V.codeOf Tryz.f197) (zq11.kt x0) (zq11.s x0) := by kernel_rfl
theorem zq11.v (x0 : THead) : V.evC zq11.E Tryz.f197.ntmps (V.codeOf Tryz.f197) (zq11.kt x0) (zq11.s x0) = zq11 x0 := by kernel_rfl
theorem zq11.eq (x0 : THead) : V.evBody zq11.E zq11.con Tryz.f197 (V.fl2 x0) = zq11 x0 := (zq11.v0 x0).trans (zq11.v x0)
theorem zq11.ok : V.Valid Tryz.prog 197 zq11.con :=
  V.fo (V.tab_cons zq12.ok (V.tab_cons zq10.ok V.tab_nil)) Tryz.func197 (by kernel_rfl) (fun x y h => (show V.evBody zq11.E zq11.con Tryz.f197 x = _ from zq11.eq (V.p2_0 x)).trans (V.cfl (by kernel_rfl) h))
noncomputable abbrev zq60.con : V.Con := ⟨V.A4, (.cons .bool .nil), fun (x : V.D4) => zq60 (V.p4_0 x) (V.p4_1 x), [], [(true, 16), (true, 16)], [(false, 1)], [false], []⟩
noncomputable abbrev zq60.E : V.Env := V.mkE V.tys [(197, zq11.con)] [] [(1, 25)] [] [] []
noncomputable abbrev zq60.kt (x0 : THead) (x1 : THead) : V.Kt Bool := V.ktOf zq60.E zq60.con Tryz.f288 (V.fl4 x0 x1)
noncomputable abbrev zq60.s (x0 : THead) (x1 : THead) : V.St := ⟨[(0, .v true [.val (.int .i64 x0.1), .val (.int .i64 x0.2.1), .val (.int .i64 x0.2.2.1), .val (.int .i64 x0.2.2.2.1), .val (.int .i64 x0.2.2.2.2.1), .val (.int .i64 x0.2.2.2.2.2.1), .val (.int .i64 x0.2.2.2.2.2.2.1), .val (.int .i64 x0.2.2.2.2.2.2.2.1), .val (.sl (.cons (.int .i64) .nil) x0.2.2.2.2.2.2.2.2.1), .val (.int .i64 x0.2.2.2.2.2.2.2.2.2.1), .val (.sl (.cons (.int .i64) .nil) x0.2.2.2.2.2.2.2.2.2.2.1), .val (.int .i64 x0.2.2.2.2.2.2.2.2.2.2.2.1), .val (.int .i64 x0.2.2.2.2.2.2.2.2.2.2.2.2.1), .val (.sl (.cons (.int .i64) .nil) x0.2.2.2.2.2.2.2.2.2.2.2.2.2.1), .val (.int .i64 x0.2.2.2.2.2.2.2.2.2.2.2.2.2.2.1), .val (.bool x0.2.2.2.2.2.2.2.2.2.2.2.2.2.2.2)]), (1, .v true [.val (.int .i64 x1.1), .val (.int .i64 x1.2.1), .val (.int .i64 x1.2.2.1), .val (.int .i64 x1.2.2.2.1), .val (.int .i64 x1.2.2.2.2.1), .val (.int .i64 x1.2.2.2.2.2.1), .val (.int .i64 x1.2.2.2.2.2.2.1), .val (.int .i64 x1.2.2.2.2.2.2.2.1), .val (.sl (.cons (.int .i64) .nil) x1.2.2.2.2.2.2.2.2.1), .val (.int .i64 x1.2.2.2.2.2.2.2.2.2.1), .val (.sl (.cons (.int .i64) .nil) x1.2.2.2.2.2.2.2.2.2.2.1), .val (.int .i64 x1.2.2.2.2.2.2.2.2.2.2.2.1), .val (.int .i64 x1.2.2.2.2.2.2.2.2.2.2.2.2.1), .val (.sl (.cons (.int .i64) .nil) x1.2.2.2.2.2.2.2.2.2.2.2.2.2.1), .val (.int .i64 x1.2.2.2.2.2.2.2.2.2.2.2.2.2.2.1), .val (.bool x1.2.2.2.2.2.2.2.2.2.2.2.2.2.2.2)])], []⟩
theorem zq60.v0 (x0 : THead) (x1 : THead) : V.evBody zq60.E zq60.con Tryz.f288 (V.fl4 x0 x1) = V.evC zq60.E Tryz.f288.ntmps (V.codeOf Tryz.f288) (zq60.kt x0 x1) (zq60.s x0 x1) := by kernel_rfl
theorem zq60.v (x0 : THead) (x1 : THead) : V.evC zq60.E Tryz.f288.ntmps (V.codeOf Tryz.f288) (zq60.kt x0 x1) (zq60.s x0 x1) = zq60 x0 x1 := by kernel_rfl
theorem zq60.eq (x0 : THead) (x1 : THead) : V.evBody zq60.E zq60.con Tryz.f288 (V.fl4 x0 x1) = zq60 x0 x1 := (zq60.v0 x0 x1).trans (zq60.v x0 x1)
theorem zq60.ok : V.Valid Tryz.prog 288 zq60.con :=
  V.fo (V.tab_cons zq11.ok V.tab_nil) Tryz.func288 (by kernel_rfl) (fun x y h => (show V.evBody zq60.E zq60.con Tryz.f288 x = _ from zq60.eq (V.p4_0 x) (V.p4_1 x)).trans (V.cfl (by kernel_rfl) h))
noncomputable abbrev zq65.con : V.Con := ⟨V.A5, (.cons (.int .i64) .nil), fun (x : V.D5) => zq65 (V.p5_0 x) (V.p5_1 x), [], [(true, 16), (true, 17)], [(false, 1)], [false], []⟩
noncomputable abbrev zq65.E : V.Env := V.mkE V.tys [(302, zq41.con)] [] [] [] [] []
noncomputable abbrev zq65.kt (x0 : THead) (x1 : TSigned) : V.Kt Int := V.ktOf zq65.E zq65.con Tryz.f289 (V.fl5 x0 x1)
noncomputable abbrev zq65.s (x0 : THead) (x1 : TSigned) : V.St := ⟨[(0, .v true [.val (.int .i64 x0.1), .val (.int .i64 x0.2.1), .val (.int .i64 x0.2.2.1), .val (.int .i64 x0.2.2.2.1), .val (.int .i64 x0.2.2.2.2.1), .val (.int .i64 x0.2.2.2.2.2.1), .val (.int .i64 x0.2.2.2.2.2.2.1), .val (.int .i64 x0.2.2.2.2.2.2.2.1), .val (.sl (.cons (.int .i64) .nil) x0.2.2.2.2.2.2.2.2.1), .val (.int .i64 x0.2.2.2.2.2.2.2.2.2.1), .val (.sl (.cons (.int .i64) .nil) x0.2.2.2.2.2.2.2.2.2.2.1), .val (.int .i64 x0.2.2.2.2.2.2.2.2.2.2.2.1), .val (.int .i64 x0.2.2.2.2.2.2.2.2.2.2.2.2.1), .val (.sl (.cons (.int .i64) .nil) x0.2.2.2.2.2.2.2.2.2.2.2.2.2.1), .val (.int .i64 x0.2.2.2.2.2.2.2.2.2.2.2.2.2.2.1), .val (.bool x0.2.2.2.2.2.2.2.2.2.2.2.2.2.2.2)]), (1, .v true [.val (.int .i64 x1.1), .val (.int .i64 x1.2.1), .val (.int .i64 x1.2.2.1), .val (.int .i64 x1.2.2.2.1), .val (.int .i64 x1.2.2.2.2.1), .val (.int .i64 x1.2.2.2.2.2.1), .val (.int .i64 x1.2.2.2.2.2.2.1), .val (.int .i64 x1.2.2.2.2.2.2.2.1), .val (.sl (.cons (.int .i64) .nil) x1.2.2.2.2.2.2.2.2.1), .val (.int .i64 x1.2.2.2.2.2.2.2.2.2.1), .val (.sl (.cons (.int .i64) .nil) x1.2.2.2.2.2.2.2.2.2.2.1), .val (.int .i64 x1.2.2.2.2.2.2.2.2.2.2.2.1), .val (.int .i64 x1.2.2.2.2.2.2.2.2.2.2.2.2.1), .val (.sl (.cons (.int .i64) .nil) x1.2.2.2.2.2.2.2.2.2.2.2.2.2.1), .val (.int .i64 x1.2.2.2.2.2.2.2.2.2.2.2.2.2.2.1), .val (.bool x1.2.2.2.2.2.2.2.2.2.2.2.2.2.2.2.1), .val (.sl (.cons (.int .i64) (.cons (.int .i64) .nil)) x1.2.2.2.2.2.2.2.2.2.2.2.2.2.2.2.2)])], []⟩
theorem zq65.v0 (x0 : THead) (x1 : TSigned) : V.evBody zq65.E zq65.con Tryz.f289 (V.fl5 x0 x1) = V.evC zq65.E Tryz.f289.ntmps (V.codeOf Tryz.f289) (zq65.kt x0 x1) (zq65.s x0 x1) := by kernel_rfl
theorem zq65.v (x0 : THead) (x1 : TSigned) : V.evC zq65.E Tryz.f289.ntmps (V.codeOf Tryz.f289) (zq65.kt x0 x1) (zq65.s x0 x1) = zq65 x0 x1 := by kernel_rfl
theorem zq65.eq (x0 : THead) (x1 : TSigned) : V.evBody zq65.E zq65.con Tryz.f289 (V.fl5 x0 x1) = zq65 x0 x1 := (zq65.v0 x0 x1).trans (zq65.v x0 x1)
theorem zq65.ok : V.Valid Tryz.prog 289 zq65.con :=
  V.fo (V.tab_cons zq41.ok V.tab_nil) Tryz.func289 (by kernel_rfl) (fun x y h => (show V.evBody zq65.E zq65.con Tryz.f289 x = _ from zq65.eq (V.p5_0 x) (V.p5_1 x)).trans (V.cfl (by kernel_rfl) h))
noncomputable abbrev zq123.con : V.Con := ⟨(.cons (.sl (.cons (.int .i64) .nil)) (.cons (.sl (.cons (.int .i64) .nil)) .nil)), (.cons .bool .nil), fun (x : List Int × List Int) => zq123 x.1 x.2, [], [(false, 1), (false, 1)], [(false, 1)], [false], []⟩
noncomputable abbrev zq123.E : V.Env := V.mkE V.tys [] [(8, [0, 1, 12, 13], [])] [(6, 8)] [] [] []
noncomputable abbrev zq123.kt (x0 : List Int) (x1 : List Int) : V.Kt Bool := V.ktOf zq123.E zq123.con Tryz.f209 ((x0, x1) : List Int × List Int)
noncomputable abbrev zq123.s8 (x0 : List Int) (x1 : List Int) (v8_2 : Int) (v8_3 : Int) : V.St := ⟨[(0, .v false [.val (.sl (.cons (.int .i64) .nil) x0)]), (1, .v false [.val (.sl (.cons (.int .i64) .nil) x1)]), (12, .v false [.val (.int .i64 v8_2)]), (13, .v false [.val (.int .i64 v8_3)])], []⟩
theorem zq123.r8 (x0 : List Int) (x1 : List Int) (R : V.St → Option Bool) (v8_2 : Int) (v8_3 : Int) : V.loopF zq123.E Tryz.f209.ntmps [1, 1, 0, 1, 0] [] (V.codeOf Tryz.f209) (zq123.kt x0 x1) R (zq123.s8 x0 x1 v8_2 v8_3) = zq123.g8 x0 x1 (fun v8_2 v8_3 => R (zq123.s8 x0 x1 v8_2 v8_3)) v8_2 v8_3 := by kernel_rfl
theorem zq123.e8 (x0 : List Int) (x1 : List Int) : ∀ (n : Nat) (v8_2 : Int) (v8_3 : Int), V.loopN (V.loopF zq123.E Tryz.f209.ntmps [1, 1, 0, 1, 0] [] (V.codeOf Tryz.f209) (zq123.kt x0 x1)) n (zq123.s8 x0 x1 v8_2 v8_3) = zq123.l8 x0 x1 n v8_2 v8_3 := by
  intro n
  induction n with
  | zero => intros; rw [V.loopN_z]; rfl
  | succ n ih =>
    intro v8_2 v8_3
    rw [V.loopN_s, zq123.r8]
    simp only [ih]
    first | exact (zq123.u8 ..).symm | rfl
theorem zq123.v (x0 : List Int) (x1 : List Int) : V.evBody zq123.E zq123.con Tryz.f209 ((x0, x1) : List Int × List Int) = zq123.b x0 x1 (fun v8_2 v8_3 => V.loopN (V.loopF zq123.E Tryz.f209.ntmps [1, 1, 0, 1, 0] [] (V.codeOf Tryz.f209) (zq123.kt x0 x1)) V.KK (zq123.s8 x0 x1 v8_2 v8_3)) := by kernel_rfl
theorem zq123.eq (x0 : List Int) (x1 : List Int) : V.evBody zq123.E zq123.con Tryz.f209 ((x0, x1) : List Int × List Int) = zq123 x0 x1 := by
  rw [zq123.v]
  simp only [zq123.e8]
  rfl
theorem zq123.ok : V.Valid Tryz.prog 209 zq123.con :=
  V.fo V.tab_nil Tryz.func209 (by kernel_rfl) (fun x y h => (show V.evBody zq123.E zq123.con Tryz.f209 x = _ from zq123.eq x.1 x.2).trans (V.cfl (by kernel_rfl) h))
noncomputable abbrev zq7.con : V.Con := ⟨(.cons (.sl (.cons (.int .i64) .nil)) (.cons (.int .i64) (.cons (.sl (.cons (.int .i64) .nil)) (.cons (.int .i64) .nil)))), (.cons .bool .nil), fun (x : List Int × Int × List Int × Int) => zq7 (x.1, x.2.1) x.2.2, [], [(true, 2), (true, 2)], [(false, 1)], [false], []⟩
noncomputable abbrev zq7.E : V.Env := V.mkE V.tys [(209, zq123.con)] [] [] [] [] []
theorem zq7.eq (x0 : TKeys) (x1 : TKeys) : V.evBody zq7.E zq7.con Tryz.f208 ((x0.1, x0.2, x1.1, x1.2) : List Int × Int × List Int × Int) = zq7 x0 x1 := by kernel_rfl
theorem zq7.ok : V.Valid Tryz.prog 208 zq7.con :=
  V.fo (V.tab_cons zq123.ok V.tab_nil) Tryz.func208 (by kernel_rfl) (fun x y h => (show V.evBody zq7.E zq7.con Tryz.f208 x = _ from zq7.eq (x.1, x.2.1) x.2.2).trans (V.cfl (by kernel_rfl) h))
noncomputable abbrev zq37.con : V.Con := ⟨V.A4, (.cons .bool .nil), fun (x : V.D4) => zq37 (V.p4_0 x) (V.p4_1 x), [], [(true, 16), (true, 16)], [(false, 1)], [false], []⟩
noncomputable abbrev zq37.E : V.Env := V.mkE V.tys [] [] [] [] [] []
noncomputable abbrev zq37.kt (x0 : THead) (x1 : THead) : V.Kt Bool := V.ktOf zq37.E zq37.con Tryz.f310 (V.fl4 x0 x1)
noncomputable abbrev zq37.s (x0 : THead) (x1 : THead) : V.St := ⟨[(0, .v true [.val (.int .i64 x0.1), .val (.int .i64 x0.2.1), .val (.int .i64 x0.2.2.1), .val (.int .i64 x0.2.2.2.1), .val (.int .i64 x0.2.2.2.2.1), .val (.int .i64 x0.2.2.2.2.2.1), .val (.int .i64 x0.2.2.2.2.2.2.1), .val (.int .i64 x0.2.2.2.2.2.2.2.1), .val (.sl (.cons (.int .i64) .nil) x0.2.2.2.2.2.2.2.2.1), .val (.int .i64 x0.2.2.2.2.2.2.2.2.2.1), .val (.sl (.cons (.int .i64) .nil) x0.2.2.2.2.2.2.2.2.2.2.1), .val (.int .i64 x0.2.2.2.2.2.2.2.2.2.2.2.1), .val (.int .i64 x0.2.2.2.2.2.2.2.2.2.2.2.2.1), .val (.sl (.cons (.int .i64) .nil) x0.2.2.2.2.2.2.2.2.2.2.2.2.2.1), .val (.int .i64 x0.2.2.2.2.2.2.2.2.2.2.2.2.2.2.1), .val (.bool x0.2.2.2.2.2.2.2.2.2.2.2.2.2.2.2)]), (1, .v true [.val (.int .i64 x1.1), .val (.int .i64 x1.2.1), .val (.int .i64 x1.2.2.1), .val (.int .i64 x1.2.2.2.1), .val (.int .i64 x1.2.2.2.2.1), .val (.int .i64 x1.2.2.2.2.2.1), .val (.int .i64 x1.2.2.2.2.2.2.1), .val (.int .i64 x1.2.2.2.2.2.2.2.1), .val (.sl (.cons (.int .i64) .nil) x1.2.2.2.2.2.2.2.2.1), .val (.int .i64 x1.2.2.2.2.2.2.2.2.2.1), .val (.sl (.cons (.int .i64) .nil) x1.2.2.2.2.2.2.2.2.2.2.1), .val (.int .i64 x1.2.2.2.2.2.2.2.2.2.2.2.1), .val (.int .i64 x1.2.2.2.2.2.2.2.2.2.2.2.2.1), .val (.sl (.cons (.int .i64) .nil) x1.2.2.2.2.2.2.2.2.2.2.2.2.2.1), .val (.int .i64 x1.2.2.2.2.2.2.2.2.2.2.2.2.2.2.1), .val (.bool x1.2.2.2.2.2.2.2.2.2.2.2.2.2.2.2)])], []⟩
theorem zq37.v0 (x0 : THead) (x1 : THead) : V.evBody zq37.E zq37.con Tryz.f310 (V.fl4 x0 x1) = V.evC zq37.E Tryz.f310.ntmps (V.codeOf Tryz.f310) (zq37.kt x0 x1) (zq37.s x0 x1) := by kernel_rfl
theorem zq37.v (x0 : THead) (x1 : THead) : V.evC zq37.E Tryz.f310.ntmps (V.codeOf Tryz.f310) (zq37.kt x0 x1) (zq37.s x0 x1) = zq37 x0 x1 := by kernel_rfl
theorem zq37.eq (x0 : THead) (x1 : THead) : V.evBody zq37.E zq37.con Tryz.f310 (V.fl4 x0 x1) = zq37 x0 x1 := (zq37.v0 x0 x1).trans (zq37.v x0 x1)
theorem zq37.ok : V.Valid Tryz.prog 310 zq37.con :=
  V.fo V.tab_nil Tryz.func310 (by kernel_rfl) (fun x y h => (show V.evBody zq37.E zq37.con Tryz.f310 x = _ from zq37.eq (V.p4_0 x) (V.p4_1 x)).trans (V.cfl (by kernel_rfl) h))
noncomputable abbrev zq56.con : V.Con := ⟨V.A5, (.cons (.int .i64) .nil), fun (x : V.D5) => zq56 (V.p5_0 x) (V.p5_1 x), [], [(true, 16), (true, 17)], [(false, 1)], [false], []⟩
noncomputable abbrev zq56.E : V.Env := V.mkE V.tys [(208, zq7.con), (259, zq33.con), (302, zq41.con), (310, zq37.con)] [(11, [2, 3, 5, 11], []), (15, [2, 3, 25], [])] [] [] [] []
noncomputable abbrev zq56.kt (x0 : THead) (x1 : TSigned) : V.Kt Int := V.ktOf zq56.E zq56.con Tryz.f290 (V.fl5 x0 x1)
noncomputable abbrev zq56.s15 (x0 : THead) (x1 : TSigned) (v15_0 : Bool) : V.St := ⟨[(2, .v false [.ptr 64000 0]), (3, .v false [.ptr 64064 0]), (25, .v false [.val (.bool v15_0)])], [(64000, .box [.val (.int .i64 x0.1), .val (.int .i64 x0.2.1), .val (.int .i64 x0.2.2.1), .val (.int .i64 x0.2.2.2.1), .val (.int .i64 x0.2.2.2.2.1), .val (.int .i64 x0.2.2.2.2.2.1), .val (.int .i64 x0.2.2.2.2.2.2.1), .val (.int .i64 x0.2.2.2.2.2.2.2.1), .val (.sl (.cons (.int .i64) .nil) x0.2.2.2.2.2.2.2.2.1), .val (.int .i64 x0.2.2.2.2.2.2.2.2.2.1), .val (.sl (.cons (.int .i64) .nil) x0.2.2.2.2.2.2.2.2.2.2.1), .val (.int .i64 x0.2.2.2.2.2.2.2.2.2.2.2.1), .val (.int .i64 x0.2.2.2.2.2.2.2.2.2.2.2.2.1), .val (.sl (.cons (.int .i64) .nil) x0.2.2.2.2.2.2.2.2.2.2.2.2.2.1), .val (.int .i64 x0.2.2.2.2.2.2.2.2.2.2.2.2.2.2.1), .val (.bool x0.2.2.2.2.2.2.2.2.2.2.2.2.2.2.2)]), (64064, .box [.val (.int .i64 x1.1), .val (.int .i64 x1.2.1), .val (.int .i64 x1.2.2.1), .val (.int .i64 x1.2.2.2.1), .val (.int .i64 x1.2.2.2.2.1), .val (.int .i64 x1.2.2.2.2.2.1), .val (.int .i64 x1.2.2.2.2.2.2.1), .val (.int .i64 x1.2.2.2.2.2.2.2.1), .val (.sl (.cons (.int .i64) .nil) x1.2.2.2.2.2.2.2.2.1), .val (.int .i64 x1.2.2.2.2.2.2.2.2.2.1), .val (.sl (.cons (.int .i64) .nil) x1.2.2.2.2.2.2.2.2.2.2.1), .val (.int .i64 x1.2.2.2.2.2.2.2.2.2.2.2.1), .val (.int .i64 x1.2.2.2.2.2.2.2.2.2.2.2.2.1), .val (.sl (.cons (.int .i64) .nil) x1.2.2.2.2.2.2.2.2.2.2.2.2.2.1), .val (.int .i64 x1.2.2.2.2.2.2.2.2.2.2.2.2.2.2.1), .val (.bool x1.2.2.2.2.2.2.2.2.2.2.2.2.2.2.2.1), .val (.sl (.cons (.int .i64) (.cons (.int .i64) .nil)) x1.2.2.2.2.2.2.2.2.2.2.2.2.2.2.2.2)])]⟩
noncomputable abbrev zq56.s11 (x0 : THead) (x1 : TSigned) (v11_0 : Bool) : V.St := ⟨[(2, .v false [.ptr 64000 0]), (3, .v false [.ptr 64064 0]), (5, .v false [.ptr 128128 0]), (11, .v false [.val (.bool v11_0)])], [(64000, .box [.val (.int .i64 x0.1), .val (.int .i64 x0.2.1), .val (.int .i64 x0.2.2.1), .val (.int .i64 x0.2.2.2.1), .val (.int .i64 x0.2.2.2.2.1), .val (.int .i64 x0.2.2.2.2.2.1), .val (.int .i64 x0.2.2.2.2.2.2.1), .val (.int .i64 x0.2.2.2.2.2.2.2.1), .val (.sl (.cons (.int .i64) .nil) x0.2.2.2.2.2.2.2.2.1), .val (.int .i64 x0.2.2.2.2.2.2.2.2.2.1), .val (.sl (.cons (.int .i64) .nil) x0.2.2.2.2.2.2.2.2.2.2.1), .val (.int .i64 x0.2.2.2.2.2.2.2.2.2.2.2.1), .val (.int .i64 x0.2.2.2.2.2.2.2.2.2.2.2.2.1), .val (.sl (.cons (.int .i64) .nil) x0.2.2.2.2.2.2.2.2.2.2.2.2.2.1), .val (.int .i64 x0.2.2.2.2.2.2.2.2.2.2.2.2.2.2.1), .val (.bool x0.2.2.2.2.2.2.2.2.2.2.2.2.2.2.2)]), (64064, .box [.val (.int .i64 x1.1), .val (.int .i64 x1.2.1), .val (.int .i64 x1.2.2.1), .val (.int .i64 x1.2.2.2.1), .val (.int .i64 x1.2.2.2.2.1), .val (.int .i64 x1.2.2.2.2.2.1), .val (.int .i64 x1.2.2.2.2.2.2.1), .val (.int .i64 x1.2.2.2.2.2.2.2.1), .val (.sl (.cons (.int .i64) .nil) x1.2.2.2.2.2.2.2.2.1), .val (.int .i64 x1.2.2.2.2.2.2.2.2.2.1), .val (.sl (.cons (.int .i64) .nil) x1.2.2.2.2.2.2.2.2.2.2.1), .val (.int .i64 x1.2.2.2.2.2.2.2.2.2.2.2.1), .val (.int .i64 x1.2.2.2.2.2.2.2.2.2.2.2.2.1), .val (.sl (.cons (.int .i64) .nil) x1.2.2.2.2.2.2.2.2.2.2.2.2.2.1), .val (.int .i64 x1.2.2.2.2.2.2.2.2.2.2.2.2.2.2.1), .val (.bool x1.2.2.2.2.2.2.2.2.2.2.2.2.2.2.2.1), .val (.sl (.cons (.int .i64) (.cons (.int .i64) .nil)) x1.2.2.2.2.2.2.2.2.2.2.2.2.2.2.2.2)]), (128128, .box [.val (.int .i64 x1.1), .val (.int .i64 x1.2.1), .val (.int .i64 x1.2.2.1), .val (.int .i64 x1.2.2.2.1), .val (.int .i64 x1.2.2.2.2.1), .val (.int .i64 x1.2.2.2.2.2.1), .val (.int .i64 x1.2.2.2.2.2.2.1), .val (.int .i64 x1.2.2.2.2.2.2.2.1), .val (.sl (.cons (.int .i64) .nil) x1.2.2.2.2.2.2.2.2.1), .val (.int .i64 x1.2.2.2.2.2.2.2.2.2.1), .val (.sl (.cons (.int .i64) .nil) x1.2.2.2.2.2.2.2.2.2.2.1), .val (.int .i64 x1.2.2.2.2.2.2.2.2.2.2.2.1), .val (.int .i64 x1.2.2.2.2.2.2.2.2.2.2.2.2.1), .val (.sl (.cons (.int .i64) .nil) x1.2.2.2.2.2.2.2.2.2.2.2.2.2.1), .val (.int .i64 x1.2.2.2.2.2.2.2.2.2.2.2.2.2.2.1), .val (.bool x1.2.2.2.2.2.2.2.2.2.2.2.2.2.2.2.1)])]⟩
theorem zq56.r15 (x0 : THead) (x1 : TSigned) (v15_0 : Bool) : V.joinF zq56.E Tryz.f290.ntmps [1, 1, 0, 0, 1, 1, 1, 1] [] (V.codeOf Tryz.f290) (zq56.kt x0 x1) (zq56.s15 x0 x1 v15_0) = zq56.g15 x0 x1 v15_0 := by kernel_rfl
theorem zq56.e15 (x0 : THead) (x1 : TSigned) (v15_0 : Bool) : V.jn (V.joinF zq56.E Tryz.f290.ntmps [1, 1, 0, 0, 1, 1, 1, 1] [] (V.codeOf Tryz.f290) (zq56.kt x0 x1)) (zq56.s15 x0 x1 v15_0) = zq56.l15 x0 x1 v15_0 := by
  rw [V.jn_eq, zq56.r15]
  rfl
theorem zq56.r11 (x0 : THead) (x1 : TSigned) (v11_0 : Bool) : V.joinF zq56.E Tryz.f290.ntmps [1, 1, 0, 0, 1, 1] [] (V.codeOf Tryz.f290) (zq56.kt x0 x1) (zq56.s11 x0 x1 v11_0) = zq56.g11 x0 x1 (fun v15_0 => V.jn (V.joinF zq56.E Tryz.f290.ntmps [1, 1, 0, 0, 1, 1, 1, 1] [] (V.codeOf Tryz.f290) (zq56.kt x0 x1)) (zq56.s15 x0 x1 v15_0)) v11_0 := by kernel_rfl
theorem zq56.e11 (x0 : THead) (x1 : TSigned) (v11_0 : Bool) : V.jn (V.joinF zq56.E Tryz.f290.ntmps [1, 1, 0, 0, 1, 1] [] (V.codeOf Tryz.f290) (zq56.kt x0 x1)) (zq56.s11 x0 x1 v11_0) = zq56.l11 x0 x1 v11_0 := by
  rw [V.jn_eq, zq56.r11]
  simp only [zq56.e15]
  rfl
noncomputable abbrev zq56.s (x0 : THead) (x1 : TSigned) : V.St := ⟨[(0, .v true [.val (.int .i64 x0.1), .val (.int .i64 x0.2.1), .val (.int .i64 x0.2.2.1), .val (.int .i64 x0.2.2.2.1), .val (.int .i64 x0.2.2.2.2.1), .val (.int .i64 x0.2.2.2.2.2.1), .val (.int .i64 x0.2.2.2.2.2.2.1), .val (.int .i64 x0.2.2.2.2.2.2.2.1), .val (.sl (.cons (.int .i64) .nil) x0.2.2.2.2.2.2.2.2.1), .val (.int .i64 x0.2.2.2.2.2.2.2.2.2.1), .val (.sl (.cons (.int .i64) .nil) x0.2.2.2.2.2.2.2.2.2.2.1), .val (.int .i64 x0.2.2.2.2.2.2.2.2.2.2.2.1), .val (.int .i64 x0.2.2.2.2.2.2.2.2.2.2.2.2.1), .val (.sl (.cons (.int .i64) .nil) x0.2.2.2.2.2.2.2.2.2.2.2.2.2.1), .val (.int .i64 x0.2.2.2.2.2.2.2.2.2.2.2.2.2.2.1), .val (.bool x0.2.2.2.2.2.2.2.2.2.2.2.2.2.2.2)]), (1, .v true [.val (.int .i64 x1.1), .val (.int .i64 x1.2.1), .val (.int .i64 x1.2.2.1), .val (.int .i64 x1.2.2.2.1), .val (.int .i64 x1.2.2.2.2.1), .val (.int .i64 x1.2.2.2.2.2.1), .val (.int .i64 x1.2.2.2.2.2.2.1), .val (.int .i64 x1.2.2.2.2.2.2.2.1), .val (.sl (.cons (.int .i64) .nil) x1.2.2.2.2.2.2.2.2.1), .val (.int .i64 x1.2.2.2.2.2.2.2.2.2.1), .val (.sl (.cons (.int .i64) .nil) x1.2.2.2.2.2.2.2.2.2.2.1), .val (.int .i64 x1.2.2.2.2.2.2.2.2.2.2.2.1), .val (.int .i64 x1.2.2.2.2.2.2.2.2.2.2.2.2.1), .val (.sl (.cons (.int .i64) .nil) x1.2.2.2.2.2.2.2.2.2.2.2.2.2.1), .val (.int .i64 x1.2.2.2.2.2.2.2.2.2.2.2.2.2.2.1), .val (.bool x1.2.2.2.2.2.2.2.2.2.2.2.2.2.2.2.1), .val (.sl (.cons (.int .i64) (.cons (.int .i64) .nil)) x1.2.2.2.2.2.2.2.2.2.2.2.2.2.2.2.2)])], []⟩
theorem zq56.v0 (x0 : THead) (x1 : TSigned) : V.evBody zq56.E zq56.con Tryz.f290 (V.fl5 x0 x1) = V.evC zq56.E Tryz.f290.ntmps (V.codeOf Tryz.f290) (zq56.kt x0 x1) (zq56.s x0 x1) := by kernel_rfl
theorem zq56.v (x0 : THead) (x1 : TSigned) : V.evC zq56.E Tryz.f290.ntmps (V.codeOf Tryz.f290) (zq56.kt x0 x1) (zq56.s x0 x1) = zq56.b x0 x1 (fun v11_0 => V.jn (V.joinF zq56.E Tryz.f290.ntmps [1, 1, 0, 0, 1, 1] [] (V.codeOf Tryz.f290) (zq56.kt x0 x1)) (zq56.s11 x0 x1 v11_0)) := by kernel_rfl
theorem zq56.eq (x0 : THead) (x1 : TSigned) : V.evBody zq56.E zq56.con Tryz.f290 (V.fl5 x0 x1) = zq56 x0 x1 := by
  rw [zq56.v0, zq56.v]
  simp only [zq56.e11]
  rfl
theorem zq56.ok : V.Valid Tryz.prog 290 zq56.con :=
  V.fo (V.tab_cons zq7.ok (V.tab_cons zq33.ok (V.tab_cons zq41.ok (V.tab_cons zq37.ok V.tab_nil)))) Tryz.func290 (by kernel_rfl) (fun x y h => (show V.evBody zq56.E zq56.con Tryz.f290 x = _ from zq56.eq (V.p5_0 x) (V.p5_1 x)).trans (V.cfl (by kernel_rfl) h))
noncomputable abbrev zq63.con : V.Con := ⟨V.A5, (.cons (.int .i64) .nil), fun (x : V.D5) => zq63 (V.p5_0 x) (V.p5_1 x), [], [(true, 16), (true, 17)], [(false, 1)], [false], []⟩
noncomputable abbrev zq63.E : V.Env := V.mkE V.tys [(208, zq7.con), (259, zq33.con), (302, zq41.con), (310, zq37.con)] [(7, [2, 3, 5, 6], []), (13, [2, 3, 37], [])] [] [] [] []
noncomputable abbrev zq63.kt (x0 : THead) (x1 : TSigned) : V.Kt Int := V.ktOf zq63.E zq63.con Tryz.f291 (V.fl5 x0 x1)
noncomputable abbrev zq63.s13 (x0 : THead) (x1 : TSigned) (v13_0 : Bool) : V.St := ⟨[(2, .v false [.ptr 64000 0]), (3, .v false [.ptr 64064 0]), (37, .v false [.val (.bool v13_0)])], [(64000, .box [.val (.int .i64 x0.1), .val (.int .i64 x0.2.1), .val (.int .i64 x0.2.2.1), .val (.int .i64 x0.2.2.2.1), .val (.int .i64 x0.2.2.2.2.1), .val (.int .i64 x0.2.2.2.2.2.1), .val (.int .i64 x0.2.2.2.2.2.2.1), .val (.int .i64 x0.2.2.2.2.2.2.2.1), .val (.sl (.cons (.int .i64) .nil) x0.2.2.2.2.2.2.2.2.1), .val (.int .i64 x0.2.2.2.2.2.2.2.2.2.1), .val (.sl (.cons (.int .i64) .nil) x0.2.2.2.2.2.2.2.2.2.2.1), .val (.int .i64 x0.2.2.2.2.2.2.2.2.2.2.2.1), .val (.int .i64 x0.2.2.2.2.2.2.2.2.2.2.2.2.1), .val (.sl (.cons (.int .i64) .nil) x0.2.2.2.2.2.2.2.2.2.2.2.2.2.1), .val (.int .i64 x0.2.2.2.2.2.2.2.2.2.2.2.2.2.2.1), .val (.bool x0.2.2.2.2.2.2.2.2.2.2.2.2.2.2.2)]), (64064, .box [.val (.int .i64 x1.1), .val (.int .i64 x1.2.1), .val (.int .i64 x1.2.2.1), .val (.int .i64 x1.2.2.2.1), .val (.int .i64 x1.2.2.2.2.1), .val (.int .i64 x1.2.2.2.2.2.1), .val (.int .i64 x1.2.2.2.2.2.2.1), .val (.int .i64 x1.2.2.2.2.2.2.2.1), .val (.sl (.cons (.int .i64) .nil) x1.2.2.2.2.2.2.2.2.1), .val (.int .i64 x1.2.2.2.2.2.2.2.2.2.1), .val (.sl (.cons (.int .i64) .nil) x1.2.2.2.2.2.2.2.2.2.2.1), .val (.int .i64 x1.2.2.2.2.2.2.2.2.2.2.2.1), .val (.int .i64 x1.2.2.2.2.2.2.2.2.2.2.2.2.1), .val (.sl (.cons (.int .i64) .nil) x1.2.2.2.2.2.2.2.2.2.2.2.2.2.1), .val (.int .i64 x1.2.2.2.2.2.2.2.2.2.2.2.2.2.2.1), .val (.bool x1.2.2.2.2.2.2.2.2.2.2.2.2.2.2.2.1), .val (.sl (.cons (.int .i64) (.cons (.int .i64) .nil)) x1.2.2.2.2.2.2.2.2.2.2.2.2.2.2.2.2)])]⟩
noncomputable abbrev zq63.s7 (x0 : THead) (x1 : TSigned) (v7_0 : Bool) : V.St := ⟨[(2, .v false [.ptr 64000 0]), (3, .v false [.ptr 64064 0]), (5, .v false [.ptr 128128 0]), (6, .v false [.val (.bool v7_0)])], [(64000, .box [.val (.int .i64 x0.1), .val (.int .i64 x0.2.1), .val (.int .i64 x0.2.2.1), .val (.int .i64 x0.2.2.2.1), .val (.int .i64 x0.2.2.2.2.1), .val (.int .i64 x0.2.2.2.2.2.1), .val (.int .i64 x0.2.2.2.2.2.2.1), .val (.int .i64 x0.2.2.2.2.2.2.2.1), .val (.sl (.cons (.int .i64) .nil) x0.2.2.2.2.2.2.2.2.1), .val (.int .i64 x0.2.2.2.2.2.2.2.2.2.1), .val (.sl (.cons (.int .i64) .nil) x0.2.2.2.2.2.2.2.2.2.2.1), .val (.int .i64 x0.2.2.2.2.2.2.2.2.2.2.2.1), .val (.int .i64 x0.2.2.2.2.2.2.2.2.2.2.2.2.1), .val (.sl (.cons (.int .i64) .nil) x0.2.2.2.2.2.2.2.2.2.2.2.2.2.1), .val (.int .i64 x0.2.2.2.2.2.2.2.2.2.2.2.2.2.2.1), .val (.bool x0.2.2.2.2.2.2.2.2.2.2.2.2.2.2.2)]), (64064, .box [.val (.int .i64 x1.1), .val (.int .i64 x1.2.1), .val (.int .i64 x1.2.2.1), .val (.int .i64 x1.2.2.2.1), .val (.int .i64 x1.2.2.2.2.1), .val (.int .i64 x1.2.2.2.2.2.1), .val (.int .i64 x1.2.2.2.2.2.2.1), .val (.int .i64 x1.2.2.2.2.2.2.2.1), .val (.sl (.cons (.int .i64) .nil) x1.2.2.2.2.2.2.2.2.1), .val (.int .i64 x1.2.2.2.2.2.2.2.2.2.1), .val (.sl (.cons (.int .i64) .nil) x1.2.2.2.2.2.2.2.2.2.2.1), .val (.int .i64 x1.2.2.2.2.2.2.2.2.2.2.2.1), .val (.int .i64 x1.2.2.2.2.2.2.2.2.2.2.2.2.1), .val (.sl (.cons (.int .i64) .nil) x1.2.2.2.2.2.2.2.2.2.2.2.2.2.1), .val (.int .i64 x1.2.2.2.2.2.2.2.2.2.2.2.2.2.2.1), .val (.bool x1.2.2.2.2.2.2.2.2.2.2.2.2.2.2.2.1), .val (.sl (.cons (.int .i64) (.cons (.int .i64) .nil)) x1.2.2.2.2.2.2.2.2.2.2.2.2.2.2.2.2)]), (128128, .box [.val (.int .i64 x1.1), .val (.int .i64 x1.2.1), .val (.int .i64 x1.2.2.1), .val (.int .i64 x1.2.2.2.1), .val (.int .i64 x1.2.2.2.2.1), .val (.int .i64 x1.2.2.2.2.2.1), .val (.int .i64 x1.2.2.2.2.2.2.1), .val (.int .i64 x1.2.2.2.2.2.2.2.1), .val (.sl (.cons (.int .i64) .nil) x1.2.2.2.2.2.2.2.2.1), .val (.int .i64 x1.2.2.2.2.2.2.2.2.2.1), .val (.sl (.cons (.int .i64) .nil) x1.2.2.2.2.2.2.2.2.2.2.1), .val (.int .i64 x1.2.2.2.2.2.2.2.2.2.2.2.1), .val (.int .i64 x1.2.2.2.2.2.2.2.2.2.2.2.2.1), .val (.sl (.cons (.int .i64) .nil) x1.2.2.2.2.2.2.2.2.2.2.2.2.2.1), .val (.int .i64 x1.2.2.2.2.2.2.2.2.2.2.2.2.2.2.1), .val (.bool x1.2.2.2.2.2.2.2.2.2.2.2.2.2.2.2.1)])]⟩
theorem zq63.r13 (x0 : THead) (x1 : TSigned) (v13_0 : Bool) : V.joinF zq63.E Tryz.f291.ntmps [1, 1, 1, 0, 0, 1, 1] [] (V.codeOf Tryz.f291) (zq63.kt x0 x1) (zq63.s13 x0 x1 v13_0) = zq63.g13 x0 x1 v13_0 := by kernel_rfl
theorem zq63.e13 (x0 : THead) (x1 : TSigned) (v13_0 : Bool) : V.jn (V.joinF zq63.E Tryz.f291.ntmps [1, 1, 1, 0, 0, 1, 1] [] (V.codeOf Tryz.f291) (zq63.kt x0 x1)) (zq63.s13 x0 x1 v13_0) = zq63.l13 x0 x1 v13_0 := by
  rw [V.jn_eq, zq63.r13]
  rfl
theorem zq63.r7 (x0 : THead) (x1 : TSigned) (v7_0 : Bool) : V.joinF zq63.E Tryz.f291.ntmps [1, 1] [] (V.codeOf Tryz.f291) (zq63.kt x0 x1) (zq63.s7 x0 x1 v7_0) = zq63.g7 x0 x1 (fun v13_0 => V.jn (V.joinF zq63.E Tryz.f291.ntmps [1, 1, 1, 0, 0, 1, 1] [] (V.codeOf Tryz.f291) (zq63.kt x0 x1)) (zq63.s13 x0 x1 v13_0)) v7_0 := by kernel_rfl
theorem zq63.e7 (x0 : THead) (x1 : TSigned) (v7_0 : Bool) : V.jn (V.joinF zq63.E Tryz.f291.ntmps [1, 1] [] (V.codeOf Tryz.f291) (zq63.kt x0 x1)) (zq63.s7 x0 x1 v7_0) = zq63.l7 x0 x1 v7_0 := by
  rw [V.jn_eq, zq63.r7]
  simp only [zq63.e13]
  rfl
noncomputable abbrev zq63.s (x0 : THead) (x1 : TSigned) : V.St := ⟨[(0, .v true [.val (.int .i64 x0.1), .val (.int .i64 x0.2.1), .val (.int .i64 x0.2.2.1), .val (.int .i64 x0.2.2.2.1), .val (.int .i64 x0.2.2.2.2.1), .val (.int .i64 x0.2.2.2.2.2.1), .val (.int .i64 x0.2.2.2.2.2.2.1), .val (.int .i64 x0.2.2.2.2.2.2.2.1), .val (.sl (.cons (.int .i64) .nil) x0.2.2.2.2.2.2.2.2.1), .val (.int .i64 x0.2.2.2.2.2.2.2.2.2.1), .val (.sl (.cons (.int .i64) .nil) x0.2.2.2.2.2.2.2.2.2.2.1), .val (.int .i64 x0.2.2.2.2.2.2.2.2.2.2.2.1), .val (.int .i64 x0.2.2.2.2.2.2.2.2.2.2.2.2.1), .val (.sl (.cons (.int .i64) .nil) x0.2.2.2.2.2.2.2.2.2.2.2.2.2.1), .val (.int .i64 x0.2.2.2.2.2.2.2.2.2.2.2.2.2.2.1), .val (.bool x0.2.2.2.2.2.2.2.2.2.2.2.2.2.2.2)]), (1, .v true [.val (.int .i64 x1.1), .val (.int .i64 x1.2.1), .val (.int .i64 x1.2.2.1), .val (.int .i64 x1.2.2.2.1), .val (.int .i64 x1.2.2.2.2.1), .val (.int .i64 x1.2.2.2.2.2.1), .val (.int .i64 x1.2.2.2.2.2.2.1), .val (.int .i64 x1.2.2.2.2.2.2.2.1), .val (.sl (.cons (.int .i64) .nil) x1.2.2.2.2.2.2.2.2.1), .val (.int .i64 x1.2.2.2.2.2.2.2.2.2.1), .val (.sl (.cons (.int .i64) .nil) x1.2.2.2.2.2.2.2.2.2.2.1), .val (.int .i64 x1.2.2.2.2.2.2.2.2.2.2.2.1), .val (.int .i64 x1.2.2.2.2.2.2.2.2.2.2.2.2.1), .val (.sl (.cons (.int .i64) .nil) x1.2.2.2.2.2.2.2.2.2.2.2.2.2.1), .val (.int .i64 x1.2.2.2.2.2.2.2.2.2.2.2.2.2.2.1), .val (.bool x1.2.2.2.2.2.2.2.2.2.2.2.2.2.2.2.1), .val (.sl (.cons (.int .i64) (.cons (.int .i64) .nil)) x1.2.2.2.2.2.2.2.2.2.2.2.2.2.2.2.2)])], []⟩
theorem zq63.v0 (x0 : THead) (x1 : TSigned) : V.evBody zq63.E zq63.con Tryz.f291 (V.fl5 x0 x1) = V.evC zq63.E Tryz.f291.ntmps (V.codeOf Tryz.f291) (zq63.kt x0 x1) (zq63.s x0 x1) := by kernel_rfl
theorem zq63.v (x0 : THead) (x1 : TSigned) : V.evC zq63.E Tryz.f291.ntmps (V.codeOf Tryz.f291) (zq63.kt x0 x1) (zq63.s x0 x1) = zq63.b x0 x1 (fun v7_0 => V.jn (V.joinF zq63.E Tryz.f291.ntmps [1, 1] [] (V.codeOf Tryz.f291) (zq63.kt x0 x1)) (zq63.s7 x0 x1 v7_0)) := by kernel_rfl
theorem zq63.eq (x0 : THead) (x1 : TSigned) : V.evBody zq63.E zq63.con Tryz.f291 (V.fl5 x0 x1) = zq63 x0 x1 := by
  rw [zq63.v0, zq63.v]
  simp only [zq63.e7]
  rfl
theorem zq63.ok : V.Valid Tryz.prog 291 zq63.con :=
  V.fo (V.tab_cons zq7.ok (V.tab_cons zq33.ok (V.tab_cons zq41.ok (V.tab_cons zq37.ok V.tab_nil)))) Tryz.func291 (by kernel_rfl) (fun x y h => (show V.evBody zq63.E zq63.con Tryz.f291 x = _ from zq63.eq (V.p5_0 x) (V.p5_1 x)).trans (V.cfl (by kernel_rfl) h))
noncomputable abbrev zq32.con : V.Con := ⟨V.A5, (.cons (.int .i64) .nil), fun (x : V.D5) => zq32 (V.p5_0 x) (V.p5_1 x), [], [(true, 16), (true, 17)], [(false, 1)], [false], []⟩
noncomputable abbrev zq32.E : V.Env := V.mkE V.tys [(194, zq17.con), (288, zq60.con), (289, zq65.con), (290, zq56.con), (291, zq63.con)] [(5, [2, 3, 5], [])] [] [] [] []
noncomputable abbrev zq32.kt (x0 : THead) (x1 : TSigned) : V.Kt Int := V.ktOf zq32.E zq32.con Tryz.f244 (V.fl5 x0 x1)
noncomputable abbrev zq32.s5 (x0 : THead) (x1 : TSigned) (v5_0 : Bool) : V.St := ⟨[(2, .v false [.ptr 64000 0]), (3, .v false [.ptr 64064 0]), (5, .v false [.val (.bool v5_0)])], [(64000, .box [.val (.int .i64 x0.1), .val (.int .i64 x0.2.1), .val (.int .i64 x0.2.2.1), .val (.int .i64 x0.2.2.2.1), .val (.int .i64 x0.2.2.2.2.1), .val (.int .i64 x0.2.2.2.2.2.1), .val (.int .i64 x0.2.2.2.2.2.2.1), .val (.int .i64 x0.2.2.2.2.2.2.2.1), .val (.sl (.cons (.int .i64) .nil) x0.2.2.2.2.2.2.2.2.1), .val (.int .i64 x0.2.2.2.2.2.2.2.2.2.1), .val (.sl (.cons (.int .i64) .nil) x0.2.2.2.2.2.2.2.2.2.2.1), .val (.int .i64 x0.2.2.2.2.2.2.2.2.2.2.2.1), .val (.int .i64 x0.2.2.2.2.2.2.2.2.2.2.2.2.1), .val (.sl (.cons (.int .i64) .nil) x0.2.2.2.2.2.2.2.2.2.2.2.2.2.1), .val (.int .i64 x0.2.2.2.2.2.2.2.2.2.2.2.2.2.2.1), .val (.bool x0.2.2.2.2.2.2.2.2.2.2.2.2.2.2.2)]), (64064, .box [.val (.int .i64 x1.1), .val (.int .i64 x1.2.1), .val (.int .i64 x1.2.2.1), .val (.int .i64 x1.2.2.2.1), .val (.int .i64 x1.2.2.2.2.1), .val (.int .i64 x1.2.2.2.2.2.1), .val (.int .i64 x1.2.2.2.2.2.2.1), .val (.int .i64 x1.2.2.2.2.2.2.2.1), .val (.sl (.cons (.int .i64) .nil) x1.2.2.2.2.2.2.2.2.1), .val (.int .i64 x1.2.2.2.2.2.2.2.2.2.1), .val (.sl (.cons (.int .i64) .nil) x1.2.2.2.2.2.2.2.2.2.2.1), .val (.int .i64 x1.2.2.2.2.2.2.2.2.2.2.2.1), .val (.int .i64 x1.2.2.2.2.2.2.2.2.2.2.2.2.1), .val (.sl (.cons (.int .i64) .nil) x1.2.2.2.2.2.2.2.2.2.2.2.2.2.1), .val (.int .i64 x1.2.2.2.2.2.2.2.2.2.2.2.2.2.2.1), .val (.bool x1.2.2.2.2.2.2.2.2.2.2.2.2.2.2.2.1), .val (.sl (.cons (.int .i64) (.cons (.int .i64) .nil)) x1.2.2.2.2.2.2.2.2.2.2.2.2.2.2.2.2)])]⟩
theorem zq32.r5 (x0 : THead) (x1 : TSigned) (v5_0 : Bool) : V.joinF zq32.E Tryz.f244.ntmps [1, 0, 0] [] (V.codeOf Tryz.f244) (zq32.kt x0 x1) (zq32.s5 x0 x1 v5_0) = zq32.g5 x0 x1 v5_0 := by kernel_rfl
theorem zq32.e5 (x0 : THead) (x1 : TSigned) (v5_0 : Bool) : V.jn (V.joinF zq32.E Tryz.f244.ntmps [1, 0, 0] [] (V.codeOf Tryz.f244) (zq32.kt x0 x1)) (zq32.s5 x0 x1 v5_0) = zq32.l5 x0 x1 v5_0 := by
  rw [V.jn_eq, zq32.r5]
  rfl
noncomputable abbrev zq32.s (x0 : THead) (x1 : TSigned) : V.St := ⟨[(0, .v true [.val (.int .i64 x0.1), .val (.int .i64 x0.2.1), .val (.int .i64 x0.2.2.1), .val (.int .i64 x0.2.2.2.1), .val (.int .i64 x0.2.2.2.2.1), .val (.int .i64 x0.2.2.2.2.2.1), .val (.int .i64 x0.2.2.2.2.2.2.1), .val (.int .i64 x0.2.2.2.2.2.2.2.1), .val (.sl (.cons (.int .i64) .nil) x0.2.2.2.2.2.2.2.2.1), .val (.int .i64 x0.2.2.2.2.2.2.2.2.2.1), .val (.sl (.cons (.int .i64) .nil) x0.2.2.2.2.2.2.2.2.2.2.1), .val (.int .i64 x0.2.2.2.2.2.2.2.2.2.2.2.1), .val (.int .i64 x0.2.2.2.2.2.2.2.2.2.2.2.2.1), .val (.sl (.cons (.int .i64) .nil) x0.2.2.2.2.2.2.2.2.2.2.2.2.2.1), .val (.int .i64 x0.2.2.2.2.2.2.2.2.2.2.2.2.2.2.1), .val (.bool x0.2.2.2.2.2.2.2.2.2.2.2.2.2.2.2)]), (1, .v true [.val (.int .i64 x1.1), .val (.int .i64 x1.2.1), .val (.int .i64 x1.2.2.1), .val (.int .i64 x1.2.2.2.1), .val (.int .i64 x1.2.2.2.2.1), .val (.int .i64 x1.2.2.2.2.2.1), .val (.int .i64 x1.2.2.2.2.2.2.1), .val (.int .i64 x1.2.2.2.2.2.2.2.1), .val (.sl (.cons (.int .i64) .nil) x1.2.2.2.2.2.2.2.2.1), .val (.int .i64 x1.2.2.2.2.2.2.2.2.2.1), .val (.sl (.cons (.int .i64) .nil) x1.2.2.2.2.2.2.2.2.2.2.1), .val (.int .i64 x1.2.2.2.2.2.2.2.2.2.2.2.1), .val (.int .i64 x1.2.2.2.2.2.2.2.2.2.2.2.2.1), .val (.sl (.cons (.int .i64) .nil) x1.2.2.2.2.2.2.2.2.2.2.2.2.2.1), .val (.int .i64 x1.2.2.2.2.2.2.2.2.2.2.2.2.2.2.1), .val (.bool x1.2.2.2.2.2.2.2.2.2.2.2.2.2.2.2.1), .val (.sl (.cons (.int .i64) (.cons (.int .i64) .nil)) x1.2.2.2.2.2.2.2.2.2.2.2.2.2.2.2.2)])], []⟩
theorem zq32.v0 (x0 : THead) (x1 : TSigned) : V.evBody zq32.E zq32.con Tryz.f244 (V.fl5 x0 x1) = V.evC zq32.E Tryz.f244.ntmps (V.codeOf Tryz.f244) (zq32.kt x0 x1) (zq32.s x0 x1) := by kernel_rfl
theorem zq32.v (x0 : THead) (x1 : TSigned) : V.evC zq32.E Tryz.f244.ntmps (V.codeOf Tryz.f244) (zq32.kt x0 x1) (zq32.s x0 x1) = zq32.b x0 x1 (fun v5_0 => V.jn (V.joinF zq32.E Tryz.f244.ntmps [1, 0, 0] [] (V.codeOf Tryz.f244) (zq32.kt x0 x1)) (zq32.s5 x0 x1 v5_0)) := by kernel_rfl
theorem zq32.eq (x0 : THead) (x1 : TSigned) : V.evBody zq32.E zq32.con Tryz.f244 (V.fl5 x0 x1) = zq32 x0 x1 := by
  rw [zq32.v0, zq32.v]
  simp only [zq32.e5]
  rfl
theorem zq32.ok : V.Valid Tryz.prog 244 zq32.con :=
  V.fo (V.tab_cons zq17.ok (V.tab_cons zq60.ok (V.tab_cons zq65.ok (V.tab_cons zq56.ok (V.tab_cons zq63.ok V.tab_nil))))) Tryz.func244 (by kernel_rfl) (fun x y h => (show V.evBody zq32.E zq32.con Tryz.f244 x = _ from zq32.eq (V.p5_0 x) (V.p5_1 x)).trans (V.cfl (by kernel_rfl) h))
noncomputable abbrev zq30.con : V.Con := ⟨V.A5, (.cons .bool .nil), fun (x : V.D5) => zq30 (V.p5_0 x) (V.p5_1 x), [], [(true, 16), (true, 17)], [(false, 1)], [false], []⟩
noncomputable abbrev zq30.E : V.Env := V.mkE V.tys [(244, zq32.con)] [] [] [] [] []
noncomputable abbrev zq30.kt (x0 : THead) (x1 : TSigned) : V.Kt Bool := V.ktOf zq30.E zq30.con Tryz.f269 (V.fl5 x0 x1)
noncomputable abbrev zq30.s (x0 : THead) (x1 : TSigned) : V.St := ⟨[(0, .v true [.val (.int .i64 x0.1), .val (.int .i64 x0.2.1), .val (.int .i64 x0.2.2.1), .val (.int .i64 x0.2.2.2.1), .val (.int .i64 x0.2.2.2.2.1), .val (.int .i64 x0.2.2.2.2.2.1), .val (.int .i64 x0.2.2.2.2.2.2.1), .val (.int .i64 x0.2.2.2.2.2.2.2.1), .val (.sl (.cons (.int .i64) .nil) x0.2.2.2.2.2.2.2.2.1), .val (.int .i64 x0.2.2.2.2.2.2.2.2.2.1), .val (.sl (.cons (.int .i64) .nil) x0.2.2.2.2.2.2.2.2.2.2.1), .val (.int .i64 x0.2.2.2.2.2.2.2.2.2.2.2.1), .val (.int .i64 x0.2.2.2.2.2.2.2.2.2.2.2.2.1), .val (.sl (.cons (.int .i64) .nil) x0.2.2.2.2.2.2.2.2.2.2.2.2.2.1), .val (.int .i64 x0.2.2.2.2.2.2.2.2.2.2.2.2.2.2.1), .val (.bool x0.2.2.2.2.2.2.2.2.2.2.2.2.2.2.2)]), (1, .v true [.val (.int .i64 x1.1), .val (.int .i64 x1.2.1), .val (.int .i64 x1.2.2.1), .val (.int .i64 x1.2.2.2.1), .val (.int .i64 x1.2.2.2.2.1), .val (.int .i64 x1.2.2.2.2.2.1), .val (.int .i64 x1.2.2.2.2.2.2.1), .val (.int .i64 x1.2.2.2.2.2.2.2.1), .val (.sl (.cons (.int .i64) .nil) x1.2.2.2.2.2.2.2.2.1), .val (.int .i64 x1.2.2.2.2.2.2.2.2.2.1), .val (.sl (.cons (.int .i64) .nil) x1.2.2.2.2.2.2.2.2.2.2.1), .val (.int .i64 x1.2.2.2.2.2.2.2.2.2.2.2.1), .val (.int .i64 x1.2.2.2.2.2.2.2.2.2.2.2.2.1), .val (.sl (.cons (.int .i64) .nil) x1.2.2.2.2.2.2.2.2.2.2.2.2.2.1), .val (.int .i64 x1.2.2.2.2.2.2.2.2.2.2.2.2.2.2.1), .val (.bool x1.2.2.2.2.2.2.2.2.2.2.2.2.2.2.2.1), .val (.sl (.cons (.int .i64) (.cons (.int .i64) .nil)) x1.2.2.2.2.2.2.2.2.2.2.2.2.2.2.2.2)])], []⟩
theorem zq30.v0 (x0 : THead) (x1 : TSigned) : V.evBody zq30.E zq30.con Tryz.f269 (V.fl5 x0 x1) = V.evC zq30.E Tryz.f269.ntmps (V.codeOf Tryz.f269) (zq30.kt x0 x1) (zq30.s x0 x1) := by kernel_rfl
theorem zq30.v (x0 : THead) (x1 : TSigned) : V.evC zq30.E Tryz.f269.ntmps (V.codeOf Tryz.f269) (zq30.kt x0 x1) (zq30.s x0 x1) = zq30 x0 x1 := by kernel_rfl
theorem zq30.eq (x0 : THead) (x1 : TSigned) : V.evBody zq30.E zq30.con Tryz.f269 (V.fl5 x0 x1) = zq30 x0 x1 := (zq30.v0 x0 x1).trans (zq30.v x0 x1)
theorem zq30.ok : V.Valid Tryz.prog 269 zq30.con :=
  V.fo (V.tab_cons zq32.ok V.tab_nil) Tryz.func269 (by kernel_rfl) (fun x y h => (show V.evBody zq30.E zq30.con Tryz.f269 x = _ from zq30.eq (V.p5_0 x) (V.p5_1 x)).trans (V.cfl (by kernel_rfl) h))
noncomputable abbrev zq9.con : V.Con := ⟨(.cons (.sl V.eSigned) .nil), (.cons (.int .i64) .nil), fun (x : List TSigned) => zq9 x, [], [(false, 1)], [(false, 1)], [false], []⟩
noncomputable abbrev zq9.E : V.Env := V.mkE V.tys [(268, zq16.con), (269, zq30.con)] [(4, [0, 5, 6, 7], [])] [(4, 18)] [] [] []
noncomputable abbrev zq9.kt (x0 : List TSigned) : V.Kt Int := V.ktOf zq9.E zq9.con Tryz.f207 ((x0) : List TSigned)
noncomputable abbrev zq9.s4 (x0 : List TSigned) (v4_2 : Int) (v4_3 : Int) : V.St := ⟨[(0, .v false [.val (.sl V.eSigned x0)]), (5, .v false [.val (.sl V.eSigned x0)]), (6, .v false [.val (.int .i64 v4_2)]), (7, .v false [.val (.int .i64 v4_3)])], []⟩
theorem zq9.r4 (x0 : List TSigned) (R : V.St → Option Int) (v4_2 : Int) (v4_3 : Int) : V.loopF zq9.E Tryz.f207.ntmps [1, 0, 1, 0] [] (V.codeOf Tryz.f207) (zq9.kt x0) R (zq9.s4 x0 v4_2 v4_3) = zq9.g4 x0 (fun v4_2 v4_3 => R (zq9.s4 x0 v4_2 v4_3)) v4_2 v4_3 := by kernel_rfl
theorem zq9.e4 (x0 : List TSigned) : ∀ (n : Nat) (v4_2 : Int) (v4_3 : Int), V.loopN (V.loopF zq9.E Tryz.f207.ntmps [1, 0, 1, 0] [] (V.codeOf Tryz.f207) (zq9.kt x0)) n (zq9.s4 x0 v4_2 v4_3) = zq9.l4 x0 n v4_2 v4_3 := by
  intro n
  induction n with
  | zero => intros; rw [V.loopN_z]; rfl
  | succ n ih =>
    intro v4_2 v4_3
    rw [V.loopN_s, zq9.r4]
    simp only [ih]
    first | exact (zq9.u4 ..).symm | rfl
theorem zq9.v (x0 : List TSigned) : V.evBody zq9.E zq9.con Tryz.f207 ((x0) : List TSigned) = zq9.b x0 (fun v4_2 v4_3 => V.loopN (V.loopF zq9.E Tryz.f207.ntmps [1, 0, 1, 0] [] (V.codeOf Tryz.f207) (zq9.kt x0)) V.KK (zq9.s4 x0 v4_2 v4_3)) := by kernel_rfl
theorem zq9.eq (x0 : List TSigned) : V.evBody zq9.E zq9.con Tryz.f207 ((x0) : List TSigned) = zq9 x0 := by
  rw [zq9.v]
  simp only [zq9.e4]
  rfl
theorem zq9.ok : V.Valid Tryz.prog 207 zq9.con :=
  V.fo (V.tab_cons zq16.ok (V.tab_cons zq30.ok V.tab_nil)) Tryz.func207 (by kernel_rfl) (fun x y h => (show V.evBody zq9.E zq9.con Tryz.f207 x = _ from zq9.eq x).trans (V.cfl (by kernel_rfl) h))
noncomputable abbrev zq14.con : V.Con := ⟨(.cons (.sl V.eSigned) .nil), (.cons .bool .nil), fun (x : List TSigned) => zq14 x, [], [(false, 1)], [(false, 1)], [false], []⟩
noncomputable abbrev zq14.E : V.Env := V.mkE V.tys [(151, zq13.con), (207, zq9.con)] [] [] [] [] []
theorem zq14.eq (x0 : List TSigned) : V.evBody zq14.E zq14.con Tryz.f104 ((x0) : List TSigned) = zq14 x0 := by kernel_rfl
theorem zq14.ok : V.Valid Tryz.prog 104 zq14.con :=
  V.fo (V.tab_cons zq13.ok (V.tab_cons zq9.ok V.tab_nil)) Tryz.func104 (by kernel_rfl) (fun x y h => (show V.evBody zq14.E zq14.con Tryz.f104 x = _ from zq14.eq x).trans (V.cfl (by kernel_rfl) h))
noncomputable abbrev zq64.con : V.Con := ⟨(.cons (.sl V.eSigned) .nil), V.eHead, fun (x : List TSigned) => zq64 x, [], [(false, 1)], [(true, 16)], [false, false, false, false, false, false, false, false, false, false, false, false, false, false, false, false], []⟩
noncomputable abbrev zq64.E : V.Env := V.mkE V.tys [] [] [] [] [] []
theorem zq64.eq (x0 : List TSigned) : V.evBody zq64.E zq64.con Tryz.f130 ((x0) : List TSigned) = zq64 x0 := by kernel_rfl
theorem zq64.ok : V.Valid Tryz.prog 130 zq64.con :=
  V.fo V.tab_nil Tryz.func130 (by kernel_rfl) (fun x y h => (show V.evBody zq64.E zq64.con Tryz.f130 x = _ from zq64.eq x).trans (V.cfl (by kernel_rfl) h))
end Go.Proofs.YtpioofmdambjoaaGreat
