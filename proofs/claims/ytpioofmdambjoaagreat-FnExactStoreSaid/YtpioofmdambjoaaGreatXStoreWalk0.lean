/- That the functions compute it. -/
import Derived.Test.YtpioofmdambjoaaGreatXStorePure0
import Derived.Test.YtpioofmdambjoaaGreatProg
namespace Go.Proofs.YtpioofmdambjoaaGreat
set_option linter.unusedVariables false
set_option maxRecDepth 100000
namespace V
abbrev eEntry : ETy := (.cons .str (.cons (.int .i64) (.cons (.int .i64) (.cons (.sl (.cons .str .nil)) .nil))))
abbrev eHead : ETy := (.cons (.int .i64) (.cons (.int .i64) (.cons (.int .i64) (.cons (.int .i64) (.cons (.int .i64) (.cons (.int .i64) (.cons (.int .i64) (.cons (.int .i64) (.cons (.sl (.cons (.int .i64) .nil)) (.cons (.int .i64) (.cons (.sl (.cons (.int .i64) .nil)) (.cons (.int .i64) (.cons (.int .i64) (.cons (.sl (.cons (.int .i64) .nil)) (.cons (.int .i64) (.cons .bool .nil))))))))))))))))
abbrev eRHeadBool : ETy := (.cons (.int .i64) (.cons (.int .i64) (.cons (.int .i64) (.cons (.int .i64) (.cons (.int .i64) (.cons (.int .i64) (.cons (.int .i64) (.cons (.int .i64) (.cons (.sl (.cons (.int .i64) .nil)) (.cons (.int .i64) (.cons (.sl (.cons (.int .i64) .nil)) (.cons (.int .i64) (.cons (.int .i64) (.cons (.sl (.cons (.int .i64) .nil)) (.cons (.int .i64) (.cons .bool (.cons .bool .nil)))))))))))))))))
abbrev eSigned : ETy := (.cons (.int .i64) (.cons (.int .i64) (.cons (.int .i64) (.cons (.int .i64) (.cons (.int .i64) (.cons (.int .i64) (.cons (.int .i64) (.cons (.int .i64) (.cons (.sl (.cons (.int .i64) .nil)) (.cons (.int .i64) (.cons (.sl (.cons (.int .i64) .nil)) (.cons (.int .i64) (.cons (.int .i64) (.cons (.sl (.cons (.int .i64) .nil)) (.cons (.int .i64) (.cons .bool (.cons (.sl (.cons (.int .i64) (.cons (.int .i64) .nil))) .nil)))))))))))))))))
abbrev D0 : Type := Int × Int × Int × Int × Int × Int × Int × Int × List Int × Int × List Int × Int × Int × List Int × Int × Bool × Int
abbrev A0 : ETy := (.cons (.int .i64) (.cons (.int .i64) (.cons (.int .i64) (.cons (.int .i64) (.cons (.int .i64) (.cons (.int .i64) (.cons (.int .i64) (.cons (.int .i64) (.cons (.sl (.cons (.int .i64) .nil)) (.cons (.int .i64) (.cons (.sl (.cons (.int .i64) .nil)) (.cons (.int .i64) (.cons (.int .i64) (.cons (.sl (.cons (.int .i64) .nil)) (.cons (.int .i64) (.cons .bool (.cons (.int .i64) .nil)))))))))))))))))
abbrev fl0 (x0 : THead) (x1 : Int) : D0 := (x0.1, x0.2.1, x0.2.2.1, x0.2.2.2.1, x0.2.2.2.2.1, x0.2.2.2.2.2.1, x0.2.2.2.2.2.2.1, x0.2.2.2.2.2.2.2.1, x0.2.2.2.2.2.2.2.2.1, x0.2.2.2.2.2.2.2.2.2.1, x0.2.2.2.2.2.2.2.2.2.2.1, x0.2.2.2.2.2.2.2.2.2.2.2.1, x0.2.2.2.2.2.2.2.2.2.2.2.2.1, x0.2.2.2.2.2.2.2.2.2.2.2.2.2.1, x0.2.2.2.2.2.2.2.2.2.2.2.2.2.2.1, x0.2.2.2.2.2.2.2.2.2.2.2.2.2.2.2, x1)
abbrev p0_0 (x : D0) : THead := (x.1, x.2.1, x.2.2.1, x.2.2.2.1, x.2.2.2.2.1, x.2.2.2.2.2.1, x.2.2.2.2.2.2.1, x.2.2.2.2.2.2.2.1, x.2.2.2.2.2.2.2.2.1, x.2.2.2.2.2.2.2.2.2.1, x.2.2.2.2.2.2.2.2.2.2.1, x.2.2.2.2.2.2.2.2.2.2.2.1, x.2.2.2.2.2.2.2.2.2.2.2.2.1, x.2.2.2.2.2.2.2.2.2.2.2.2.2.1, x.2.2.2.2.2.2.2.2.2.2.2.2.2.2.1, x.2.2.2.2.2.2.2.2.2.2.2.2.2.2.2.1)
abbrev p0_1 (x : D0) : Int := x.2.2.2.2.2.2.2.2.2.2.2.2.2.2.2.2
abbrev D1 : Type := Int × Int × Int × Int × Int × Int × Int × Int × List Int × Int × List Int × Int × Int × List Int × Int × Bool × List TSig × Int
abbrev A1 : ETy := (.cons (.int .i64) (.cons (.int .i64) (.cons (.int .i64) (.cons (.int .i64) (.cons (.int .i64) (.cons (.int .i64) (.cons (.int .i64) (.cons (.int .i64) (.cons (.sl (.cons (.int .i64) .nil)) (.cons (.int .i64) (.cons (.sl (.cons (.int .i64) .nil)) (.cons (.int .i64) (.cons (.int .i64) (.cons (.sl (.cons (.int .i64) .nil)) (.cons (.int .i64) (.cons .bool (.cons (.sl (.cons (.int .i64) (.cons (.int .i64) .nil))) (.cons (.int .i64) .nil))))))))))))))))))
abbrev fl1 (x0 : TSigned) (x1 : Int) : D1 := (x0.1, x0.2.1, x0.2.2.1, x0.2.2.2.1, x0.2.2.2.2.1, x0.2.2.2.2.2.1, x0.2.2.2.2.2.2.1, x0.2.2.2.2.2.2.2.1, x0.2.2.2.2.2.2.2.2.1, x0.2.2.2.2.2.2.2.2.2.1, x0.2.2.2.2.2.2.2.2.2.2.1, x0.2.2.2.2.2.2.2.2.2.2.2.1, x0.2.2.2.2.2.2.2.2.2.2.2.2.1, x0.2.2.2.2.2.2.2.2.2.2.2.2.2.1, x0.2.2.2.2.2.2.2.2.2.2.2.2.2.2.1, x0.2.2.2.2.2.2.2.2.2.2.2.2.2.2.2.1, x0.2.2.2.2.2.2.2.2.2.2.2.2.2.2.2.2, x1)
abbrev p1_0 (x : D1) : TSigned := (x.1, x.2.1, x.2.2.1, x.2.2.2.1, x.2.2.2.2.1, x.2.2.2.2.2.1, x.2.2.2.2.2.2.1, x.2.2.2.2.2.2.2.1, x.2.2.2.2.2.2.2.2.1, x.2.2.2.2.2.2.2.2.2.1, x.2.2.2.2.2.2.2.2.2.2.1, x.2.2.2.2.2.2.2.2.2.2.2.1, x.2.2.2.2.2.2.2.2.2.2.2.2.1, x.2.2.2.2.2.2.2.2.2.2.2.2.2.1, x.2.2.2.2.2.2.2.2.2.2.2.2.2.2.1, x.2.2.2.2.2.2.2.2.2.2.2.2.2.2.2.1, x.2.2.2.2.2.2.2.2.2.2.2.2.2.2.2.2.1)
abbrev p1_1 (x : D1) : Int := x.2.2.2.2.2.2.2.2.2.2.2.2.2.2.2.2.2
abbrev D2 : Type := Int × Int × Int × Int × Int × Int × Int × Int × List Int × Int × List Int × Int × Int × List Int × Int × Bool
abbrev A2 : ETy := eHead
abbrev fl2 (x0 : THead) : D2 := (x0.1, x0.2.1, x0.2.2.1, x0.2.2.2.1, x0.2.2.2.2.1, x0.2.2.2.2.2.1, x0.2.2.2.2.2.2.1, x0.2.2.2.2.2.2.2.1, x0.2.2.2.2.2.2.2.2.1, x0.2.2.2.2.2.2.2.2.2.1, x0.2.2.2.2.2.2.2.2.2.2.1, x0.2.2.2.2.2.2.2.2.2.2.2.1, x0.2.2.2.2.2.2.2.2.2.2.2.2.1, x0.2.2.2.2.2.2.2.2.2.2.2.2.2.1, x0.2.2.2.2.2.2.2.2.2.2.2.2.2.2.1, x0.2.2.2.2.2.2.2.2.2.2.2.2.2.2.2)
abbrev p2_0 (x : D2) : THead := x
abbrev D3 : Type := Int × Int × Int × Int × Int × Int × Int × Int × List Int × Int × List Int × Int × Int × List Int × Int × Bool × List TSig
abbrev A3 : ETy := eSigned
abbrev fl3 (x0 : TSigned) : D3 := (x0.1, x0.2.1, x0.2.2.1, x0.2.2.2.1, x0.2.2.2.2.1, x0.2.2.2.2.2.1, x0.2.2.2.2.2.2.1, x0.2.2.2.2.2.2.2.1, x0.2.2.2.2.2.2.2.2.1, x0.2.2.2.2.2.2.2.2.2.1, x0.2.2.2.2.2.2.2.2.2.2.1, x0.2.2.2.2.2.2.2.2.2.2.2.1, x0.2.2.2.2.2.2.2.2.2.2.2.2.1, x0.2.2.2.2.2.2.2.2.2.2.2.2.2.1, x0.2.2.2.2.2.2.2.2.2.2.2.2.2.2.1, x0.2.2.2.2.2.2.2.2.2.2.2.2.2.2.2.1, x0.2.2.2.2.2.2.2.2.2.2.2.2.2.2.2.2)
abbrev p3_0 (x : D3) : TSigned := x
abbrev D4 : Type := Int × Int × Int × Int × Int × Int × Int × Int × List Int × Int × List Int × Int × Int × List Int × Int × Bool × Int × Int × Int × Int × Int × Int × Int × Int × List Int × Int × List Int × Int × Int × List Int × Int × Bool
abbrev A4 : ETy := (.cons (.int .i64) (.cons (.int .i64) (.cons (.int .i64) (.cons (.int .i64) (.cons (.int .i64) (.cons (.int .i64) (.cons (.int .i64) (.cons (.int .i64) (.cons (.sl (.cons (.int .i64) .nil)) (.cons (.int .i64) (.cons (.sl (.cons (.int .i64) .nil)) (.cons (.int .i64) (.cons (.int .i64) (.cons (.sl (.cons (.int .i64) .nil)) (.cons (.int .i64) (.cons .bool (.cons (.int .i64) (.cons (.int .i64) (.cons (.int .i64) (.cons (.int .i64) (.cons (.int .i64) (.cons (.int .i64) (.cons (.int .i64) (.cons (.int .i64) (.cons (.sl (.cons (.int .i64) .nil)) (.cons (.int .i64) (.cons (.sl (.cons (.int .i64) .nil)) (.cons (.int .i64) (.cons (.int .i64) (.cons (.sl (.cons (.int .i64) .nil)) (.cons (.int .i64) (.cons .bool .nil))))))))))))))))))))))))))))))))
abbrev fl4 (x0 : THead) (x1 : THead) : D4 := (x0.1, x0.2.1, x0.2.2.1, x0.2.2.2.1, x0.2.2.2.2.1, x0.2.2.2.2.2.1, x0.2.2.2.2.2.2.1, x0.2.2.2.2.2.2.2.1, x0.2.2.2.2.2.2.2.2.1, x0.2.2.2.2.2.2.2.2.2.1, x0.2.2.2.2.2.2.2.2.2.2.1, x0.2.2.2.2.2.2.2.2.2.2.2.1, x0.2.2.2.2.2.2.2.2.2.2.2.2.1, x0.2.2.2.2.2.2.2.2.2.2.2.2.2.1, x0.2.2.2.2.2.2.2.2.2.2.2.2.2.2.1, x0.2.2.2.2.2.2.2.2.2.2.2.2.2.2.2, x1.1, x1.2.1, x1.2.2.1, x1.2.2.2.1, x1.2.2.2.2.1, x1.2.2.2.2.2.1, x1.2.2.2.2.2.2.1, x1.2.2.2.2.2.2.2.1, x1.2.2.2.2.2.2.2.2.1, x1.2.2.2.2.2.2.2.2.2.1, x1.2.2.2.2.2.2.2.2.2.2.1, x1.2.2.2.2.2.2.2.2.2.2.2.1, x1.2.2.2.2.2.2.2.2.2.2.2.2.1, x1.2.2.2.2.2.2.2.2.2.2.2.2.2.1, x1.2.2.2.2.2.2.2.2.2.2.2.2.2.2.1, x1.2.2.2.2.2.2.2.2.2.2.2.2.2.2.2)
abbrev p4_0 (x : D4) : THead := (x.1, x.2.1, x.2.2.1, x.2.2.2.1, x.2.2.2.2.1, x.2.2.2.2.2.1, x.2.2.2.2.2.2.1, x.2.2.2.2.2.2.2.1, x.2.2.2.2.2.2.2.2.1, x.2.2.2.2.2.2.2.2.2.1, x.2.2.2.2.2.2.2.2.2.2.1, x.2.2.2.2.2.2.2.2.2.2.2.1, x.2.2.2.2.2.2.2.2.2.2.2.2.1, x.2.2.2.2.2.2.2.2.2.2.2.2.2.1, x.2.2.2.2.2.2.2.2.2.2.2.2.2.2.1, x.2.2.2.2.2.2.2.2.2.2.2.2.2.2.2.1)
abbrev p4_1 (x : D4) : THead := x.2.2.2.2.2.2.2.2.2.2.2.2.2.2.2.2
abbrev D5 : Type := Int × Int × Int × Int × Int × Int × Int × Int × List Int × Int × List Int × Int × Int × List Int × Int × Bool × Int × Int × Int × Int × Int × Int × Int × Int × List Int × Int × List Int × Int × Int × List Int × Int × Bool × List TSig
abbrev A5 : ETy := (.cons (.int .i64) (.cons (.int .i64) (.cons (.int .i64) (.cons (.int .i64) (.cons (.int .i64) (.cons (.int .i64) (.cons (.int .i64) (.cons (.int .i64) (.cons (.sl (.cons (.int .i64) .nil)) (.cons (.int .i64) (.cons (.sl (.cons (.int .i64) .nil)) (.cons (.int .i64) (.cons (.int .i64) (.cons (.sl (.cons (.int .i64) .nil)) (.cons (.int .i64) (.cons .bool (.cons (.int .i64) (.cons (.int .i64) (.cons (.int .i64) (.cons (.int .i64) (.cons (.int .i64) (.cons (.int .i64) (.cons (.int .i64) (.cons (.int .i64) (.cons (.sl (.cons (.int .i64) .nil)) (.cons (.int .i64) (.cons (.sl (.cons (.int .i64) .nil)) (.cons (.int .i64) (.cons (.int .i64) (.cons (.sl (.cons (.int .i64) .nil)) (.cons (.int .i64) (.cons .bool (.cons (.sl (.cons (.int .i64) (.cons (.int .i64) .nil))) .nil)))))))))))))))))))))))))))))))))
abbrev fl5 (x0 : THead) (x1 : TSigned) : D5 := (x0.1, x0.2.1, x0.2.2.1, x0.2.2.2.1, x0.2.2.2.2.1, x0.2.2.2.2.2.1, x0.2.2.2.2.2.2.1, x0.2.2.2.2.2.2.2.1, x0.2.2.2.2.2.2.2.2.1, x0.2.2.2.2.2.2.2.2.2.1, x0.2.2.2.2.2.2.2.2.2.2.1, x0.2.2.2.2.2.2.2.2.2.2.2.1, x0.2.2.2.2.2.2.2.2.2.2.2.2.1, x0.2.2.2.2.2.2.2.2.2.2.2.2.2.1, x0.2.2.2.2.2.2.2.2.2.2.2.2.2.2.1, x0.2.2.2.2.2.2.2.2.2.2.2.2.2.2.2, x1.1, x1.2.1, x1.2.2.1, x1.2.2.2.1, x1.2.2.2.2.1, x1.2.2.2.2.2.1, x1.2.2.2.2.2.2.1, x1.2.2.2.2.2.2.2.1, x1.2.2.2.2.2.2.2.2.1, x1.2.2.2.2.2.2.2.2.2.1, x1.2.2.2.2.2.2.2.2.2.2.1, x1.2.2.2.2.2.2.2.2.2.2.2.1, x1.2.2.2.2.2.2.2.2.2.2.2.2.1, x1.2.2.2.2.2.2.2.2.2.2.2.2.2.1, x1.2.2.2.2.2.2.2.2.2.2.2.2.2.2.1, x1.2.2.2.2.2.2.2.2.2.2.2.2.2.2.2.1, x1.2.2.2.2.2.2.2.2.2.2.2.2.2.2.2.2)
abbrev p5_0 (x : D5) : THead := (x.1, x.2.1, x.2.2.1, x.2.2.2.1, x.2.2.2.2.1, x.2.2.2.2.2.1, x.2.2.2.2.2.2.1, x.2.2.2.2.2.2.2.1, x.2.2.2.2.2.2.2.2.1, x.2.2.2.2.2.2.2.2.2.1, x.2.2.2.2.2.2.2.2.2.2.1, x.2.2.2.2.2.2.2.2.2.2.2.1, x.2.2.2.2.2.2.2.2.2.2.2.2.1, x.2.2.2.2.2.2.2.2.2.2.2.2.2.1, x.2.2.2.2.2.2.2.2.2.2.2.2.2.2.1, x.2.2.2.2.2.2.2.2.2.2.2.2.2.2.2.1)
abbrev p5_1 (x : D5) : TSigned := x.2.2.2.2.2.2.2.2.2.2.2.2.2.2.2.2
abbrev D6 : Type := Int × Int × Int × Int × Int × Int × Int × Int × List Int × Int × List Int × Int × Int × List Int × Int × Bool × List TSig × List Int × Int
abbrev A6 : ETy := (.cons (.int .i64) (.cons (.int .i64) (.cons (.int .i64) (.cons (.int .i64) (.cons (.int .i64) (.cons (.int .i64) (.cons (.int .i64) (.cons (.int .i64) (.cons (.sl (.cons (.int .i64) .nil)) (.cons (.int .i64) (.cons (.sl (.cons (.int .i64) .nil)) (.cons (.int .i64) (.cons (.int .i64) (.cons (.sl (.cons (.int .i64) .nil)) (.cons (.int .i64) (.cons .bool (.cons (.sl (.cons (.int .i64) (.cons (.int .i64) .nil))) (.cons (.sl (.cons (.int .i64) .nil)) (.cons (.int .i64) .nil)))))))))))))))))))
abbrev fl6 (x0 : TSigned) (x1 : TKeys) : D6 := (x0.1, x0.2.1, x0.2.2.1, x0.2.2.2.1, x0.2.2.2.2.1, x0.2.2.2.2.2.1, x0.2.2.2.2.2.2.1, x0.2.2.2.2.2.2.2.1, x0.2.2.2.2.2.2.2.2.1, x0.2.2.2.2.2.2.2.2.2.1, x0.2.2.2.2.2.2.2.2.2.2.1, x0.2.2.2.2.2.2.2.2.2.2.2.1, x0.2.2.2.2.2.2.2.2.2.2.2.2.1, x0.2.2.2.2.2.2.2.2.2.2.2.2.2.1, x0.2.2.2.2.2.2.2.2.2.2.2.2.2.2.1, x0.2.2.2.2.2.2.2.2.2.2.2.2.2.2.2.1, x0.2.2.2.2.2.2.2.2.2.2.2.2.2.2.2.2, x1.1, x1.2)
abbrev p6_0 (x : D6) : TSigned := (x.1, x.2.1, x.2.2.1, x.2.2.2.1, x.2.2.2.2.1, x.2.2.2.2.2.1, x.2.2.2.2.2.2.1, x.2.2.2.2.2.2.2.1, x.2.2.2.2.2.2.2.2.1, x.2.2.2.2.2.2.2.2.2.1, x.2.2.2.2.2.2.2.2.2.2.1, x.2.2.2.2.2.2.2.2.2.2.2.1, x.2.2.2.2.2.2.2.2.2.2.2.2.1, x.2.2.2.2.2.2.2.2.2.2.2.2.2.1, x.2.2.2.2.2.2.2.2.2.2.2.2.2.2.1, x.2.2.2.2.2.2.2.2.2.2.2.2.2.2.2.1, x.2.2.2.2.2.2.2.2.2.2.2.2.2.2.2.2.1)
abbrev p6_1 (x : D6) : TKeys := x.2.2.2.2.2.2.2.2.2.2.2.2.2.2.2.2.2
abbrev D7 : Type := Int × Int × Int × Int × Int × Int × Int × Int × List Int × Int × List Int × Int × Int × List Int × Int × Bool × List TSig × Int × Int × Int × Int × Int × Int × Int × Int × List Int × Int × List Int × Int × Int × List Int × Int × Bool × List TSig
abbrev A7 : ETy := (.cons (.int .i64) (.cons (.int .i64) (.cons (.int .i64) (.cons (.int .i64) (.cons (.int .i64) (.cons (.int .i64) (.cons (.int .i64) (.cons (.int .i64) (.cons (.sl (.cons (.int .i64) .nil)) (.cons (.int .i64) (.cons (.sl (.cons (.int .i64) .nil)) (.cons (.int .i64) (.cons (.int .i64) (.cons (.sl (.cons (.int .i64) .nil)) (.cons (.int .i64) (.cons .bool (.cons (.sl (.cons (.int .i64) (.cons (.int .i64) .nil))) (.cons (.int .i64) (.cons (.int .i64) (.cons (.int .i64) (.cons (.int .i64) (.cons (.int .i64) (.cons (.int .i64) (.cons (.int .i64) (.cons (.int .i64) (.cons (.sl (.cons (.int .i64) .nil)) (.cons (.int .i64) (.cons (.sl (.cons (.int .i64) .nil)) (.cons (.int .i64) (.cons (.int .i64) (.cons (.sl (.cons (.int .i64) .nil)) (.cons (.int .i64) (.cons .bool (.cons (.sl (.cons (.int .i64) (.cons (.int .i64) .nil))) .nil))))))))))))))))))))))))))))))))))
abbrev fl7 (x0 : TSigned) (x1 : TSigned) : D7 := (x0.1, x0.2.1, x0.2.2.1, x0.2.2.2.1, x0.2.2.2.2.1, x0.2.2.2.2.2.1, x0.2.2.2.2.2.2.1, x0.2.2.2.2.2.2.2.1, x0.2.2.2.2.2.2.2.2.1, x0.2.2.2.2.2.2.2.2.2.1, x0.2.2.2.2.2.2.2.2.2.2.1, x0.2.2.2.2.2.2.2.2.2.2.2.1, x0.2.2.2.2.2.2.2.2.2.2.2.2.1, x0.2.2.2.2.2.2.2.2.2.2.2.2.2.1, x0.2.2.2.2.2.2.2.2.2.2.2.2.2.2.1, x0.2.2.2.2.2.2.2.2.2.2.2.2.2.2.2.1, x0.2.2.2.2.2.2.2.2.2.2.2.2.2.2.2.2, x1.1, x1.2.1, x1.2.2.1, x1.2.2.2.1, x1.2.2.2.2.1, x1.2.2.2.2.2.1, x1.2.2.2.2.2.2.1, x1.2.2.2.2.2.2.2.1, x1.2.2.2.2.2.2.2.2.1, x1.2.2.2.2.2.2.2.2.2.1, x1.2.2.2.2.2.2.2.2.2.2.1, x1.2.2.2.2.2.2.2.2.2.2.2.1, x1.2.2.2.2.2.2.2.2.2.2.2.2.1, x1.2.2.2.2.2.2.2.2.2.2.2.2.2.1, x1.2.2.2.2.2.2.2.2.2.2.2.2.2.2.1, x1.2.2.2.2.2.2.2.2.2.2.2.2.2.2.2.1, x1.2.2.2.2.2.2.2.2.2.2.2.2.2.2.2.2)
abbrev p7_0 (x : D7) : TSigned := (x.1, x.2.1, x.2.2.1, x.2.2.2.1, x.2.2.2.2.1, x.2.2.2.2.2.1, x.2.2.2.2.2.2.1, x.2.2.2.2.2.2.2.1, x.2.2.2.2.2.2.2.2.1, x.2.2.2.2.2.2.2.2.2.1, x.2.2.2.2.2.2.2.2.2.2.1, x.2.2.2.2.2.2.2.2.2.2.2.1, x.2.2.2.2.2.2.2.2.2.2.2.2.1, x.2.2.2.2.2.2.2.2.2.2.2.2.2.1, x.2.2.2.2.2.2.2.2.2.2.2.2.2.2.1, x.2.2.2.2.2.2.2.2.2.2.2.2.2.2.2.1, x.2.2.2.2.2.2.2.2.2.2.2.2.2.2.2.2.1)
abbrev p7_1 (x : D7) : TSigned := x.2.2.2.2.2.2.2.2.2.2.2.2.2.2.2.2.2
abbrev tys : List (Nat × TI) := [(3, ⟨.int .i64, false, [.val (.int .i64 (0 : Int))], 8, [], (.cons (.int .i64) .nil)⟩),
  (4, ⟨.bool, false, [.val (.bool false)], 1, [], (.cons .bool .nil)⟩),
  (5, ⟨.int .u8, false, [.val (.int .u8 (0 : Int))], 1, [], (.cons (.int .u8) .nil)⟩),
  (9, ⟨.str, false, [.val (.str (⟨#[]⟩ : ByteArray))], 16, [], (.cons .str .nil)⟩),
  (22, ⟨.sl 3, false, [.nil0], 24, [], (.cons (.sl (.cons (.int .i64) .nil)) .nil)⟩),
  (24, ⟨.st, false, [.nil0, .val (.int .i64 (0 : Int))], 32, [(0, 1, false), (1, 1, false)], (.cons (.sl (.cons (.int .i64) .nil)) (.cons (.int .i64) .nil))⟩),
  (26, ⟨.st, false, [.val (.int .i64 (0 : Int)), .val (.int .i64 (0 : Int)), .val (.int .i64 (0 : Int)), .val (.int .i64 (0 : Int)), .val (.int .i64 (0 : Int)), .val (.int .i64 (0 : Int)), .val (.int .i64 (0 : Int)), .val (.int .i64 (0 : Int)), .nil0, .val (.int .i64 (0 : Int)), .nil0, .val (.int .i64 (0 : Int)), .val (.int .i64 (0 : Int)), .nil0, .val (.int .i64 (0 : Int)), .val (.bool false)], 176, [(0, 1, false), (1, 1, false), (2, 1, false), (3, 1, false), (4, 1, false), (5, 1, false), (6, 1, false), (7, 1, false), (8, 2, true), (10, 2, true), (12, 1, false), (13, 2, true), (15, 1, false)], V.eHead⟩),
  (27, ⟨.sl 108, false, [.nil0], 24, [], (.cons (.sl V.eEntry) .nil)⟩),
  (30, ⟨.st, false, [.nil0, .val (.int .i64 (0 : Int))], 32, [(0, 1, false), (1, 1, false)], (.cons (.sl (.cons (.int .i64) .nil)) (.cons (.int .i64) .nil))⟩),
  (32, ⟨.st, false, [.val (.int .i64 (0 : Int)), .val (.int .i64 (0 : Int)), .val (.int .i64 (0 : Int)), .val (.int .i64 (0 : Int)), .val (.int .i64 (0 : Int)), .val (.int .i64 (0 : Int)), .val (.int .i64 (0 : Int)), .val (.int .i64 (0 : Int)), .nil0, .val (.int .i64 (0 : Int)), .nil0, .val (.int .i64 (0 : Int)), .val (.int .i64 (0 : Int)), .nil0, .val (.int .i64 (0 : Int)), .val (.bool false)], 176, [(0, 1, false), (1, 1, false), (2, 1, false), (3, 1, false), (4, 1, false), (5, 1, false), (6, 1, false), (7, 1, false), (8, 2, true), (10, 2, true), (12, 1, false), (13, 2, true), (15, 1, false)], V.eHead⟩),
  (36, ⟨.sl 117, false, [.nil0], 24, [], (.cons (.sl V.eEntry) .nil)⟩),
  (43, ⟨.sl 154, false, [.nil0], 24, [], (.cons (.sl V.eSigned) .nil)⟩),
  (45, ⟨.sl 67, false, [.nil0], 24, [], (.cons (.sl (.cons (.int .i64) (.cons (.int .i64) .nil))) .nil)⟩),
  (47, ⟨.st, false, [.val (.int .i64 (0 : Int)), .val (.int .i64 (0 : Int)), .val (.int .i64 (0 : Int)), .val (.int .i64 (0 : Int)), .val (.int .i64 (0 : Int)), .val (.int .i64 (0 : Int)), .val (.int .i64 (0 : Int)), .val (.int .i64 (0 : Int)), .nil0, .val (.int .i64 (0 : Int)), .nil0, .val (.int .i64 (0 : Int)), .val (.int .i64 (0 : Int)), .nil0, .val (.int .i64 (0 : Int)), .val (.bool false), .nil0], 200, [(0, 16, true), (16, 1, false)], V.eSigned⟩),
  (52, ⟨.sl 47, false, [.nil0], 24, [], (.cons (.sl V.eSigned) .nil)⟩),
  (67, ⟨.st, true, [.val (.int .i64 (0 : Int)), .val (.int .i64 (0 : Int))], 16, [(0, 1, false), (1, 1, false)], (.cons (.int .i64) (.cons (.int .i64) .nil))⟩),
  (76, ⟨.st, false, [.nil0, .nil0], 48, [(0, 1, false), (1, 1, false)], (.cons (.sl V.eSigned) (.cons (.sl V.eEntry) .nil))⟩),
  (80, ⟨.st, false, [.nil0, .nil0], 48, [(0, 1, false), (1, 1, false)], (.cons (.sl V.eSigned) (.cons (.sl V.eEntry) .nil))⟩),
  (93, ⟨.sl 76, false, [.nil0], 24, [], (.cons (.sl (.cons (.sl V.eSigned) (.cons (.sl V.eEntry) .nil))) .nil)⟩),
  (95, ⟨.st, false, [.nil0, .val (.int .i64 (0 : Int))], 32, [(0, 1, false), (1, 1, false)], (.cons (.sl (.cons (.sl V.eSigned) (.cons (.sl V.eEntry) .nil))) (.cons (.int .i64) .nil))⟩),
  (98, ⟨.sl 80, false, [.nil0], 24, [], (.cons (.sl (.cons (.sl V.eSigned) (.cons (.sl V.eEntry) .nil))) .nil)⟩),
  (100, ⟨.st, false, [.nil0, .val (.int .i64 (0 : Int))], 32, [(0, 1, false), (1, 1, false)], (.cons (.sl (.cons (.sl V.eSigned) (.cons (.sl V.eEntry) .nil))) (.cons (.int .i64) .nil))⟩),
  (106, ⟨.sl 9, false, [.nil0], 24, [], (.cons (.sl (.cons .str .nil)) .nil)⟩),
  (108, ⟨.st, false, [.val (.str (⟨#[]⟩ : ByteArray)), .val (.int .i64 (0 : Int)), .val (.int .i64 (0 : Int)), .nil0], 56, [(0, 1, false), (1, 1, false), (2, 1, false), (3, 1, false)], V.eEntry⟩),
  (117, ⟨.st, false, [.val (.str (⟨#[]⟩ : ByteArray)), .val (.int .i64 (0 : Int)), .val (.int .i64 (0 : Int)), .nil0], 56, [(0, 1, false), (1, 1, false), (2, 1, false), (3, 1, false)], V.eEntry⟩),
  (152, ⟨.sl 248, false, [.nil0], 24, [], (.cons (.sl (.cons (.int .i64) (.cons (.int .i64) .nil))) .nil)⟩),
  (154, ⟨.st, false, [.val (.int .i64 (0 : Int)), .val (.int .i64 (0 : Int)), .val (.int .i64 (0 : Int)), .val (.int .i64 (0 : Int)), .val (.int .i64 (0 : Int)), .val (.int .i64 (0 : Int)), .val (.int .i64 (0 : Int)), .val (.int .i64 (0 : Int)), .nil0, .val (.int .i64 (0 : Int)), .nil0, .val (.int .i64 (0 : Int)), .val (.int .i64 (0 : Int)), .nil0, .val (.int .i64 (0 : Int)), .val (.bool false), .nil0], 200, [(0, 16, true), (16, 1, false)], V.eSigned⟩),
  (216, ⟨.sl 5, false, [.nil0], 24, [], (.cons (.sl (.cons (.int .u8) .nil)) .nil)⟩),
  (248, ⟨.st, true, [.val (.int .i64 (0 : Int)), .val (.int .i64 (0 : Int))], 16, [(0, 1, false), (1, 1, false)], (.cons (.int .i64) (.cons (.int .i64) .nil))⟩),
  (261, ⟨.sl 22, false, [.nil0], 24, [], (.cons (.sl (.cons (.sl (.cons (.int .i64) .nil)) .nil)) .nil)⟩)]
theorem tysOk : tyAll Tryz.prog tys = true := by kernel_rfl
theorem mixed : Tryz.prog.follows .mixedOrders = true := by kernel_rfl
theorem cfl {α : Type} {a b c : α} (e : a = b) (h : a = c) : b = c := e.symm.trans h
theorem fo {g : Nat} {fn : Func} {con : Con} {tab : List (Nat × Con)} {heads : List (Nat × List Nat × Cv)} {pre : List (Nat × Nat)} {shallow : List Nat} {movs flts : List (Nat × List Nat)} (h : TabOk Tryz.prog tab) (hf : Tryz.prog.funcs[g]? = some fn) (hq : (!(fn.name == "runtime.NumGoroutine") && (!fn.body.isNone && conOk con fn.ntmps)) = true) (hev : ∀ x y, con.f x = some y → evBody (mkE tys tab heads pre shallow movs flts) con fn x = some y) : Valid Tryz.prog g con := by
  simp only [Bool.and_eq_true, Bool.not_eq_true'] at hq
  exact body_ok (env_ok mixed tysOk h) hf hq.1 hq.2.1 hq.2.2 hev
theorem fo2 {g : Nat} {fn : Func} {con : Con} {tab tab2 : List (Nat × Con)} {sites : List Nat} {heads : List (Nat × List Nat × Cv)} {pre : List (Nat × Nat)} {shallow : List Nat} {movs flts : List (Nat × List Nat)} (h : TabOk Tryz.prog tab) (h2 : TabOk Tryz.prog tab2) (hf : Tryz.prog.funcs[g]? = some fn) (hq : (!(fn.name == "runtime.NumGoroutine") && (!fn.body.isNone && conOk con fn.ntmps)) = true) (hev : ∀ x y, con.f x = some y → evBody (mkE2 tys tab sites tab2 heads pre shallow movs flts) con fn x = some y) : Valid Tryz.prog g con := by
  simp only [Bool.and_eq_true, Bool.not_eq_true'] at hq
  exact body_ok (env_ok2 mixed tysOk h h2) hf hq.1 hq.2.1 hq.2.2 hev
end V
noncomputable abbrev zq103.con : V.Con := ⟨(.cons (.sl (.cons (.int .i64) .nil)) (.cons (.int .i64) .nil)), (.cons (.int .i64) .nil), fun (x : List Int × Int) => zq103 x.1 x.2, [], [(false, 1), (false, 1)], [(false, 1)], [false], []⟩
noncomputable abbrev zq103.E : V.Env := V.mkE V.tys [] [] [] [] [] []
theorem zq103.eq (x0 : List Int) (x1 : Int) : V.evBody zq103.E zq103.con Tryz.f137 ((x0, x1) : List Int × Int) = zq103 x0 x1 := by kernel_rfl
theorem zq103.ok : V.Valid Tryz.prog 137 zq103.con :=
  V.fo V.tab_nil Tryz.func137 (by kernel_rfl) (fun x y h => (show V.evBody zq103.E zq103.con Tryz.f137 x = _ from zq103.eq x.1 x.2).trans (V.cfl (by kernel_rfl) h))
noncomputable abbrev zq104.con : V.Con := ⟨(.cons (.sl (.cons (.int .i64) .nil)) (.cons (.int .i64) (.cons (.int .i64) .nil))), (.cons (.int .i64) .nil), fun (x : List Int × Int × Int) => zq104 (x.1, x.2.1) x.2.2, [], [(true, 2), (false, 1)], [(false, 1)], [false], []⟩
noncomputable abbrev zq104.E : V.Env := V.mkE V.tys [(137, zq103.con)] [] [] [] [] []
theorem zq104.eq (x0 : TKeys) (x1 : Int) : V.evBody zq104.E zq104.con Tryz.f50 ((x0.1, x0.2, x1) : List Int × Int × Int) = zq104 x0 x1 := by kernel_rfl
theorem zq104.ok : V.Valid Tryz.prog 50 zq104.con :=
  V.fo (V.tab_cons zq103.ok V.tab_nil) Tryz.func50 (by kernel_rfl) (fun x y h => (show V.evBody zq104.E zq104.con Tryz.f50 x = _ from zq104.eq (x.1, x.2.1) x.2.2).trans (V.cfl (by kernel_rfl) h))
noncomputable abbrev zq102.con : V.Con := ⟨V.A0, (.cons (.int .i64) .nil), fun (x : V.D0) => zq102 (V.p0_0 x) (V.p0_1 x), [], [(true, 16), (false, 1)], [(false, 1)], [false], []⟩
noncomputable abbrev zq102.E : V.Env := V.mkE V.tys [(50, zq104.con)] [] [] [] [] []
noncomputable abbrev zq102.kt (x0 : THead) (x1 : Int) : V.Kt Int := V.ktOf zq102.E zq102.con Tryz.f15 (V.fl0 x0 x1)
noncomputable abbrev zq102.s (x0 : THead) (x1 : Int) : V.St := ⟨[(0, .v true [.val (.int .i64 x0.1), .val (.int .i64 x0.2.1), .val (.int .i64 x0.2.2.1), .val (.int .i64 x0.2.2.2.1), .val (.int .i64 x0.2.2.2.2.1), .val (.int .i64 x0.2.2.2.2.2.1), .val (.int .i64 x0.2.2.2.2.2.2.1), .val (.int .i64 x0.2.2.2.2.2.2.2.1), .val (.sl (.cons (.int .i64) .nil) x0.2.2.2.2.2.2.2.2.1), .val (.int .i64 x0.2.2.2.2.2.2.2.2.2.1), .val (.sl (.cons (.int .i64) .nil) x0.2.2.2.2.2.2.2.2.2.2.1), .val (.int .i64 x0.2.2.2.2.2.2.2.2.2.2.2.1), .val (.int .i64 x0.2.2.2.2.2.2.2.2.2.2.2.2.1), .val (.sl (.cons (.int .i64) .nil) x0.2.2.2.2.2.2.2.2.2.2.2.2.2.1), .val (.int .i64 x0.2.2.2.2.2.2.2.2.2.2.2.2.2.2.1), .val (.bool x0.2.2.2.2.2.2.2.2.2.2.2.2.2.2.2)]), (1, .v false [.val (.int .i64 x1)])], []⟩
theorem zq102.v0 (x0 : THead) (x1 : Int) : V.evBody zq102.E zq102.con Tryz.f15 (V.fl0 x0 x1) = V.evC zq102.E Tryz.f15.ntmps (V.codeOf Tryz.f15) (zq102.kt x0 x1) (zq102.s x0 x1) := by kernel_rfl
theorem zq102.v (x0 : THead) (x1 : Int) : V.evC zq102.E Tryz.f15.ntmps (V.codeOf Tryz.f15) (zq102.kt x0 x1) (zq102.s x0 x1) = zq102 x0 x1 := by kernel_rfl
theorem zq102.eq (x0 : THead) (x1 : Int) : V.evBody zq102.E zq102.con Tryz.f15 (V.fl0 x0 x1) = zq102 x0 x1 := (zq102.v0 x0 x1).trans (zq102.v x0 x1)
theorem zq102.ok : V.Valid Tryz.prog 15 zq102.con :=
  V.fo (V.tab_cons zq104.ok V.tab_nil) Tryz.func15 (by kernel_rfl) (fun x y h => (show V.evBody zq102.E zq102.con Tryz.f15 x = _ from zq102.eq (V.p0_0 x) (V.p0_1 x)).trans (V.cfl (by kernel_rfl) h))
noncomputable abbrev zq106.con : V.Con := ⟨(.cons (.sl (.cons (.int .i64) (.cons (.int .i64) .nil))) (.cons (.int .i64) .nil)), (.cons (.int .i64) .nil), fun (x : List TSig × Int) => zq106 x.1 x.2, [], [(false, 1), (false, 1)], [(false, 1)], [false], []⟩
noncomputable abbrev zq106.E : V.Env := V.mkE V.tys [] [] [] [] [] []
theorem zq106.eq (x0 : List TSig) (x1 : Int) : V.evBody zq106.E zq106.con Tryz.f202 ((x0, x1) : List TSig × Int) = zq106 x0 x1 := by kernel_rfl
theorem zq106.ok : V.Valid Tryz.prog 202 zq106.con :=
  V.fo V.tab_nil Tryz.func202 (by kernel_rfl) (fun x y h => (show V.evBody zq106.E zq106.con Tryz.f202 x = _ from zq106.eq x.1 x.2).trans (V.cfl (by kernel_rfl) h))
noncomputable abbrev zq107.con : V.Con := ⟨V.A1, (.cons (.int .i64) .nil), fun (x : V.D1) => zq107 (V.p1_0 x) (V.p1_1 x), [], [(true, 17), (false, 1)], [(false, 1)], [false], []⟩
noncomputable abbrev zq107.E : V.Env := V.mkE V.tys [(15, zq102.con), (202, zq106.con)] [] [] [] [] []
noncomputable abbrev zq107.kt (x0 : TSigned) (x1 : Int) : V.Kt Int := V.ktOf zq107.E zq107.con Tryz.f98 (V.fl1 x0 x1)
noncomputable abbrev zq107.s (x0 : TSigned) (x1 : Int) : V.St := ⟨[(0, .v true [.val (.int .i64 x0.1), .val (.int .i64 x0.2.1), .val (.int .i64 x0.2.2.1), .val (.int .i64 x0.2.2.2.1), .val (.int .i64 x0.2.2.2.2.1), .val (.int .i64 x0.2.2.2.2.2.1), .val (.int .i64 x0.2.2.2.2.2.2.1), .val (.int .i64 x0.2.2.2.2.2.2.2.1), .val (.sl (.cons (.int .i64) .nil) x0.2.2.2.2.2.2.2.2.1), .val (.int .i64 x0.2.2.2.2.2.2.2.2.2.1), .val (.sl (.cons (.int .i64) .nil) x0.2.2.2.2.2.2.2.2.2.2.1), .val (.int .i64 x0.2.2.2.2.2.2.2.2.2.2.2.1), .val (.int .i64 x0.2.2.2.2.2.2.2.2.2.2.2.2.1), .val (.sl (.cons (.int .i64) .nil) x0.2.2.2.2.2.2.2.2.2.2.2.2.2.1), .val (.int .i64 x0.2.2.2.2.2.2.2.2.2.2.2.2.2.2.1), .val (.bool x0.2.2.2.2.2.2.2.2.2.2.2.2.2.2.2.1), .val (.sl (.cons (.int .i64) (.cons (.int .i64) .nil)) x0.2.2.2.2.2.2.2.2.2.2.2.2.2.2.2.2)]), (1, .v false [.val (.int .i64 x1)])], []⟩
theorem zq107.v0 (x0 : TSigned) (x1 : Int) : V.evBody zq107.E zq107.con Tryz.f98 (V.fl1 x0 x1) = V.evC zq107.E Tryz.f98.ntmps (V.codeOf Tryz.f98) (zq107.kt x0 x1) (zq107.s x0 x1) := by kernel_rfl
theorem zq107.v (x0 : TSigned) (x1 : Int) : V.evC zq107.E Tryz.f98.ntmps (V.codeOf Tryz.f98) (zq107.kt x0 x1) (zq107.s x0 x1) = zq107 x0 x1 := by kernel_rfl
theorem zq107.eq (x0 : TSigned) (x1 : Int) : V.evBody zq107.E zq107.con Tryz.f98 (V.fl1 x0 x1) = zq107 x0 x1 := (zq107.v0 x0 x1).trans (zq107.v x0 x1)
theorem zq107.ok : V.Valid Tryz.prog 98 zq107.con :=
  V.fo (V.tab_cons zq102.ok (V.tab_cons zq106.ok V.tab_nil)) Tryz.func98 (by kernel_rfl) (fun x y h => (show V.evBody zq107.E zq107.con Tryz.f98 x = _ from zq107.eq (V.p1_0 x) (V.p1_1 x)).trans (V.cfl (by kernel_rfl) h))
noncomputable abbrev zq108.con : V.Con := ⟨(.cons (.sl V.eSigned) (.cons (.int .i64) .nil)), (.cons (.int .i64) .nil), fun (x : List TSigned × Int) => zq108 x.1 x.2, [], [(false, 1), (false, 1)], [(false, 1)], [false], []⟩
noncomputable abbrev zq108.E : V.Env := V.mkE V.tys [(98, zq107.con)] [(10, [0, 1, 5], [])] [] [] [] []
noncomputable abbrev zq108.kt (x0 : List TSigned) (x1 : Int) : V.Kt Int := V.ktOf zq108.E zq108.con Tryz.f26 ((x0, x1) : List TSigned × Int)
noncomputable abbrev zq108.s10 (x0 : List TSigned) (v10_1 : Int) (v10_2 : Int) : V.St := ⟨[(0, .v false [.val (.sl V.eSigned x0)]), (1, .v false [.val (.int .i64 v10_1)]), (5, .v false [.val (.int .i64 v10_2)])], []⟩
theorem zq108.r10 (x0 : List TSigned) (x1 : Int) (R : V.St → Option Int) (v10_1 : Int) (v10_2 : Int) : V.loopF zq108.E Tryz.f26.ntmps [1, 1, 1, 0, 1, 0] [] (V.codeOf Tryz.f26) (zq108.kt x0 x1) R (zq108.s10 x0 v10_1 v10_2) = zq108.g10 x0 (fun v10_1 v10_2 => R (zq108.s10 x0 v10_1 v10_2)) v10_1 v10_2 := by kernel_rfl
theorem zq108.e10 (x0 : List TSigned) (x1 : Int) : ∀ (n : Nat) (v10_1 : Int) (v10_2 : Int), V.loopN (V.loopF zq108.E Tryz.f26.ntmps [1, 1, 1, 0, 1, 0] [] (V.codeOf Tryz.f26) (zq108.kt x0 x1)) n (zq108.s10 x0 v10_1 v10_2) = zq108.l10 x0 n v10_1 v10_2 := by
  intro n
  induction n with
  | zero => intros; rw [V.loopN_z]; rfl
  | succ n ih =>
    intro v10_1 v10_2
    rw [V.loopN_s, zq108.r10]
    simp only [ih]
    first | exact (zq108.u10 ..).symm | rfl
theorem zq108.v (x0 : List TSigned) (x1 : Int) : V.evBody zq108.E zq108.con Tryz.f26 ((x0, x1) : List TSigned × Int) = zq108.b x0 x1 (fun v10_1 v10_2 => V.loopN (V.loopF zq108.E Tryz.f26.ntmps [1, 1, 1, 0, 1, 0] [] (V.codeOf Tryz.f26) (zq108.kt x0 x1)) V.KK (zq108.s10 x0 v10_1 v10_2)) := by kernel_rfl
theorem zq108.eq (x0 : List TSigned) (x1 : Int) : V.evBody zq108.E zq108.con Tryz.f26 ((x0, x1) : List TSigned × Int) = zq108 x0 x1 := by
  rw [zq108.v]
  simp only [zq108.e10]
  rfl
theorem zq108.ok : V.Valid Tryz.prog 26 zq108.con :=
  V.fo (V.tab_cons zq107.ok V.tab_nil) Tryz.func26 (by kernel_rfl) (fun x y h => (show V.evBody zq108.E zq108.con Tryz.f26 x = _ from zq108.eq x.1 x.2).trans (V.cfl (by kernel_rfl) h))
noncomputable abbrev zq109.con : V.Con := ⟨(.cons (.sl (.cons .str .nil)) (.cons (.int .i64) .nil)), (.cons (.int .i64) .nil), fun (x : List ByteArray × Int) => zq109 x.1 x.2, [], [(false, 1), (false, 1)], [(false, 1)], [false], []⟩
noncomputable abbrev zq109.E : V.Env := V.mkE V.tys [] [(10, [0, 1, 5], [])] [] [] [] []
noncomputable abbrev zq109.kt (x0 : List ByteArray) (x1 : Int) : V.Kt Int := V.ktOf zq109.E zq109.con Tryz.f182 ((x0, x1) : List ByteArray × Int)
noncomputable abbrev zq109.s10 (x0 : List ByteArray) (v10_1 : Int) (v10_2 : Int) : V.St := ⟨[(0, .v false [.val (.sl (.cons .str .nil) x0)]), (1, .v false [.val (.int .i64 v10_1)]), (5, .v false [.val (.int .i64 v10_2)])], []⟩
theorem zq109.r10 (x0 : List ByteArray) (x1 : Int) (R : V.St → Option Int) (v10_1 : Int) (v10_2 : Int) : V.loopF zq109.E Tryz.f182.ntmps [1, 1, 1, 0, 1, 0] [] (V.codeOf Tryz.f182) (zq109.kt x0 x1) R (zq109.s10 x0 v10_1 v10_2) = zq109.g10 x0 (fun v10_1 v10_2 => R (zq109.s10 x0 v10_1 v10_2)) v10_1 v10_2 := by kernel_rfl
theorem zq109.e10 (x0 : List ByteArray) (x1 : Int) : ∀ (n : Nat) (v10_1 : Int) (v10_2 : Int), V.loopN (V.loopF zq109.E Tryz.f182.ntmps [1, 1, 1, 0, 1, 0] [] (V.codeOf Tryz.f182) (zq109.kt x0 x1)) n (zq109.s10 x0 v10_1 v10_2) = zq109.l10 x0 n v10_1 v10_2 := by
  intro n
  induction n with
  | zero => intros; rw [V.loopN_z]; rfl
  | succ n ih =>
    intro v10_1 v10_2
    rw [V.loopN_s, zq109.r10]
    simp only [ih]
    first | exact (zq109.u10 ..).symm | rfl
theorem zq109.v (x0 : List ByteArray) (x1 : Int) : V.evBody zq109.E zq109.con Tryz.f182 ((x0, x1) : List ByteArray × Int) = zq109.b x0 x1 (fun v10_1 v10_2 => V.loopN (V.loopF zq109.E Tryz.f182.ntmps [1, 1, 1, 0, 1, 0] [] (V.codeOf Tryz.f182) (zq109.kt x0 x1)) V.KK (zq109.s10 x0 v10_1 v10_2)) := by kernel_rfl
theorem zq109.eq (x0 : List ByteArray) (x1 : Int) : V.evBody zq109.E zq109.con Tryz.f182 ((x0, x1) : List ByteArray × Int) = zq109 x0 x1 := by
  rw [zq109.v]
  simp only [zq109.e10]
  rfl
theorem zq109.ok : V.Valid Tryz.prog 182 zq109.con :=
  V.fo V.tab_nil Tryz.func182 (by kernel_rfl) (fun x y h => (show V.evBody zq109.E zq109.con Tryz.f182 x = _ from zq109.eq x.1 x.2).trans (V.cfl (by kernel_rfl) h))
noncomputable abbrev zq100.con : V.Con := ⟨(.cons .str (.cons (.int .i64) (.cons (.int .i64) (.cons (.sl (.cons .str .nil)) (.cons (.int .i64) .nil))))), (.cons (.int .i64) .nil), fun (x : ByteArray × Int × Int × List ByteArray × Int) => zq100 (x.1, x.2.1, x.2.2.1, x.2.2.2.1) x.2.2.2.2, [], [(true, 4), (false, 1)], [(false, 1)], [false], []⟩
noncomputable abbrev zq100.E : V.Env := V.mkE V.tys [(182, zq109.con)] [] [] [] [] []
theorem zq100.eq (x0 : TEntry) (x1 : Int) : V.evBody zq100.E zq100.con Tryz.f85 ((x0.1, x0.2.1, x0.2.2.1, x0.2.2.2, x1) : ByteArray × Int × Int × List ByteArray × Int) = zq100 x0 x1 := by kernel_rfl
theorem zq100.ok : V.Valid Tryz.prog 85 zq100.con :=
  V.fo (V.tab_cons zq109.ok V.tab_nil) Tryz.func85 (by kernel_rfl) (fun x y h => (show V.evBody zq100.E zq100.con Tryz.f85 x = _ from zq100.eq (x.1, x.2.1, x.2.2.1, x.2.2.2.1) x.2.2.2.2).trans (V.cfl (by kernel_rfl) h))
noncomputable abbrev zq101.con : V.Con := ⟨(.cons (.sl V.eEntry) (.cons (.int .i64) .nil)), (.cons (.int .i64) .nil), fun (x : List TEntry × Int) => zq101 x.1 x.2, [], [(false, 1), (false, 1)], [(false, 1)], [false], []⟩
noncomputable abbrev zq101.E : V.Env := V.mkE V.tys [(85, zq100.con)] [(10, [0, 1, 5], [])] [] [] [] []
noncomputable abbrev zq101.kt (x0 : List TEntry) (x1 : Int) : V.Kt Int := V.ktOf zq101.E zq101.con Tryz.f16 ((x0, x1) : List TEntry × Int)
noncomputable abbrev zq101.s10 (x0 : List TEntry) (v10_1 : Int) (v10_2 : Int) : V.St := ⟨[(0, .v false [.val (.sl V.eEntry x0)]), (1, .v false [.val (.int .i64 v10_1)]), (5, .v false [.val (.int .i64 v10_2)])], []⟩
theorem zq101.r10 (x0 : List TEntry) (x1 : Int) (R : V.St → Option Int) (v10_1 : Int) (v10_2 : Int) : V.loopF zq101.E Tryz.f16.ntmps [1, 1, 1, 0, 1, 0] [] (V.codeOf Tryz.f16) (zq101.kt x0 x1) R (zq101.s10 x0 v10_1 v10_2) = zq101.g10 x0 (fun v10_1 v10_2 => R (zq101.s10 x0 v10_1 v10_2)) v10_1 v10_2 := by kernel_rfl
theorem zq101.e10 (x0 : List TEntry) (x1 : Int) : ∀ (n : Nat) (v10_1 : Int) (v10_2 : Int), V.loopN (V.loopF zq101.E Tryz.f16.ntmps [1, 1, 1, 0, 1, 0] [] (V.codeOf Tryz.f16) (zq101.kt x0 x1)) n (zq101.s10 x0 v10_1 v10_2) = zq101.l10 x0 n v10_1 v10_2 := by
  intro n
  induction n with
  | zero => intros; rw [V.loopN_z]; rfl
  | succ n ih =>
    intro v10_1 v10_2
    rw [V.loopN_s, zq101.r10]
    simp only [ih]
    first | exact (zq101.u10 ..).symm | rfl
theorem zq101.v (x0 : List TEntry) (x1 : Int) : V.evBody zq101.E zq101.con Tryz.f16 ((x0, x1) : List TEntry × Int) = zq101.b x0 x1 (fun v10_1 v10_2 => V.loopN (V.loopF zq101.E Tryz.f16.ntmps [1, 1, 1, 0, 1, 0] [] (V.codeOf Tryz.f16) (zq101.kt x0 x1)) V.KK (zq101.s10 x0 v10_1 v10_2)) := by kernel_rfl
theorem zq101.eq (x0 : List TEntry) (x1 : Int) : V.evBody zq101.E zq101.con Tryz.f16 ((x0, x1) : List TEntry × Int) = zq101 x0 x1 := by
  rw [zq101.v]
  simp only [zq101.e10]
  rfl
theorem zq101.ok : V.Valid Tryz.prog 16 zq101.con :=
  V.fo (V.tab_cons zq100.ok V.tab_nil) Tryz.func16 (by kernel_rfl) (fun x y h => (show V.evBody zq101.E zq101.con Tryz.f16 x = _ from zq101.eq x.1 x.2).trans (V.cfl (by kernel_rfl) h))
noncomputable abbrev zq110.con : V.Con := ⟨(.cons (.sl V.eSigned) (.cons (.sl V.eEntry) (.cons (.int .i64) .nil))), (.cons (.int .i64) .nil), fun (x : List TSigned × List TEntry × Int) => zq110 (x.1, x.2.1) x.2.2, [], [(true, 2), (false, 1)], [(false, 1)], [false], []⟩
noncomputable abbrev zq110.E : V.Env := V.mkE V.tys [(16, zq101.con), (26, zq108.con)] [] [] [] [] []
theorem zq110.eq (x0 : TZone) (x1 : Int) : V.evBody zq110.E zq110.con Tryz.f43 ((x0.1, x0.2, x1) : List TSigned × List TEntry × Int) = zq110 x0 x1 := by kernel_rfl
theorem zq110.ok : V.Valid Tryz.prog 43 zq110.con :=
  V.fo (V.tab_cons zq101.ok (V.tab_cons zq108.ok V.tab_nil)) Tryz.func43 (by kernel_rfl) (fun x y h => (show V.evBody zq110.E zq110.con Tryz.f43 x = _ from zq110.eq (x.1, x.2.1) x.2.2).trans (V.cfl (by kernel_rfl) h))
noncomputable abbrev zq111.con : V.Con := ⟨(.cons (.sl (.cons (.sl V.eSigned) (.cons (.sl V.eEntry) .nil))) (.cons (.int .i64) .nil)), (.cons (.int .i64) .nil), fun (x : List TZone × Int) => zq111 x.1 x.2, [], [(false, 1), (false, 1)], [(false, 1)], [false], []⟩
noncomputable abbrev zq111.E : V.Env := V.mkE V.tys [(43, zq110.con)] [(10, [0, 1, 5], [])] [] [] [] []
noncomputable abbrev zq111.kt (x0 : List TZone) (x1 : Int) : V.Kt Int := V.ktOf zq111.E zq111.con Tryz.f146 ((x0, x1) : List TZone × Int)
noncomputable abbrev zq111.s10 (x0 : List TZone) (v10_1 : Int) (v10_2 : Int) : V.St := ⟨[(0, .v false [.val (.sl (.cons (.sl V.eSigned) (.cons (.sl V.eEntry) .nil)) x0)]), (1, .v false [.val (.int .i64 v10_1)]), (5, .v false [.val (.int .i64 v10_2)])], []⟩
theorem zq111.r10 (x0 : List TZone) (x1 : Int) (R : V.St → Option Int) (v10_1 : Int) (v10_2 : Int) : V.loopF zq111.E Tryz.f146.ntmps [1, 1, 1, 0, 1, 0] [] (V.codeOf Tryz.f146) (zq111.kt x0 x1) R (zq111.s10 x0 v10_1 v10_2) = zq111.g10 x0 (fun v10_1 v10_2 => R (zq111.s10 x0 v10_1 v10_2)) v10_1 v10_2 := by kernel_rfl
theorem zq111.e10 (x0 : List TZone) (x1 : Int) : ∀ (n : Nat) (v10_1 : Int) (v10_2 : Int), V.loopN (V.loopF zq111.E Tryz.f146.ntmps [1, 1, 1, 0, 1, 0] [] (V.codeOf Tryz.f146) (zq111.kt x0 x1)) n (zq111.s10 x0 v10_1 v10_2) = zq111.l10 x0 n v10_1 v10_2 := by
  intro n
  induction n with
  | zero => intros; rw [V.loopN_z]; rfl
  | succ n ih =>
    intro v10_1 v10_2
    rw [V.loopN_s, zq111.r10]
    simp only [ih]
    first | exact (zq111.u10 ..).symm | rfl
theorem zq111.v (x0 : List TZone) (x1 : Int) : V.evBody zq111.E zq111.con Tryz.f146 ((x0, x1) : List TZone × Int) = zq111.b x0 x1 (fun v10_1 v10_2 => V.loopN (V.loopF zq111.E Tryz.f146.ntmps [1, 1, 1, 0, 1, 0] [] (V.codeOf Tryz.f146) (zq111.kt x0 x1)) V.KK (zq111.s10 x0 v10_1 v10_2)) := by kernel_rfl
theorem zq111.eq (x0 : List TZone) (x1 : Int) : V.evBody zq111.E zq111.con Tryz.f146 ((x0, x1) : List TZone × Int) = zq111 x0 x1 := by
  rw [zq111.v]
  simp only [zq111.e10]
  rfl
theorem zq111.ok : V.Valid Tryz.prog 146 zq111.con :=
  V.fo (V.tab_cons zq110.ok V.tab_nil) Tryz.func146 (by kernel_rfl) (fun x y h => (show V.evBody zq111.E zq111.con Tryz.f146 x = _ from zq111.eq x.1 x.2).trans (V.cfl (by kernel_rfl) h))
noncomputable abbrev zq105.con : V.Con := ⟨(.cons (.sl (.cons (.sl V.eSigned) (.cons (.sl V.eEntry) .nil))) (.cons (.int .i64) (.cons (.int .i64) .nil))), (.cons (.int .i64) .nil), fun (x : List TZone × Int × Int) => zq105 (x.1, x.2.1) x.2.2, [], [(true, 2), (false, 1)], [(false, 1)], [false], []⟩
noncomputable abbrev zq105.E : V.Env := V.mkE V.tys [(146, zq111.con)] [] [] [] [] []
theorem zq105.eq (x0 : TServer) (x1 : Int) : V.evBody zq105.E zq105.con Tryz.f58 ((x0.1, x0.2, x1) : List TZone × Int × Int) = zq105 x0 x1 := by kernel_rfl
theorem zq105.ok : V.Valid Tryz.prog 58 zq105.con :=
  V.fo (V.tab_cons zq111.ok V.tab_nil) Tryz.func58 (by kernel_rfl) (fun x y h => (show V.evBody zq105.E zq105.con Tryz.f58 x = _ from zq105.eq (x.1, x.2.1) x.2.2).trans (V.cfl (by kernel_rfl) h))
noncomputable abbrev zq115.con : V.Con := ⟨(.cons (.sl (.cons (.int .i64) .nil)) .nil), (.cons (.sl (.cons (.int .i64) .nil)) .nil), fun (x : List Int) => zq115 x, [], [(false, 1)], [(false, 1)], [true], []⟩
noncomputable abbrev zq115.E : V.Env := V.mkE V.tys [] [(6, [0, 3, 4], [])] [] [] [] []
noncomputable abbrev zq115.kt (x0 : List Int) : V.Kt (List Int) := V.ktOf zq115.E zq115.con Tryz.f77 ((x0) : List Int)
noncomputable abbrev zq115.s6 (x0 : List Int) (v6_1 : Int) (v6_2 : List Int) : V.St := ⟨[(0, .v false [.val (.sl (.cons (.int .i64) .nil) x0)]), (3, .v false [.ref 64000038400192]), (4, .v false [.val (.int .i64 v6_1)])], [(64000038400192, .row (.cons (.int .i64) .nil) true v6_2)]⟩
theorem zq115.r6 (x0 : List Int) (R : V.St → Option (List Int)) (v6_1 : Int) (v6_2 : List Int) : V.loopF zq115.E Tryz.f77.ntmps [1, 1, 0, 1, 0] [] (V.codeOf Tryz.f77) (zq115.kt x0) R (zq115.s6 x0 v6_1 v6_2) = zq115.g6 x0 (fun v6_1 v6_2 => R (zq115.s6 x0 v6_1 v6_2)) v6_1 v6_2 := by kernel_rfl
theorem zq115.e6 (x0 : List Int) : ∀ (n : Nat) (v6_1 : Int) (v6_2 : List Int), V.loopN (V.loopF zq115.E Tryz.f77.ntmps [1, 1, 0, 1, 0] [] (V.codeOf Tryz.f77) (zq115.kt x0)) n (zq115.s6 x0 v6_1 v6_2) = zq115.l6 x0 n v6_1 v6_2 := by
  intro n
  induction n with
  | zero => intros; rw [V.loopN_z]; rfl
  | succ n ih =>
    intro v6_1 v6_2
    rw [V.loopN_s, zq115.r6]
    simp only [ih]
    first | exact (zq115.u6 ..).symm | rfl
theorem zq115.v (x0 : List Int) : V.evBody zq115.E zq115.con Tryz.f77 ((x0) : List Int) = zq115.b x0 (fun v6_1 v6_2 => V.loopN (V.loopF zq115.E Tryz.f77.ntmps [1, 1, 0, 1, 0] [] (V.codeOf Tryz.f77) (zq115.kt x0)) V.KK (zq115.s6 x0 v6_1 v6_2)) := by kernel_rfl
theorem zq115.eq (x0 : List Int) : V.evBody zq115.E zq115.con Tryz.f77 ((x0) : List Int) = zq115 x0 := by
  rw [zq115.v]
  simp only [zq115.e6]
  rfl
theorem zq115.ok : V.Valid Tryz.prog 77 zq115.con :=
  V.fo V.tab_nil Tryz.func77 (by kernel_rfl) (fun x y h => (show V.evBody zq115.E zq115.con Tryz.f77 x = _ from zq115.eq x).trans (V.cfl (by kernel_rfl) h))
noncomputable abbrev zq116.con : V.Con := ⟨(.cons (.sl (.cons (.int .i64) .nil)) (.cons (.int .i64) .nil)), (.cons (.sl (.cons (.int .i64) .nil)) (.cons (.int .i64) .nil)), fun (x : List Int × Int) => zq116 x, [], [(true, 2)], [(true, 2)], [true, false], []⟩
noncomputable abbrev zq116.E : V.Env := V.mkE V.tys [(77, zq115.con)] [] [] [] [] []
theorem zq116.eq (x0 : TKeys) : V.evBody zq116.E zq116.con Tryz.f52 ((x0.1, x0.2) : List Int × Int) = zq116 x0 := by kernel_rfl
theorem zq116.ok : V.Valid Tryz.prog 52 zq116.con :=
  V.fo (V.tab_cons zq115.ok V.tab_nil) Tryz.func52 (by kernel_rfl) (fun x y h => (show V.evBody zq116.E zq116.con Tryz.f52 x = _ from zq116.eq x).trans (V.cfl (by kernel_rfl) h))
noncomputable abbrev zq114.con : V.Con := ⟨V.A2, V.eHead, fun (x : V.D2) => zq114 (V.p2_0 x), [], [(true, 16)], [(true, 16)], [false, false, false, false, false, false, false, false, true, false, true, false, false, true, false, false], []⟩
noncomputable abbrev zq114.E : V.Env := V.mkE V.tys [(52, zq116.con)] [] [] [] [] []
noncomputable abbrev zq114.kt (x0 : THead) : V.Kt THead := V.ktOf zq114.E zq114.con Tryz.f18 (V.fl2 x0)
noncomputable abbrev zq114.s (x0 : THead) : V.St := ⟨[(0, .v true [.val (.int .i64 x0.1), .val (.int .i64 x0.2.1), .val (.int .i64 x0.2.2.1), .val (.int .i64 x0.2.2.2.1), .val (.int .i64 x0.2.2.2.2.1), .val (.int .i64 x0.2.2.2.2.2.1), .val (.int .i64 x0.2.2.2.2.2.2.1), .val (.int .i64 x0.2.2.2.2.2.2.2.1), .val (.sl (.cons (.int .i64) .nil) x0.2.2.2.2.2.2.2.2.1), .val (.int .i64 x0.2.2.2.2.2.2.2.2.2.1), .val (.sl (.cons (.int .i64) .nil) x0.2.2.2.2.2.2.2.2.2.2.1), .val (.int .i64 x0.2.2.2.2.2.2.2.2.2.2.2.1), .val (.int .i64 x0.2.2.2.2.2.2.2.2.2.2.2.2.1), .val (.sl (.cons (.int .i64) .nil) x0.2.2.2.2.2.2.2.2.2.2.2.2.2.1), .val (.int .i64 x0.2.2.2.2.2.2.2.2.2.2.2.2.2.2.1), .val (.bool x0.2.2.2.2.2.2.2.2.2.2.2.2.2.2.2)])], []⟩
theorem zq114.v0 (x0 : THead) : V.evBody zq114.E zq114.con Tryz.f18 (V.fl2 x0) = V.evC zq114.E Tryz.f18.ntmps (V.codeOf Tryz.f18) (zq114.kt x0) (zq114.s x0) := by kernel_rfl
theorem zq114.v (x0 : THead) : V.evC zq114.E Tryz.f18.ntmps (V.codeOf Tryz.f18) (zq114.kt x0) (zq114.s x0) = zq114 x0 := by kernel_rfl
theorem zq114.eq (x0 : THead) : V.evBody zq114.E zq114.con Tryz.f18 (V.fl2 x0) = zq114 x0 := (zq114.v0 x0).trans (zq114.v x0)
theorem zq114.ok : V.Valid Tryz.prog 18 zq114.con :=
  V.fo (V.tab_cons zq116.ok V.tab_nil) Tryz.func18 (by kernel_rfl) (fun x y h => (show V.evBody zq114.E zq114.con Tryz.f18 x = _ from zq114.eq (V.p2_0 x)).trans (V.cfl (by kernel_rfl) h))
noncomputable abbrev zq118.con : V.Con := ⟨(.cons (.int .i64) (.cons (.int .i64) .nil)), (.cons (.int .i64) (.cons (.int .i64) .nil)), fun (x : Int × Int) => zq118 x, [], [(true, 2)], [(true, 2)], [false, false], []⟩
noncomputable abbrev zq118.E : V.Env := V.mkE V.tys [] [] [] [] [] []
theorem zq118.eq (x0 : TSig) : V.evBody zq118.E zq118.con Tryz.f267 ((x0.1, x0.2) : Int × Int) = zq118 x0 := by kernel_rfl
theorem zq118.ok : V.Valid Tryz.prog 267 zq118.con :=
  V.fo V.tab_nil Tryz.func267 (by kernel_rfl) (fun x y h => (show V.evBody zq118.E zq118.con Tryz.f267 x = _ from zq118.eq x).trans (V.cfl (by kernel_rfl) h))
noncomputable abbrev zq119.con : V.Con := ⟨(.cons (.sl (.cons (.int .i64) (.cons (.int .i64) .nil))) .nil), (.cons (.sl (.cons (.int .i64) (.cons (.int .i64) .nil))) .nil), fun (x : List TSig) => zq119 x, [], [(false, 1)], [(false, 1)], [true], []⟩
noncomputable abbrev zq119.E : V.Env := V.mkE V.tys [(267, zq118.con)] [(6, [0, 3, 4], [])] [] [] [] []
noncomputable abbrev zq119.kt (x0 : List TSig) : V.Kt (List TSig) := V.ktOf zq119.E zq119.con Tryz.f206 ((x0) : List TSig)
noncomputable abbrev zq119.s6 (x0 : List TSig) (v6_1 : Int) (v6_2 : List TSig) : V.St := ⟨[(0, .v false [.val (.sl (.cons (.int .i64) (.cons (.int .i64) .nil)) x0)]), (3, .v false [.ref 64000038400192]), (4, .v false [.val (.int .i64 v6_1)])], [(64000038400192, .row (.cons (.int .i64) (.cons (.int .i64) .nil)) true v6_2)]⟩
theorem zq119.r6 (x0 : List TSig) (R : V.St → Option (List TSig)) (v6_1 : Int) (v6_2 : List TSig) : V.loopF zq119.E Tryz.f206.ntmps [1, 1, 0, 1, 0] [] (V.codeOf Tryz.f206) (zq119.kt x0) R (zq119.s6 x0 v6_1 v6_2) = zq119.g6 x0 (fun v6_1 v6_2 => R (zq119.s6 x0 v6_1 v6_2)) v6_1 v6_2 := by kernel_rfl
theorem zq119.e6 (x0 : List TSig) : ∀ (n : Nat) (v6_1 : Int) (v6_2 : List TSig), V.loopN (V.loopF zq119.E Tryz.f206.ntmps [1, 1, 0, 1, 0] [] (V.codeOf Tryz.f206) (zq119.kt x0)) n (zq119.s6 x0 v6_1 v6_2) = zq119.l6 x0 n v6_1 v6_2 := by
  intro n
  induction n with
  | zero => intros; rw [V.loopN_z]; rfl
  | succ n ih =>
    intro v6_1 v6_2
    rw [V.loopN_s, zq119.r6]
    simp only [ih]
    first | exact (zq119.u6 ..).symm | rfl
theorem zq119.v (x0 : List TSig) : V.evBody zq119.E zq119.con Tryz.f206 ((x0) : List TSig) = zq119.b x0 (fun v6_1 v6_2 => V.loopN (V.loopF zq119.E Tryz.f206.ntmps [1, 1, 0, 1, 0] [] (V.codeOf Tryz.f206) (zq119.kt x0)) V.KK (zq119.s6 x0 v6_1 v6_2)) := by kernel_rfl
theorem zq119.eq (x0 : List TSig) : V.evBody zq119.E zq119.con Tryz.f206 ((x0) : List TSig) = zq119 x0 := by
  rw [zq119.v]
  simp only [zq119.e6]
  rfl
theorem zq119.ok : V.Valid Tryz.prog 206 zq119.con :=
  V.fo (V.tab_cons zq118.ok V.tab_nil) Tryz.func206 (by kernel_rfl) (fun x y h => (show V.evBody zq119.E zq119.con Tryz.f206 x = _ from zq119.eq x).trans (V.cfl (by kernel_rfl) h))
noncomputable abbrev zq120.con : V.Con := ⟨V.A3, V.eSigned, fun (x : V.D3) => zq120 (V.p3_0 x), [], [(true, 17)], [(true, 17)], [false, false, false, false, false, false, false, false, true, false, true, false, false, true, false, false, true], []⟩
noncomputable abbrev zq120.E : V.Env := V.mkE V.tys [(18, zq114.con), (206, zq119.con)] [] [] [] [] []
noncomputable abbrev zq120.kt (x0 : TSigned) : V.Kt TSigned := V.ktOf zq120.E zq120.con Tryz.f103 (V.fl3 x0)
noncomputable abbrev zq120.s (x0 : TSigned) : V.St := ⟨[(0, .v true [.val (.int .i64 x0.1), .val (.int .i64 x0.2.1), .val (.int .i64 x0.2.2.1), .val (.int .i64 x0.2.2.2.1), .val (.int .i64 x0.2.2.2.2.1), .val (.int .i64 x0.2.2.2.2.2.1), .val (.int .i64 x0.2.2.2.2.2.2.1), .val (.int .i64 x0.2.2.2.2.2.2.2.1), .val (.sl (.cons (.int .i64) .nil) x0.2.2.2.2.2.2.2.2.1), .val (.int .i64 x0.2.2.2.2.2.2.2.2.2.1), .val (.sl (.cons (.int .i64) .nil) x0.2.2.2.2.2.2.2.2.2.2.1), .val (.int .i64 x0.2.2.2.2.2.2.2.2.2.2.2.1), .val (.int .i64 x0.2.2.2.2.2.2.2.2.2.2.2.2.1), .val (.sl (.cons (.int .i64) .nil) x0.2.2.2.2.2.2.2.2.2.2.2.2.2.1), .val (.int .i64 x0.2.2.2.2.2.2.2.2.2.2.2.2.2.2.1), .val (.bool x0.2.2.2.2.2.2.2.2.2.2.2.2.2.2.2.1), .val (.sl (.cons (.int .i64) (.cons (.int .i64) .nil)) x0.2.2.2.2.2.2.2.2.2.2.2.2.2.2.2.2)])], []⟩
theorem zq120.v0 (x0 : TSigned) : V.evBody zq120.E zq120.con Tryz.f103 (V.fl3 x0) = V.evC zq120.E Tryz.f103.ntmps (V.codeOf Tryz.f103) (zq120.kt x0) (zq120.s x0) := by kernel_rfl
theorem zq120.v (x0 : TSigned) : V.evC zq120.E Tryz.f103.ntmps (V.codeOf Tryz.f103) (zq120.kt x0) (zq120.s x0) = zq120 x0 := by kernel_rfl
theorem zq120.eq (x0 : TSigned) : V.evBody zq120.E zq120.con Tryz.f103 (V.fl3 x0) = zq120 x0 := (zq120.v0 x0).trans (zq120.v x0)
theorem zq120.ok : V.Valid Tryz.prog 103 zq120.con :=
  V.fo (V.tab_cons zq114.ok (V.tab_cons zq119.ok V.tab_nil)) Tryz.func103 (by kernel_rfl) (fun x y h => (show V.evBody zq120.E zq120.con Tryz.f103 x = _ from zq120.eq (V.p3_0 x)).trans (V.cfl (by kernel_rfl) h))
noncomputable abbrev zq121.con : V.Con := ⟨(.cons (.sl V.eSigned) .nil), (.cons (.sl V.eSigned) .nil), fun (x : List TSigned) => zq121 x, [], [(false, 1)], [(false, 1)], [true], []⟩
noncomputable abbrev zq121.E : V.Env := V.mkE V.tys [(103, zq120.con)] [(6, [0, 3, 4], [])] [] [] [] []
noncomputable abbrev zq121.kt (x0 : List TSigned) : V.Kt (List TSigned) := V.ktOf zq121.E zq121.con Tryz.f28 ((x0) : List TSigned)
noncomputable abbrev zq121.s6 (x0 : List TSigned) (v6_1 : Int) (v6_2 : List TSigned) : V.St := ⟨[(0, .v false [.val (.sl V.eSigned x0)]), (3, .v false [.ref 64000038400192]), (4, .v false [.val (.int .i64 v6_1)])], [(64000038400192, .row V.eSigned true v6_2)]⟩
theorem zq121.r6 (x0 : List TSigned) (R : V.St → Option (List TSigned)) (v6_1 : Int) (v6_2 : List TSigned) : V.loopF zq121.E Tryz.f28.ntmps [1, 1, 0, 1, 0] [] (V.codeOf Tryz.f28) (zq121.kt x0) R (zq121.s6 x0 v6_1 v6_2) = zq121.g6 x0 (fun v6_1 v6_2 => R (zq121.s6 x0 v6_1 v6_2)) v6_1 v6_2 := by kernel_rfl
theorem zq121.e6 (x0 : List TSigned) : ∀ (n : Nat) (v6_1 : Int) (v6_2 : List TSigned), V.loopN (V.loopF zq121.E Tryz.f28.ntmps [1, 1, 0, 1, 0] [] (V.codeOf Tryz.f28) (zq121.kt x0)) n (zq121.s6 x0 v6_1 v6_2) = zq121.l6 x0 n v6_1 v6_2 := by
  intro n
  induction n with
  | zero => intros; rw [V.loopN_z]; rfl
  | succ n ih =>
    intro v6_1 v6_2
    rw [V.loopN_s, zq121.r6]
    simp only [ih]
    first | exact (zq121.u6 ..).symm | rfl
theorem zq121.v (x0 : List TSigned) : V.evBody zq121.E zq121.con Tryz.f28 ((x0) : List TSigned) = zq121.b x0 (fun v6_1 v6_2 => V.loopN (V.loopF zq121.E Tryz.f28.ntmps [1, 1, 0, 1, 0] [] (V.codeOf Tryz.f28) (zq121.kt x0)) V.KK (zq121.s6 x0 v6_1 v6_2)) := by kernel_rfl
theorem zq121.eq (x0 : List TSigned) : V.evBody zq121.E zq121.con Tryz.f28 ((x0) : List TSigned) = zq121 x0 := by
  rw [zq121.v]
  simp only [zq121.e6]
  rfl
theorem zq121.ok : V.Valid Tryz.prog 28 zq121.con :=
  V.fo (V.tab_cons zq120.ok V.tab_nil) Tryz.func28 (by kernel_rfl) (fun x y h => (show V.evBody zq121.E zq121.con Tryz.f28 x = _ from zq121.eq x).trans (V.cfl (by kernel_rfl) h))
noncomputable abbrev zq122.con : V.Con := ⟨(.cons (.sl (.cons .str .nil)) .nil), (.cons (.sl (.cons .str .nil)) .nil), fun (x : List ByteArray) => zq122 x, [], [(false, 1)], [(false, 1)], [true], []⟩
noncomputable abbrev zq122.E : V.Env := V.mkE V.tys [] [(6, [0, 3, 4], [])] [] [] [] []
noncomputable abbrev zq122.kt (x0 : List ByteArray) : V.Kt (List ByteArray) := V.ktOf zq122.E zq122.con Tryz.f191 ((x0) : List ByteArray)
noncomputable abbrev zq122.s6 (x0 : List ByteArray) (v6_1 : Int) (v6_2 : List ByteArray) : V.St := ⟨[(0, .v false [.val (.sl (.cons .str .nil) x0)]), (3, .v false [.ref 64000038400192]), (4, .v false [.val (.int .i64 v6_1)])], [(64000038400192, .row (.cons .str .nil) true v6_2)]⟩
theorem zq122.r6 (x0 : List ByteArray) (R : V.St → Option (List ByteArray)) (v6_1 : Int) (v6_2 : List ByteArray) : V.loopF zq122.E Tryz.f191.ntmps [1, 1, 0, 1, 0] [] (V.codeOf Tryz.f191) (zq122.kt x0) R (zq122.s6 x0 v6_1 v6_2) = zq122.g6 x0 (fun v6_1 v6_2 => R (zq122.s6 x0 v6_1 v6_2)) v6_1 v6_2 := by kernel_rfl
theorem zq122.e6 (x0 : List ByteArray) : ∀ (n : Nat) (v6_1 : Int) (v6_2 : List ByteArray), V.loopN (V.loopF zq122.E Tryz.f191.ntmps [1, 1, 0, 1, 0] [] (V.codeOf Tryz.f191) (zq122.kt x0)) n (zq122.s6 x0 v6_1 v6_2) = zq122.l6 x0 n v6_1 v6_2 := by
  intro n
  induction n with
  | zero => intros; rw [V.loopN_z]; rfl
  | succ n ih =>
    intro v6_1 v6_2
    rw [V.loopN_s, zq122.r6]
    simp only [ih]
    first | exact (zq122.u6 ..).symm | rfl
theorem zq122.v (x0 : List ByteArray) : V.evBody zq122.E zq122.con Tryz.f191 ((x0) : List ByteArray) = zq122.b x0 (fun v6_1 v6_2 => V.loopN (V.loopF zq122.E Tryz.f191.ntmps [1, 1, 0, 1, 0] [] (V.codeOf Tryz.f191) (zq122.kt x0)) V.KK (zq122.s6 x0 v6_1 v6_2)) := by kernel_rfl
theorem zq122.eq (x0 : List ByteArray) : V.evBody zq122.E zq122.con Tryz.f191 ((x0) : List ByteArray) = zq122 x0 := by
  rw [zq122.v]
  simp only [zq122.e6]
  rfl
theorem zq122.ok : V.Valid Tryz.prog 191 zq122.con :=
  V.fo V.tab_nil Tryz.func191 (by kernel_rfl) (fun x y h => (show V.evBody zq122.E zq122.con Tryz.f191 x = _ from zq122.eq x).trans (V.cfl (by kernel_rfl) h))
noncomputable abbrev zq112.con : V.Con := ⟨V.eEntry, V.eEntry, fun (x : ByteArray × Int × Int × List ByteArray) => zq112 x, [], [(true, 4)], [(true, 4)], [false, false, false, true], []⟩
noncomputable abbrev zq112.E : V.Env := V.mkE V.tys [(191, zq122.con)] [] [] [] [] []
theorem zq112.eq (x0 : TEntry) : V.evBody zq112.E zq112.con Tryz.f90 ((x0.1, x0.2.1, x0.2.2.1, x0.2.2.2) : ByteArray × Int × Int × List ByteArray) = zq112 x0 := by kernel_rfl
theorem zq112.ok : V.Valid Tryz.prog 90 zq112.con :=
  V.fo (V.tab_cons zq122.ok V.tab_nil) Tryz.func90 (by kernel_rfl) (fun x y h => (show V.evBody zq112.E zq112.con Tryz.f90 x = _ from zq112.eq x).trans (V.cfl (by kernel_rfl) h))
noncomputable abbrev zq113.con : V.Con := ⟨(.cons (.sl V.eEntry) .nil), (.cons (.sl V.eEntry) .nil), fun (x : List TEntry) => zq113 x, [], [(false, 1)], [(false, 1)], [true], []⟩
noncomputable abbrev zq113.E : V.Env := V.mkE V.tys [(90, zq112.con)] [(6, [0, 3, 4], [])] [] [] [] []
noncomputable abbrev zq113.kt (x0 : List TEntry) : V.Kt (List TEntry) := V.ktOf zq113.E zq113.con Tryz.f19 ((x0) : List TEntry)
noncomputable abbrev zq113.s6 (x0 : List TEntry) (v6_1 : Int) (v6_2 : List TEntry) : V.St := ⟨[(0, .v false [.val (.sl V.eEntry x0)]), (3, .v false [.ref 64000038400192]), (4, .v false [.val (.int .i64 v6_1)])], [(64000038400192, .row V.eEntry true v6_2)]⟩
theorem zq113.r6 (x0 : List TEntry) (R : V.St → Option (List TEntry)) (v6_1 : Int) (v6_2 : List TEntry) : V.loopF zq113.E Tryz.f19.ntmps [1, 1, 0, 1, 0] [] (V.codeOf Tryz.f19) (zq113.kt x0) R (zq113.s6 x0 v6_1 v6_2) = zq113.g6 x0 (fun v6_1 v6_2 => R (zq113.s6 x0 v6_1 v6_2)) v6_1 v6_2 := by kernel_rfl
theorem zq113.e6 (x0 : List TEntry) : ∀ (n : Nat) (v6_1 : Int) (v6_2 : List TEntry), V.loopN (V.loopF zq113.E Tryz.f19.ntmps [1, 1, 0, 1, 0] [] (V.codeOf Tryz.f19) (zq113.kt x0)) n (zq113.s6 x0 v6_1 v6_2) = zq113.l6 x0 n v6_1 v6_2 := by
  intro n
  induction n with
  | zero => intros; rw [V.loopN_z]; rfl
  | succ n ih =>
    intro v6_1 v6_2
    rw [V.loopN_s, zq113.r6]
    simp only [ih]
    first | exact (zq113.u6 ..).symm | rfl
theorem zq113.v (x0 : List TEntry) : V.evBody zq113.E zq113.con Tryz.f19 ((x0) : List TEntry) = zq113.b x0 (fun v6_1 v6_2 => V.loopN (V.loopF zq113.E Tryz.f19.ntmps [1, 1, 0, 1, 0] [] (V.codeOf Tryz.f19) (zq113.kt x0)) V.KK (zq113.s6 x0 v6_1 v6_2)) := by kernel_rfl
theorem zq113.eq (x0 : List TEntry) : V.evBody zq113.E zq113.con Tryz.f19 ((x0) : List TEntry) = zq113 x0 := by
  rw [zq113.v]
  simp only [zq113.e6]
  rfl
theorem zq113.ok : V.Valid Tryz.prog 19 zq113.con :=
  V.fo (V.tab_cons zq112.ok V.tab_nil) Tryz.func19 (by kernel_rfl) (fun x y h => (show V.evBody zq113.E zq113.con Tryz.f19 x = _ from zq113.eq x).trans (V.cfl (by kernel_rfl) h))
noncomputable abbrev zq123.con : V.Con := ⟨(.cons (.sl V.eSigned) (.cons (.sl V.eEntry) .nil)), (.cons (.sl V.eSigned) (.cons (.sl V.eEntry) .nil)), fun (x : List TSigned × List TEntry) => zq123 x, [], [(true, 2)], [(true, 2)], [true, true], []⟩
noncomputable abbrev zq123.E : V.Env := V.mkE V.tys [(19, zq113.con), (28, zq121.con)] [] [] [] [] []
theorem zq123.eq (x0 : TZone) : V.evBody zq123.E zq123.con Tryz.f45 ((x0.1, x0.2) : List TSigned × List TEntry) = zq123 x0 := by kernel_rfl
theorem zq123.ok : V.Valid Tryz.prog 45 zq123.con :=
  V.fo (V.tab_cons zq113.ok (V.tab_cons zq121.ok V.tab_nil)) Tryz.func45 (by kernel_rfl) (fun x y h => (show V.evBody zq123.E zq123.con Tryz.f45 x = _ from zq123.eq x).trans (V.cfl (by kernel_rfl) h))
noncomputable abbrev zq124.con : V.Con := ⟨(.cons (.sl (.cons (.sl V.eSigned) (.cons (.sl V.eEntry) .nil))) .nil), (.cons (.sl (.cons (.sl V.eSigned) (.cons (.sl V.eEntry) .nil))) .nil), fun (x : List TZone) => zq124 x, [], [(false, 1)], [(false, 1)], [true], []⟩
noncomputable abbrev zq124.E : V.Env := V.mkE V.tys [(45, zq123.con)] [(6, [0, 3, 4], [])] [] [] [] []
noncomputable abbrev zq124.kt (x0 : List TZone) : V.Kt (List TZone) := V.ktOf zq124.E zq124.con Tryz.f148 ((x0) : List TZone)
noncomputable abbrev zq124.s6 (x0 : List TZone) (v6_1 : Int) (v6_2 : List TZone) : V.St := ⟨[(0, .v false [.val (.sl (.cons (.sl V.eSigned) (.cons (.sl V.eEntry) .nil)) x0)]), (3, .v false [.ref 64000038400192]), (4, .v false [.val (.int .i64 v6_1)])], [(64000038400192, .row (.cons (.sl V.eSigned) (.cons (.sl V.eEntry) .nil)) true v6_2)]⟩
theorem zq124.r6 (x0 : List TZone) (R : V.St → Option (List TZone)) (v6_1 : Int) (v6_2 : List TZone) : V.loopF zq124.E Tryz.f148.ntmps [1, 1, 0, 1, 0] [] (V.codeOf Tryz.f148) (zq124.kt x0) R (zq124.s6 x0 v6_1 v6_2) = zq124.g6 x0 (fun v6_1 v6_2 => R (zq124.s6 x0 v6_1 v6_2)) v6_1 v6_2 := by kernel_rfl
theorem zq124.e6 (x0 : List TZone) : ∀ (n : Nat) (v6_1 : Int) (v6_2 : List TZone), V.loopN (V.loopF zq124.E Tryz.f148.ntmps [1, 1, 0, 1, 0] [] (V.codeOf Tryz.f148) (zq124.kt x0)) n (zq124.s6 x0 v6_1 v6_2) = zq124.l6 x0 n v6_1 v6_2 := by
  intro n
  induction n with
  | zero => intros; rw [V.loopN_z]; rfl
  | succ n ih =>
    intro v6_1 v6_2
    rw [V.loopN_s, zq124.r6]
    simp only [ih]
    first | exact (zq124.u6 ..).symm | rfl
theorem zq124.v (x0 : List TZone) : V.evBody zq124.E zq124.con Tryz.f148 ((x0) : List TZone) = zq124.b x0 (fun v6_1 v6_2 => V.loopN (V.loopF zq124.E Tryz.f148.ntmps [1, 1, 0, 1, 0] [] (V.codeOf Tryz.f148) (zq124.kt x0)) V.KK (zq124.s6 x0 v6_1 v6_2)) := by kernel_rfl
theorem zq124.eq (x0 : List TZone) : V.evBody zq124.E zq124.con Tryz.f148 ((x0) : List TZone) = zq124 x0 := by
  rw [zq124.v]
  simp only [zq124.e6]
  rfl
theorem zq124.ok : V.Valid Tryz.prog 148 zq124.con :=
  V.fo (V.tab_cons zq123.ok V.tab_nil) Tryz.func148 (by kernel_rfl) (fun x y h => (show V.evBody zq124.E zq124.con Tryz.f148 x = _ from zq124.eq x).trans (V.cfl (by kernel_rfl) h))
noncomputable abbrev zq117.con : V.Con := ⟨(.cons (.sl (.cons (.sl V.eSigned) (.cons (.sl V.eEntry) .nil))) (.cons (.int .i64) .nil)), (.cons (.sl (.cons (.sl V.eSigned) (.cons (.sl V.eEntry) .nil))) (.cons (.int .i64) .nil)), fun (x : List TZone × Int) => zq117 x, [], [(true, 2)], [(true, 2)], [true, false], []⟩
noncomputable abbrev zq117.E : V.Env := V.mkE V.tys [(148, zq124.con)] [] [] [] [] []
theorem zq117.eq (x0 : TServer) : V.evBody zq117.E zq117.con Tryz.f60 ((x0.1, x0.2) : List TZone × Int) = zq117 x0 := by kernel_rfl
theorem zq117.ok : V.Valid Tryz.prog 60 zq117.con :=
  V.fo (V.tab_cons zq124.ok V.tab_nil) Tryz.func60 (by kernel_rfl) (fun x y h => (show V.evBody zq117.E zq117.con Tryz.f60 x = _ from zq117.eq x).trans (V.cfl (by kernel_rfl) h))
noncomputable abbrev zq192.con : V.Con := ⟨(.cons (.sl (.cons (.int .i64) .nil)) (.cons (.int .i64) .nil)), (.cons (.sl (.cons (.int .i64) .nil)) (.cons (.int .i64) .nil)), fun (x : List Int × Int) => zq192 x, [], [(true, 2)], [(true, 2)], [true, false], []⟩
noncomputable abbrev zq192.E : V.Env := V.mkE V.tys [] [] [(1, 6)] [] [] []
theorem zq192.eq (x0 : TKeys) : V.evBody zq192.E zq192.con Tryz.f225 ((x0.1, x0.2) : List Int × Int) = zq192 x0 := by kernel_rfl
theorem zq192.ok : V.Valid Tryz.prog 225 zq192.con :=
  V.fo V.tab_nil Tryz.func225 (by kernel_rfl) (fun x y h => (show V.evBody zq192.E zq192.con Tryz.f225 x = _ from zq192.eq x).trans (V.cfl (by kernel_rfl) h))
noncomputable abbrev zq182.con : V.Con := ⟨V.A2, V.eHead, fun (x : V.D2) => zq182 (V.p2_0 x), [], [(true, 16)], [(true, 16)], [false, false, false, false, false, false, false, false, true, false, true, false, false, true, false, false], []⟩
noncomputable abbrev zq182.E : V.Env := V.mkE V.tys [(225, zq192.con)] [] [] [] [] []
noncomputable abbrev zq182.kt (x0 : THead) : V.Kt THead := V.ktOf zq182.E zq182.con Tryz.f184 (V.fl2 x0)
noncomputable abbrev zq182.s (x0 : THead) : V.St := ⟨[(0, .v true [.val (.int .i64 x0.1), .val (.int .i64 x0.2.1), .val (.int .i64 x0.2.2.1), .val (.int .i64 x0.2.2.2.1), .val (.int .i64 x0.2.2.2.2.1), .val (.int .i64 x0.2.2.2.2.2.1), .val (.int .i64 x0.2.2.2.2.2.2.1), .val (.int .i64 x0.2.2.2.2.2.2.2.1), .val (.sl (.cons (.int .i64) .nil) x0.2.2.2.2.2.2.2.2.1), .val (.int .i64 x0.2.2.2.2.2.2.2.2.2.1), .val (.sl (.cons (.int .i64) .nil) x0.2.2.2.2.2.2.2.2.2.2.1), .val (.int .i64 x0.2.2.2.2.2.2.2.2.2.2.2.1), .val (.int .i64 x0.2.2.2.2.2.2.2.2.2.2.2.2.1), .val (.sl (.cons (.int .i64) .nil) x0.2.2.2.2.2.2.2.2.2.2.2.2.2.1), .val (.int .i64 x0.2.2.2.2.2.2.2.2.2.2.2.2.2.2.1), .val (.bool x0.2.2.2.2.2.2.2.2.2.2.2.2.2.2.2)])], []⟩
theorem zq182.v0 (x0 : THead) : V.evBody zq182.E zq182.con Tryz.f184 (V.fl2 x0) = V.evC zq182.E Tryz.f184.ntmps (V.codeOf Tryz.f184) (zq182.kt x0) (zq182.s x0) := by kernel_rfl
theorem zq182.v (x0 : THead) : V.evC zq182.E Tryz.f184.ntmps (V.codeOf Tryz.f184) (zq182.kt x0) (zq182.s x0) = zq182 x0 := by kernel_rfl
theorem zq182.eq (x0 : THead) : V.evBody zq182.E zq182.con Tryz.f184 (V.fl2 x0) = zq182 x0 := (zq182.v0 x0).trans (zq182.v x0)
theorem zq182.ok : V.Valid Tryz.prog 184 zq182.con :=
  V.fo (V.tab_cons zq192.ok V.tab_nil) Tryz.func184 (by kernel_rfl) (fun x y h => (show V.evBody zq182.E zq182.con Tryz.f184 x = _ from zq182.eq (V.p2_0 x)).trans (V.cfl (by kernel_rfl) h))
noncomputable abbrev zq183.con : V.Con := ⟨V.A3, V.eSigned, fun (x : V.D3) => zq183 (V.p3_0 x), [], [(true, 17)], [(true, 17)], [false, false, false, false, false, false, false, false, true, false, true, false, false, true, false, false, true], []⟩
noncomputable abbrev zq183.E : V.Env := V.mkE V.tys [(184, zq182.con)] [] [(1, 6)] [] [] []
noncomputable abbrev zq183.kt (x0 : TSigned) : V.Kt TSigned := V.ktOf zq183.E zq183.con Tryz.f102 (V.fl3 x0)
noncomputable abbrev zq183.s (x0 : TSigned) : V.St := ⟨[(0, .v true [.val (.int .i64 x0.1), .val (.int .i64 x0.2.1), .val (.int .i64 x0.2.2.1), .val (.int .i64 x0.2.2.2.1), .val (.int .i64 x0.2.2.2.2.1), .val (.int .i64 x0.2.2.2.2.2.1), .val (.int .i64 x0.2.2.2.2.2.2.1), .val (.int .i64 x0.2.2.2.2.2.2.2.1), .val (.sl (.cons (.int .i64) .nil) x0.2.2.2.2.2.2.2.2.1), .val (.int .i64 x0.2.2.2.2.2.2.2.2.2.1), .val (.sl (.cons (.int .i64) .nil) x0.2.2.2.2.2.2.2.2.2.2.1), .val (.int .i64 x0.2.2.2.2.2.2.2.2.2.2.2.1), .val (.int .i64 x0.2.2.2.2.2.2.2.2.2.2.2.2.1), .val (.sl (.cons (.int .i64) .nil) x0.2.2.2.2.2.2.2.2.2.2.2.2.2.1), .val (.int .i64 x0.2.2.2.2.2.2.2.2.2.2.2.2.2.2.1), .val (.bool x0.2.2.2.2.2.2.2.2.2.2.2.2.2.2.2.1), .val (.sl (.cons (.int .i64) (.cons (.int .i64) .nil)) x0.2.2.2.2.2.2.2.2.2.2.2.2.2.2.2.2)])], []⟩
theorem zq183.v0 (x0 : TSigned) : V.evBody zq183.E zq183.con Tryz.f102 (V.fl3 x0) = V.evC zq183.E Tryz.f102.ntmps (V.codeOf Tryz.f102) (zq183.kt x0) (zq183.s x0) := by kernel_rfl
theorem zq183.v (x0 : TSigned) : V.evC zq183.E Tryz.f102.ntmps (V.codeOf Tryz.f102) (zq183.kt x0) (zq183.s x0) = zq183 x0 := by kernel_rfl
theorem zq183.eq (x0 : TSigned) : V.evBody zq183.E zq183.con Tryz.f102 (V.fl3 x0) = zq183 x0 := (zq183.v0 x0).trans (zq183.v x0)
theorem zq183.ok : V.Valid Tryz.prog 102 zq183.con :=
  V.fo (V.tab_cons zq182.ok V.tab_nil) Tryz.func102 (by kernel_rfl) (fun x y h => (show V.evBody zq183.E zq183.con Tryz.f102 x = _ from zq183.eq (V.p3_0 x)).trans (V.cfl (by kernel_rfl) h))
noncomputable abbrev zq187.con : V.Con := ⟨(.cons (.sl V.eSigned) .nil), (.cons (.sl V.eSigned) .nil), fun (x : List TSigned) => zq187 x, [], [(false, 1)], [(false, 1)], [true], []⟩
noncomputable abbrev zq187.E : V.Env := V.mkE V.tys [(102, zq183.con)] [(6, [0, 3, 4], [(64000038400192, V.eSigned, true)])] [] [] [] []
noncomputable abbrev zq187.kt (x0 : List TSigned) : V.Kt (List TSigned) := V.ktOf zq187.E zq187.con Tryz.f241 ((x0) : List TSigned)
noncomputable abbrev zq187.s6 (x0 : List TSigned) (v6_1 : Int) (v6_2 : List TSigned) : V.St := ⟨[(0, .v false [.val (.sl V.eSigned x0)]), (3, .v false [.ref 64000038400192]), (4, .v false [.val (.int .i64 v6_1)])], [(64000038400192, .row V.eSigned true v6_2)]⟩
theorem zq187.r6 (x0 : List TSigned) (R : V.St → Option (List TSigned)) (v6_1 : Int) (v6_2 : List TSigned) : V.loopF zq187.E Tryz.f241.ntmps [1, 1, 0, 1, 0] [] (V.codeOf Tryz.f241) (zq187.kt x0) R (zq187.s6 x0 v6_1 v6_2) = zq187.g6 x0 (fun v6_1 v6_2 => R (zq187.s6 x0 v6_1 v6_2)) v6_1 v6_2 := by kernel_rfl
theorem zq187.e6 (x0 : List TSigned) : ∀ (n : Nat) (v6_1 : Int) (v6_2 : List TSigned), V.loopN (V.loopF zq187.E Tryz.f241.ntmps [1, 1, 0, 1, 0] [] (V.codeOf Tryz.f241) (zq187.kt x0)) n (zq187.s6 x0 v6_1 v6_2) = zq187.l6 x0 n v6_1 v6_2 := by
  intro n
  induction n with
  | zero => intros; rw [V.loopN_z]; rfl
  | succ n ih =>
    intro v6_1 v6_2
    rw [V.loopN_s, zq187.r6]
    simp only [ih]
    first | exact (zq187.u6 ..).symm | rfl
theorem zq187.v (x0 : List TSigned) : V.evBody zq187.E zq187.con Tryz.f241 ((x0) : List TSigned) = zq187.b x0 (fun v6_1 v6_2 => V.loopN (V.loopF zq187.E Tryz.f241.ntmps [1, 1, 0, 1, 0] [] (V.codeOf Tryz.f241) (zq187.kt x0)) V.KK (zq187.s6 x0 v6_1 v6_2)) := by kernel_rfl
theorem zq187.eq (x0 : List TSigned) : V.evBody zq187.E zq187.con Tryz.f241 ((x0) : List TSigned) = zq187 x0 := by
  rw [zq187.v]
  simp only [zq187.e6]
  rfl
theorem zq187.ok : V.Valid Tryz.prog 241 zq187.con :=
  V.fo (V.tab_cons zq183.ok V.tab_nil) Tryz.func241 (by kernel_rfl) (fun x y h => (show V.evBody zq187.E zq187.con Tryz.f241 x = _ from zq187.eq x).trans (V.cfl (by kernel_rfl) h))
noncomputable abbrev zq191.con : V.Con := ⟨(.cons (.sl (.cons .str .nil)) .nil), (.cons (.sl (.cons .str .nil)) .nil), fun (x : List ByteArray) => zq191 x, [], [(false, 1)], [(false, 1)], [true], []⟩
noncomputable abbrev zq191.E : V.Env := V.mkE V.tys [] [] [] [] [] []
theorem zq191.eq (x0 : List ByteArray) : V.evBody zq191.E zq191.con Tryz.f239 ((x0) : List ByteArray) = zq191 x0 := by kernel_rfl
theorem zq191.ok : V.Valid Tryz.prog 239 zq191.con :=
  V.fo V.tab_nil Tryz.func239 (by kernel_rfl) (fun x y h => (show V.evBody zq191.E zq191.con Tryz.f239 x = _ from zq191.eq x).trans (V.cfl (by kernel_rfl) h))
noncomputable abbrev zq193.con : V.Con := ⟨V.eEntry, V.eEntry, fun (x : ByteArray × Int × Int × List ByteArray) => zq193 x, [], [(true, 4)], [(true, 4)], [false, false, false, true], []⟩
noncomputable abbrev zq193.E : V.Env := V.mkE V.tys [(239, zq191.con)] [] [(1, 9)] [] [] []
theorem zq193.eq (x0 : TEntry) : V.evBody zq193.E zq193.con Tryz.f166 ((x0.1, x0.2.1, x0.2.2.1, x0.2.2.2) : ByteArray × Int × Int × List ByteArray) = zq193 x0 := by kernel_rfl
theorem zq193.ok : V.Valid Tryz.prog 166 zq193.con :=
  V.fo (V.tab_cons zq191.ok V.tab_nil) Tryz.func166 (by kernel_rfl) (fun x y h => (show V.evBody zq193.E zq193.con Tryz.f166 x = _ from zq193.eq x).trans (V.cfl (by kernel_rfl) h))
noncomputable abbrev zq194.con : V.Con := ⟨(.cons (.sl V.eEntry) .nil), (.cons (.sl V.eEntry) .nil), fun (x : List TEntry) => zq194 x, [], [(false, 1)], [(false, 1)], [true], []⟩
noncomputable abbrev zq194.E : V.Env := V.mkE V.tys [(166, zq193.con)] [(6, [0, 3, 4], [(64000038400192, V.eEntry, true)])] [] [] [] []
noncomputable abbrev zq194.kt (x0 : List TEntry) : V.Kt (List TEntry) := V.ktOf zq194.E zq194.con Tryz.f140 ((x0) : List TEntry)
noncomputable abbrev zq194.s6 (x0 : List TEntry) (v6_1 : Int) (v6_2 : List TEntry) : V.St := ⟨[(0, .v false [.val (.sl V.eEntry x0)]), (3, .v false [.ref 64000038400192]), (4, .v false [.val (.int .i64 v6_1)])], [(64000038400192, .row V.eEntry true v6_2)]⟩
theorem zq194.r6 (x0 : List TEntry) (R : V.St → Option (List TEntry)) (v6_1 : Int) (v6_2 : List TEntry) : V.loopF zq194.E Tryz.f140.ntmps [1, 1, 0, 1, 0] [] (V.codeOf Tryz.f140) (zq194.kt x0) R (zq194.s6 x0 v6_1 v6_2) = zq194.g6 x0 (fun v6_1 v6_2 => R (zq194.s6 x0 v6_1 v6_2)) v6_1 v6_2 := by kernel_rfl
theorem zq194.e6 (x0 : List TEntry) : ∀ (n : Nat) (v6_1 : Int) (v6_2 : List TEntry), V.loopN (V.loopF zq194.E Tryz.f140.ntmps [1, 1, 0, 1, 0] [] (V.codeOf Tryz.f140) (zq194.kt x0)) n (zq194.s6 x0 v6_1 v6_2) = zq194.l6 x0 n v6_1 v6_2 := by
  intro n
  induction n with
  | zero => intros; rw [V.loopN_z]; rfl
  | succ n ih =>
    intro v6_1 v6_2
    rw [V.loopN_s, zq194.r6]
    simp only [ih]
    first | exact (zq194.u6 ..).symm | rfl
theorem zq194.v (x0 : List TEntry) : V.evBody zq194.E zq194.con Tryz.f140 ((x0) : List TEntry) = zq194.b x0 (fun v6_1 v6_2 => V.loopN (V.loopF zq194.E Tryz.f140.ntmps [1, 1, 0, 1, 0] [] (V.codeOf Tryz.f140) (zq194.kt x0)) V.KK (zq194.s6 x0 v6_1 v6_2)) := by kernel_rfl
theorem zq194.eq (x0 : List TEntry) : V.evBody zq194.E zq194.con Tryz.f140 ((x0) : List TEntry) = zq194 x0 := by
  rw [zq194.v]
  simp only [zq194.e6]
  rfl
theorem zq194.ok : V.Valid Tryz.prog 140 zq194.con :=
  V.fo (V.tab_cons zq193.ok V.tab_nil) Tryz.func140 (by kernel_rfl) (fun x y h => (show V.evBody zq194.E zq194.con Tryz.f140 x = _ from zq194.eq x).trans (V.cfl (by kernel_rfl) h))
noncomputable abbrev zq189.con : V.Con := ⟨(.cons (.sl V.eSigned) (.cons (.sl V.eEntry) .nil)), (.cons (.sl V.eSigned) (.cons (.sl V.eEntry) .nil)), fun (x : List TSigned × List TEntry) => zq189 x, [], [(true, 2)], [(true, 2)], [true, true], []⟩
noncomputable abbrev zq189.E : V.Env := V.mkE V.tys [(140, zq194.con), (241, zq187.con)] [] [(1, 5)] [] [] []
theorem zq189.eq (x0 : TZone) : V.evBody zq189.E zq189.con Tryz.f172 ((x0.1, x0.2) : List TSigned × List TEntry) = zq189 x0 := by kernel_rfl
theorem zq189.ok : V.Valid Tryz.prog 172 zq189.con :=
  V.fo (V.tab_cons zq194.ok (V.tab_cons zq187.ok V.tab_nil)) Tryz.func172 (by kernel_rfl) (fun x y h => (show V.evBody zq189.E zq189.con Tryz.f172 x = _ from zq189.eq x).trans (V.cfl (by kernel_rfl) h))
noncomputable abbrev zq190.con : V.Con := ⟨(.cons (.sl (.cons (.sl V.eSigned) (.cons (.sl V.eEntry) .nil))) (.cons (.int .i64) .nil)), (.cons (.sl (.cons (.sl V.eSigned) (.cons (.sl V.eEntry) .nil))) (.cons (.int .i64) .nil)), fun (x : List TZone × Int) => zq190 x, [], [(true, 2)], [(true, 2)], [true, false], []⟩
noncomputable abbrev zq190.E : V.Env := V.mkE V.tys [(172, zq189.con)] [(6, [1, 2, 3, 4], [(64000000000008204288, (.cons (.sl V.eSigned) (.cons (.sl V.eEntry) .nil)), true)])] [(5, 8)] [] [] [(5, [0, 1])]
noncomputable abbrev zq190.kt (x0 : TServer) : V.Kt TServer := V.ktOf zq190.E zq190.con Tryz.f178 ((x0.1, x0.2) : List TZone × Int)
noncomputable abbrev zq190.s6 (x0 : TServer) (v6_0 : Int) (v6_5 : List TZone) : V.St := ⟨[(1, .v false [.ptr 64000 0]), (2, .v false [.ptr 64064 0]), (3, .v false [.ptr 128192 0]), (4, .v false [.val (.int .i64 v6_0)])], [(64000, .box [.val (.sl (.cons (.sl V.eSigned) (.cons (.sl V.eEntry) .nil)) x0.1), .val (.int .i64 x0.2)]), (64064, .box [.nil0, .val (.int .i64 (0 : Int))]), (128192, .box [.ref 64000000000008204288, .val (.int .i64 x0.2)]), (64000000000008204288, .row (.cons (.sl V.eSigned) (.cons (.sl V.eEntry) .nil)) true v6_5)]⟩
theorem zq190.r6 (x0 : TServer) (R : V.St → Option TServer) (v6_0 : Int) (v6_5 : List TZone) : V.loopF zq190.E Tryz.f178.ntmps [1, 1, 0, 1, 0] [] (V.codeOf Tryz.f178) (zq190.kt x0) R (zq190.s6 x0 v6_0 v6_5) = zq190.g6 x0 (fun v6_0 v6_5 => R (zq190.s6 x0 v6_0 v6_5)) v6_0 v6_5 := by kernel_rfl
theorem zq190.e6 (x0 : TServer) : ∀ (n : Nat) (v6_0 : Int) (v6_5 : List TZone), V.loopN (V.loopF zq190.E Tryz.f178.ntmps [1, 1, 0, 1, 0] [] (V.codeOf Tryz.f178) (zq190.kt x0)) n (zq190.s6 x0 v6_0 v6_5) = zq190.l6 x0 n v6_0 v6_5 := by
  intro n
  induction n with
  | zero => intros; rw [V.loopN_z]; rfl
  | succ n ih =>
    intro v6_0 v6_5
    rw [V.loopN_s, zq190.r6]
    simp only [ih]
    first | exact (zq190.u6 ..).symm | rfl
theorem zq190.v (x0 : TServer) : V.evBody zq190.E zq190.con Tryz.f178 ((x0.1, x0.2) : List TZone × Int) = zq190.b x0 (fun v6_0 v6_5 => V.loopN (V.loopF zq190.E Tryz.f178.ntmps [1, 1, 0, 1, 0] [] (V.codeOf Tryz.f178) (zq190.kt x0)) V.KK (zq190.s6 x0 v6_0 v6_5)) := by kernel_rfl
theorem zq190.eq (x0 : TServer) : V.evBody zq190.E zq190.con Tryz.f178 ((x0.1, x0.2) : List TZone × Int) = zq190 x0 := by
  rw [zq190.v]
  simp only [zq190.e6]
  rfl
theorem zq190.ok : V.Valid Tryz.prog 178 zq190.con :=
  V.fo (V.tab_cons zq189.ok V.tab_nil) Tryz.func178 (by kernel_rfl) (fun x y h => (show V.evBody zq190.E zq190.con Tryz.f178 x = _ from zq190.eq x).trans (V.cfl (by kernel_rfl) h))
noncomputable abbrev zq188.con : V.Con := ⟨(.cons (.int .i64) (.cons (.int .i64) (.cons (.int .i64) .nil))), (.cons .bool .nil), fun (x : Int × Int × Int) => zq188 x.1 x.2.1 x.2.2, [], [(false, 1), (false, 1), (false, 1)], [(false, 1)], [false], []⟩
noncomputable abbrev zq188.E : V.Env := V.mkE V.tys [] [] [] [] [] []
theorem zq188.eq (x0 : Int) (x1 : Int) (x2 : Int) : V.evBody zq188.E zq188.con Tryz.f147 ((x0, x1, x2) : Int × Int × Int) = zq188 x0 x1 x2 := by kernel_rfl
theorem zq188.ok : V.Valid Tryz.prog 147 zq188.con :=
  V.fo V.tab_nil Tryz.func147 (by kernel_rfl) (fun x y h => (show V.evBody zq188.E zq188.con Tryz.f147 x = _ from zq188.eq x.1 x.2.1 x.2.2).trans (V.cfl (by kernel_rfl) h))
noncomputable abbrev zq154.con : V.Con := ⟨(.cons (.sl (.cons (.int .i64) .nil)) (.cons (.int .i64) .nil)), (.cons .bool .nil), fun (x : List Int × Int) => zq154 x, [], [(true, 2)], [(false, 1)], [false], []⟩
noncomputable abbrev zq154.E : V.Env := V.mkE V.tys [(147, zq188.con)] [(4, [1, 3], [])] [(4, 22)] [] [] []
noncomputable abbrev zq154.kt (x0 : TKeys) : V.Kt Bool := V.ktOf zq154.E zq154.con Tryz.f245 ((x0.1, x0.2) : List Int × Int)
noncomputable abbrev zq154.s4 (x0 : TKeys) (v4_0 : Int) : V.St := ⟨[(1, .v false [.ptr 64000 0]), (3, .v false [.val (.int .i64 v4_0)])], [(64000, .box [.val (.sl (.cons (.int .i64) .nil) x0.1), .val (.int .i64 x0.2)])]⟩
theorem zq154.r4 (x0 : TKeys) (R : V.St → Option Bool) (v4_0 : Int) : V.loopF zq154.E Tryz.f245.ntmps [1, 0, 1, 0] [] (V.codeOf Tryz.f245) (zq154.kt x0) R (zq154.s4 x0 v4_0) = zq154.g4 x0 (fun v4_0 => R (zq154.s4 x0 v4_0)) v4_0 := by kernel_rfl
theorem zq154.e4 (x0 : TKeys) : ∀ (n : Nat) (v4_0 : Int), V.loopN (V.loopF zq154.E Tryz.f245.ntmps [1, 0, 1, 0] [] (V.codeOf Tryz.f245) (zq154.kt x0)) n (zq154.s4 x0 v4_0) = zq154.l4 x0 n v4_0 := by
  intro n
  induction n with
  | zero => intros; rw [V.loopN_z]; rfl
  | succ n ih =>
    intro v4_0
    rw [V.loopN_s, zq154.r4]
    simp only [ih]
    first | exact (zq154.u4 ..).symm | rfl
theorem zq154.v (x0 : TKeys) : V.evBody zq154.E zq154.con Tryz.f245 ((x0.1, x0.2) : List Int × Int) = zq154.b x0 (fun v4_0 => V.loopN (V.loopF zq154.E Tryz.f245.ntmps [1, 0, 1, 0] [] (V.codeOf Tryz.f245) (zq154.kt x0)) V.KK (zq154.s4 x0 v4_0)) := by kernel_rfl
theorem zq154.eq (x0 : TKeys) : V.evBody zq154.E zq154.con Tryz.f245 ((x0.1, x0.2) : List Int × Int) = zq154 x0 := by
  rw [zq154.v]
  simp only [zq154.e4]
  rfl
theorem zq154.ok : V.Valid Tryz.prog 245 zq154.con :=
  V.fo (V.tab_cons zq188.ok V.tab_nil) Tryz.func245 (by kernel_rfl) (fun x y h => (show V.evBody zq154.E zq154.con Tryz.f245 x = _ from zq154.eq x).trans (V.cfl (by kernel_rfl) h))
noncomputable abbrev zq170.con : V.Con := ⟨(.cons (.sl (.cons (.int .i64) .nil)) (.cons (.int .i64) .nil)), (.cons .bool .nil), fun (x : List Int × Int) => zq170 x, [], [(true, 2)], [(false, 1)], [false], []⟩
noncomputable abbrev zq170.E : V.Env := V.mkE V.tys [] [] [] [] [] []
theorem zq170.eq (x0 : TKeys) : V.evBody zq170.E zq170.con Tryz.f246 ((x0.1, x0.2) : List Int × Int) = zq170 x0 := by kernel_rfl
theorem zq170.ok : V.Valid Tryz.prog 246 zq170.con :=
  V.fo V.tab_nil Tryz.func246 (by kernel_rfl) (fun x y h => (show V.evBody zq170.E zq170.con Tryz.f246 x = _ from zq170.eq x).trans (V.cfl (by kernel_rfl) h))
noncomputable abbrev zq153.con : V.Con := ⟨V.A2, (.cons .bool .nil), fun (x : V.D2) => zq153 (V.p2_0 x), [], [(true, 16)], [(false, 1)], [false], []⟩
noncomputable abbrev zq153.E : V.Env := V.mkE V.tys [(147, zq188.con), (245, zq154.con), (246, zq170.con)] [(7, [1], []), (11, [1], []), (21, [1], [])] [] [] [] []
noncomputable abbrev zq153.kt (x0 : THead) : V.Kt Bool := V.ktOf zq153.E zq153.con Tryz.f183 (V.fl2 x0)
noncomputable abbrev zq153.s21 (x0 : THead) : V.St := ⟨[(1, .v false [.ptr 64000 0])], [(64000, .box [.val (.int .i64 x0.1), .val (.int .i64 x0.2.1), .val (.int .i64 x0.2.2.1), .val (.int .i64 x0.2.2.2.1), .val (.int .i64 x0.2.2.2.2.1), .val (.int .i64 x0.2.2.2.2.2.1), .val (.int .i64 x0.2.2.2.2.2.2.1), .val (.int .i64 x0.2.2.2.2.2.2.2.1), .val (.sl (.cons (.int .i64) .nil) x0.2.2.2.2.2.2.2.2.1), .val (.int .i64 x0.2.2.2.2.2.2.2.2.2.1), .val (.sl (.cons (.int .i64) .nil) x0.2.2.2.2.2.2.2.2.2.2.1), .val (.int .i64 x0.2.2.2.2.2.2.2.2.2.2.2.1), .val (.int .i64 x0.2.2.2.2.2.2.2.2.2.2.2.2.1), .val (.sl (.cons (.int .i64) .nil) x0.2.2.2.2.2.2.2.2.2.2.2.2.2.1), .val (.int .i64 x0.2.2.2.2.2.2.2.2.2.2.2.2.2.2.1), .val (.bool x0.2.2.2.2.2.2.2.2.2.2.2.2.2.2.2)])]⟩
noncomputable abbrev zq153.s11 (x0 : THead) : V.St := ⟨[(1, .v false [.ptr 64000 0])], [(64000, .box [.val (.int .i64 x0.1), .val (.int .i64 x0.2.1), .val (.int .i64 x0.2.2.1), .val (.int .i64 x0.2.2.2.1), .val (.int .i64 x0.2.2.2.2.1), .val (.int .i64 x0.2.2.2.2.2.1), .val (.int .i64 x0.2.2.2.2.2.2.1), .val (.int .i64 x0.2.2.2.2.2.2.2.1), .val (.sl (.cons (.int .i64) .nil) x0.2.2.2.2.2.2.2.2.1), .val (.int .i64 x0.2.2.2.2.2.2.2.2.2.1), .val (.sl (.cons (.int .i64) .nil) x0.2.2.2.2.2.2.2.2.2.2.1), .val (.int .i64 x0.2.2.2.2.2.2.2.2.2.2.2.1), .val (.int .i64 x0.2.2.2.2.2.2.2.2.2.2.2.2.1), .val (.sl (.cons (.int .i64) .nil) x0.2.2.2.2.2.2.2.2.2.2.2.2.2.1), .val (.int .i64 x0.2.2.2.2.2.2.2.2.2.2.2.2.2.2.1), .val (.bool x0.2.2.2.2.2.2.2.2.2.2.2.2.2.2.2)])]⟩
noncomputable abbrev zq153.s7 (x0 : THead) : V.St := ⟨[(1, .v false [.ptr 64000 0])], [(64000, .box [.val (.int .i64 x0.1), .val (.int .i64 x0.2.1), .val (.int .i64 x0.2.2.1), .val (.int .i64 x0.2.2.2.1), .val (.int .i64 x0.2.2.2.2.1), .val (.int .i64 x0.2.2.2.2.2.1), .val (.int .i64 x0.2.2.2.2.2.2.1), .val (.int .i64 x0.2.2.2.2.2.2.2.1), .val (.sl (.cons (.int .i64) .nil) x0.2.2.2.2.2.2.2.2.1), .val (.int .i64 x0.2.2.2.2.2.2.2.2.2.1), .val (.sl (.cons (.int .i64) .nil) x0.2.2.2.2.2.2.2.2.2.2.1), .val (.int .i64 x0.2.2.2.2.2.2.2.2.2.2.2.1), .val (.int .i64 x0.2.2.2.2.2.2.2.2.2.2.2.2.1), .val (.sl (.cons (.int .i64) .nil) x0.2.2.2.2.2.2.2.2.2.2.2.2.2.1), .val (.int .i64 x0.2.2.2.2.2.2.2.2.2.2.2.2.2.2.1), .val (.bool x0.2.2.2.2.2.2.2.2.2.2.2.2.2.2.2)])]⟩
theorem zq153.r21 (x0 : THead) : V.joinF zq153.E Tryz.f183.ntmps [1, 1, 1] [] (V.codeOf Tryz.f183) (zq153.kt x0) (zq153.s21 x0) = zq153.g21 x0 := by kernel_rfl
theorem zq153.e21 (x0 : THead) : V.jn (V.joinF zq153.E Tryz.f183.ntmps [1, 1, 1] [] (V.codeOf Tryz.f183) (zq153.kt x0)) (zq153.s21 x0) = zq153.l21 x0 := by
  rw [V.jn_eq, zq153.r21]
  rfl
theorem zq153.r11 (x0 : THead) : V.joinF zq153.E Tryz.f183.ntmps [1, 1] [] (V.codeOf Tryz.f183) (zq153.kt x0) (zq153.s11 x0) = zq153.g11 x0 (V.jn (V.joinF zq153.E Tryz.f183.ntmps [1, 1, 1] [] (V.codeOf Tryz.f183) (zq153.kt x0)) (zq153.s21 x0)) := by kernel_rfl
theorem zq153.e11 (x0 : THead) : V.jn (V.joinF zq153.E Tryz.f183.ntmps [1, 1] [] (V.codeOf Tryz.f183) (zq153.kt x0)) (zq153.s11 x0) = zq153.l11 x0 := by
  rw [V.jn_eq, zq153.r11]
  simp only [zq153.e21]
  rfl
theorem zq153.r7 (x0 : THead) : V.joinF zq153.E Tryz.f183.ntmps [1] [] (V.codeOf Tryz.f183) (zq153.kt x0) (zq153.s7 x0) = zq153.g7 x0 (V.jn (V.joinF zq153.E Tryz.f183.ntmps [1, 1] [] (V.codeOf Tryz.f183) (zq153.kt x0)) (zq153.s11 x0)) := by kernel_rfl
theorem zq153.e7 (x0 : THead) : V.jn (V.joinF zq153.E Tryz.f183.ntmps [1] [] (V.codeOf Tryz.f183) (zq153.kt x0)) (zq153.s7 x0) = zq153.l7 x0 := by
  rw [V.jn_eq, zq153.r7]
  simp only [zq153.e11]
  rfl
noncomputable abbrev zq153.s (x0 : THead) : V.St := ⟨[(0, .v true [.val (.int .i64 x0.1), .val (.int .i64 x0.2.1), .val (.int .i64 x0.2.2.1), .val (.int .i64 x0.2.2.2.1), .val (.int .i64 x0.2.2.2.2.1), .val (.int .i64 x0.2.2.2.2.2.1), .val (.int .i64 x0.2.2.2.2.2.2.1), .val (.int .i64 x0.2.2.2.2.2.2.2.1), .val (.sl (.cons (.int .i64) .nil) x0.2.2.2.2.2.2.2.2.1), .val (.int .i64 x0.2.2.2.2.2.2.2.2.2.1), .val (.sl (.cons (.int .i64) .nil) x0.2.2.2.2.2.2.2.2.2.2.1), .val (.int .i64 x0.2.2.2.2.2.2.2.2.2.2.2.1), .val (.int .i64 x0.2.2.2.2.2.2.2.2.2.2.2.2.1), .val (.sl (.cons (.int .i64) .nil) x0.2.2.2.2.2.2.2.2.2.2.2.2.2.1), .val (.int .i64 x0.2.2.2.2.2.2.2.2.2.2.2.2.2.2.1), .val (.bool x0.2.2.2.2.2.2.2.2.2.2.2.2.2.2.2)])], []⟩
theorem zq153.v0 (x0 : THead) : V.evBody zq153.E zq153.con Tryz.f183 (V.fl2 x0) = V.evC zq153.E Tryz.f183.ntmps (V.codeOf Tryz.f183) (zq153.kt x0) (zq153.s x0) := by kernel_rfl
theorem zq153.v (x0 : THead) : V.evC zq153.E Tryz.f183.ntmps (V.codeOf Tryz.f183) (zq153.kt x0) (zq153.s x0) = zq153.b x0 (V.jn (V.joinF zq153.E Tryz.f183.ntmps [1] [] (V.codeOf Tryz.f183) (zq153.kt x0)) (zq153.s7 x0)) := by kernel_rfl
theorem zq153.eq (x0 : THead) : V.evBody zq153.E zq153.con Tryz.f183 (V.fl2 x0) = zq153 x0 := by
  rw [zq153.v0, zq153.v]
  simp only [zq153.e7]
  rfl
theorem zq153.ok : V.Valid Tryz.prog 183 zq153.con :=
  V.fo (V.tab_cons zq188.ok (V.tab_cons zq154.ok (V.tab_cons zq170.ok V.tab_nil))) Tryz.func183 (by kernel_rfl) (fun x y h => (show V.evBody zq153.E zq153.con Tryz.f183 x = _ from zq153.eq (V.p2_0 x)).trans (V.cfl (by kernel_rfl) h))
noncomputable abbrev zq162.con : V.Con := ⟨(.cons (.sl (.cons (.int .i64) .nil)) (.cons (.int .i64) .nil)), (.cons (.sl (.cons (.int .i64) .nil)) .nil), fun (x : List Int × Int) => zq162 x, [], [(true, 2)], [(false, 1)], [true], []⟩
noncomputable abbrev zq162.E : V.Env := V.mkE V.tys [] [] [] [] [] []
theorem zq162.eq (x0 : TKeys) : V.evBody zq162.E zq162.con Tryz.f266 ((x0.1, x0.2) : List Int × Int) = zq162 x0 := by kernel_rfl
theorem zq162.ok : V.Valid Tryz.prog 266 zq162.con :=
  V.fo V.tab_nil Tryz.func266 (by kernel_rfl) (fun x y h => (show V.evBody zq162.E zq162.con Tryz.f266 x = _ from zq162.eq x).trans (V.cfl (by kernel_rfl) h))
noncomputable abbrev zq168.con : V.Con := ⟨(.cons (.int .i64) (.cons (.int .i64) .nil)), (.cons (.int .i64) .nil), fun (x : Int × Int) => zq168 x.1 x.2, [], [(false, 1), (false, 1)], [(false, 1)], [false], []⟩
noncomputable abbrev zq168.E : V.Env := V.mkE V.tys [(147, zq188.con)] [] [] [] [] []
theorem zq168.eq (x0 : Int) (x1 : Int) : V.evBody zq168.E zq168.con Tryz.f292 ((x0, x1) : Int × Int) = zq168 x0 x1 := by kernel_rfl
theorem zq168.ok : V.Valid Tryz.prog 292 zq168.con :=
  V.fo (V.tab_cons zq188.ok V.tab_nil) Tryz.func292 (by kernel_rfl) (fun x y h => (show V.evBody zq168.E zq168.con Tryz.f292 x = _ from zq168.eq x.1 x.2).trans (V.cfl (by kernel_rfl) h))
noncomputable abbrev zq147.con : V.Con := ⟨(.cons (.sl (.cons (.int .i64) .nil)) .nil), (.cons (.int .i64) .nil), fun (x : List Int) => zq147 x, [], [(false, 1)], [(false, 1)], [false], []⟩
noncomputable abbrev zq147.E : V.Env := V.mkE V.tys [(292, zq168.con)] [(6, [0, 3, 4], [])] [] [] [] []
noncomputable abbrev zq147.kt (x0 : List Int) : V.Kt Int := V.ktOf zq147.E zq147.con Tryz.f247 ((x0) : List Int)
noncomputable abbrev zq147.s6 (x0 : List Int) (v6_1 : Int) (v6_2 : Int) : V.St := ⟨[(0, .v false [.val (.sl (.cons (.int .i64) .nil) x0)]), (3, .v false [.val (.int .i64 v6_1)]), (4, .v false [.val (.int .i64 v6_2)])], []⟩
theorem zq147.r6 (x0 : List Int) (R : V.St → Option Int) (v6_1 : Int) (v6_2 : Int) : V.loopF zq147.E Tryz.f247.ntmps [1, 1, 0, 1, 0] [] (V.codeOf Tryz.f247) (zq147.kt x0) R (zq147.s6 x0 v6_1 v6_2) = zq147.g6 x0 (fun v6_1 v6_2 => R (zq147.s6 x0 v6_1 v6_2)) v6_1 v6_2 := by kernel_rfl
theorem zq147.e6 (x0 : List Int) : ∀ (n : Nat) (v6_1 : Int) (v6_2 : Int), V.loopN (V.loopF zq147.E Tryz.f247.ntmps [1, 1, 0, 1, 0] [] (V.codeOf Tryz.f247) (zq147.kt x0)) n (zq147.s6 x0 v6_1 v6_2) = zq147.l6 x0 n v6_1 v6_2 := by
  intro n
  induction n with
  | zero => intros; rw [V.loopN_z]; rfl
  | succ n ih =>
    intro v6_1 v6_2
    rw [V.loopN_s, zq147.r6]
    simp only [ih]
    first | exact (zq147.u6 ..).symm | rfl
theorem zq147.v (x0 : List Int) : V.evBody zq147.E zq147.con Tryz.f247 ((x0) : List Int) = zq147.b x0 (fun v6_1 v6_2 => V.loopN (V.loopF zq147.E Tryz.f247.ntmps [1, 1, 0, 1, 0] [] (V.codeOf Tryz.f247) (zq147.kt x0)) V.KK (zq147.s6 x0 v6_1 v6_2)) := by kernel_rfl
theorem zq147.eq (x0 : List Int) : V.evBody zq147.E zq147.con Tryz.f247 ((x0) : List Int) = zq147 x0 := by
  rw [zq147.v]
  simp only [zq147.e6]
  rfl
theorem zq147.ok : V.Valid Tryz.prog 247 zq147.con :=
  V.fo (V.tab_cons zq168.ok V.tab_nil) Tryz.func247 (by kernel_rfl) (fun x y h => (show V.evBody zq147.E zq147.con Tryz.f247 x = _ from zq147.eq x).trans (V.cfl (by kernel_rfl) h))
noncomputable abbrev zq179.con : V.Con := ⟨(.cons (.sl (.cons (.int .i64) .nil)) (.cons (.int .i64) (.cons (.int .i64) .nil))), (.cons (.int .i64) .nil), fun (x : List Int × Int × Int) => zq179 (x.1, x.2.1) x.2.2, [], [(true, 2), (false, 1)], [(false, 1)], [false], []⟩
noncomputable abbrev zq179.E : V.Env := V.mkE V.tys [(247, zq147.con), (266, zq162.con)] [] [] [] [] []
theorem zq179.eq (x0 : TKeys) (x1 : Int) : V.evBody zq179.E zq179.con Tryz.f224 ((x0.1, x0.2, x1) : List Int × Int × Int) = zq179 x0 x1 := by kernel_rfl
theorem zq179.ok : V.Valid Tryz.prog 224 zq179.con :=
  V.fo (V.tab_cons zq147.ok (V.tab_cons zq162.ok V.tab_nil)) Tryz.func224 (by kernel_rfl) (fun x y h => (show V.evBody zq179.E zq179.con Tryz.f224 x = _ from zq179.eq (x.1, x.2.1) x.2.2).trans (V.cfl (by kernel_rfl) h))
noncomputable abbrev zq149.con : V.Con := ⟨V.A2, (.cons (.sl (.cons (.int .i64) .nil)) .nil), fun (x : V.D2) => zq149 (V.p2_0 x), [], [(true, 16)], [(false, 1)], [true], []⟩
noncomputable abbrev zq149.E : V.Env := V.mkE V.tys [(266, zq162.con)] [] [] [] [] []
noncomputable abbrev zq149.kt (x0 : THead) : V.Kt (List Int) := V.ktOf zq149.E zq149.con Tryz.f205 (V.fl2 x0)
noncomputable abbrev zq149.s (x0 : THead) : V.St := ⟨[(0, .v true [.val (.int .i64 x0.1), .val (.int .i64 x0.2.1), .val (.int .i64 x0.2.2.1), .val (.int .i64 x0.2.2.2.1), .val (.int .i64 x0.2.2.2.2.1), .val (.int .i64 x0.2.2.2.2.2.1), .val (.int .i64 x0.2.2.2.2.2.2.1), .val (.int .i64 x0.2.2.2.2.2.2.2.1), .val (.sl (.cons (.int .i64) .nil) x0.2.2.2.2.2.2.2.2.1), .val (.int .i64 x0.2.2.2.2.2.2.2.2.2.1), .val (.sl (.cons (.int .i64) .nil) x0.2.2.2.2.2.2.2.2.2.2.1), .val (.int .i64 x0.2.2.2.2.2.2.2.2.2.2.2.1), .val (.int .i64 x0.2.2.2.2.2.2.2.2.2.2.2.2.1), .val (.sl (.cons (.int .i64) .nil) x0.2.2.2.2.2.2.2.2.2.2.2.2.2.1), .val (.int .i64 x0.2.2.2.2.2.2.2.2.2.2.2.2.2.2.1), .val (.bool x0.2.2.2.2.2.2.2.2.2.2.2.2.2.2.2)])], []⟩
theorem zq149.v0 (x0 : THead) : V.evBody zq149.E zq149.con Tryz.f205 (V.fl2 x0) = V.evC zq149.E Tryz.f205.ntmps (V.codeOf Tryz.f205) (zq149.kt x0) (zq149.s x0) := by kernel_rfl
theorem zq149.v (x0 : THead) : V.evC zq149.E Tryz.f205.ntmps (V.codeOf Tryz.f205) (zq149.kt x0) (zq149.s x0) = zq149 x0 := by kernel_rfl
theorem zq149.eq (x0 : THead) : V.evBody zq149.E zq149.con Tryz.f205 (V.fl2 x0) = zq149 x0 := (zq149.v0 x0).trans (zq149.v x0)
theorem zq149.ok : V.Valid Tryz.prog 205 zq149.con :=
  V.fo (V.tab_cons zq162.ok V.tab_nil) Tryz.func205 (by kernel_rfl) (fun x y h => (show V.evBody zq149.E zq149.con Tryz.f205 x = _ from zq149.eq (V.p2_0 x)).trans (V.cfl (by kernel_rfl) h))
noncomputable abbrev zq161.con : V.Con := ⟨(.cons (.int .i64) (.cons (.sl (.cons (.int .i64) .nil)) .nil)), (.cons (.int .i64) .nil), fun (x : Int × List Int) => zq161 x.1 x.2, [], [(false, 1), (false, 1)], [(false, 1)], [false], []⟩
noncomputable abbrev zq161.E : V.Env := V.mkE V.tys [(247, zq147.con)] [] [] [] [] []
theorem zq161.eq (x0 : Int) (x1 : List Int) : V.evBody zq161.E zq161.con Tryz.f214 ((x0, x1) : Int × List Int) = zq161 x0 x1 := by kernel_rfl
theorem zq161.ok : V.Valid Tryz.prog 214 zq161.con :=
  V.fo (V.tab_cons zq147.ok V.tab_nil) Tryz.func214 (by kernel_rfl) (fun x y h => (show V.evBody zq161.E zq161.con Tryz.f214 x = _ from zq161.eq x.1 x.2).trans (V.cfl (by kernel_rfl) h))
noncomputable abbrev zq176.con : V.Con := ⟨(.cons (.int .i64) (.cons (.sl (.cons (.int .i64) .nil)) .nil)), (.cons (.int .i64) .nil), fun (x : Int × List Int) => zq176 x.1 x.2, [], [(false, 1), (false, 1)], [(false, 1)], [false], []⟩
noncomputable abbrev zq176.E : V.Env := V.mkE V.tys [(214, zq161.con)] [] [] [] [] []
theorem zq176.eq (x0 : Int) (x1 : List Int) : V.evBody zq176.E zq176.con Tryz.f118 ((x0, x1) : Int × List Int) = zq176 x0 x1 := by kernel_rfl
theorem zq176.ok : V.Valid Tryz.prog 118 zq176.con :=
  V.fo (V.tab_cons zq161.ok V.tab_nil) Tryz.func118 (by kernel_rfl) (fun x y h => (show V.evBody zq176.E zq176.con Tryz.f118 x = _ from zq176.eq x.1 x.2).trans (V.cfl (by kernel_rfl) h))
noncomputable abbrev zq158.con : V.Con := ⟨(.cons (.int .i64) (.cons (.int .i64) (.cons (.sl (.cons (.int .i64) .nil)) .nil))), (.cons .bool .nil), fun (x : Int × Int × List Int) => zq158 (x.1, x.2.1) x.2.2, [], [(true, 2), (false, 1)], [(false, 1)], [false], []⟩
noncomputable abbrev zq158.E : V.Env := V.mkE V.tys [(118, zq176.con), (147, zq188.con)] [] [(1, 10)] [] [] []
theorem zq158.eq (x0 : TSig) (x1 : List Int) : V.evBody zq158.E zq158.con Tryz.f316 ((x0.1, x0.2, x1) : Int × Int × List Int) = zq158 x0 x1 := by kernel_rfl
theorem zq158.ok : V.Valid Tryz.prog 316 zq158.con :=
  V.fo (V.tab_cons zq176.ok (V.tab_cons zq188.ok V.tab_nil)) Tryz.func316 (by kernel_rfl) (fun x y h => (show V.evBody zq158.E zq158.con Tryz.f316 x = _ from zq158.eq (x.1, x.2.1) x.2.2).trans (V.cfl (by kernel_rfl) h))
noncomputable abbrev zq142.con : V.Con := ⟨(.cons (.sl (.cons (.int .i64) .nil)) (.cons (.int .i64) (.cons (.sl (.cons (.int .i64) .nil)) (.cons (.sl (.cons (.int .i64) (.cons (.int .i64) .nil))) .nil)))), (.cons (.int .i64) .nil), fun (x : List Int × Int × List Int × List TSig) => zq142 (x.1, x.2.1) x.2.2.1 x.2.2.2, [], [(true, 2), (false, 1), (false, 1)], [(false, 1)], [false], []⟩
noncomputable abbrev zq142.E : V.Env := V.mkE V.tys [(316, zq158.con)] [(6, [1, 2, 3, 7, 8], []), (12, [1, 2, 3, 7, 8, 9], []), (19, [1, 2, 3, 7, 8, 9, 41], [])] [(8, 17)] [] [] []
noncomputable abbrev zq142.kt (x0 : TKeys) (x1 : List Int) (x2 : List TSig) : V.Kt Int := V.ktOf zq142.E zq142.con Tryz.f309 ((x0.1, x0.2, x1, x2) : List Int × Int × List Int × List TSig)
noncomputable abbrev zq142.s19 (x0 : TKeys) (x1 : List Int) (x2 : List TSig) (v6_2 : Int) (v6_3 : Int) (v12_4 : Int) (v19_5 : Bool) : V.St := ⟨[(1, .v false [.val (.sl (.cons (.int .i64) .nil) x1)]), (2, .v false [.val (.sl (.cons (.int .i64) (.cons (.int .i64) .nil)) x2)]), (3, .v false [.ptr 64000 0]), (7, .v false [.val (.int .i64 v6_2)]), (8, .v false [.val (.int .i64 v6_3)]), (9, .v false [.val (.int .i64 v12_4)]), (41, .v false [.val (.bool v19_5)])], [(64000, .box [.val (.sl (.cons (.int .i64) .nil) x0.1), .val (.int .i64 x0.2)])]⟩
noncomputable abbrev zq142.s12 (x0 : TKeys) (x1 : List Int) (x2 : List TSig) (v6_2 : Int) (v6_3 : Int) (v12_4 : Int) : V.St := ⟨[(1, .v false [.val (.sl (.cons (.int .i64) .nil) x1)]), (2, .v false [.val (.sl (.cons (.int .i64) (.cons (.int .i64) .nil)) x2)]), (3, .v false [.ptr 64000 0]), (7, .v false [.val (.int .i64 v6_2)]), (8, .v false [.val (.int .i64 v6_3)]), (9, .v false [.val (.int .i64 v12_4)])], [(64000, .box [.val (.sl (.cons (.int .i64) .nil) x0.1), .val (.int .i64 x0.2)])]⟩
noncomputable abbrev zq142.s6 (x0 : TKeys) (x1 : List Int) (x2 : List TSig) (v6_2 : Int) (v6_3 : Int) : V.St := ⟨[(1, .v false [.val (.sl (.cons (.int .i64) .nil) x1)]), (2, .v false [.val (.sl (.cons (.int .i64) (.cons (.int .i64) .nil)) x2)]), (3, .v false [.ptr 64000 0]), (7, .v false [.val (.int .i64 v6_2)]), (8, .v false [.val (.int .i64 v6_3)])], [(64000, .box [.val (.sl (.cons (.int .i64) .nil) x0.1), .val (.int .i64 x0.2)])]⟩
theorem zq142.r19 (x0 : TKeys) (x1 : List Int) (x2 : List TSig) (v12_4 : Int) (v6_2 : Int) (v6_3 : Int) (R6 : V.St → Option Int) (R12 : V.St → Option Int) (v19_5 : Bool) : V.joinF zq142.E Tryz.f309.ntmps [1, 1, 0, 1, 0, 0, 1, 0, 0, 1, 0, 0, 1, 0, 0] [R6, R12] (V.codeOf Tryz.f309) (zq142.kt x0 x1 x2) (zq142.s19 x0 x1 x2 v6_2 v6_3 v12_4 v19_5) = zq142.g19 x0 x1 x2 v6_2 v6_3 v12_4 (fun v6_2 v6_3 => R6 (zq142.s6 x0 x1 x2 v6_2 v6_3)) (fun v12_4 => R12 (zq142.s12 x0 x1 x2 v6_2 v6_3 v12_4)) v19_5 := by kernel_rfl
theorem zq142.e19 (x0 : TKeys) (x1 : List Int) (x2 : List TSig) (v12_4 : Int) (v6_2 : Int) (v6_3 : Int) (R6 : V.St → Option Int) (R12 : V.St → Option Int) (v19_5 : Bool) : V.jn (V.joinF zq142.E Tryz.f309.ntmps [1, 1, 0, 1, 0, 0, 1, 0, 0, 1, 0, 0, 1, 0, 0] [R6, R12] (V.codeOf Tryz.f309) (zq142.kt x0 x1 x2)) (zq142.s19 x0 x1 x2 v6_2 v6_3 v12_4 v19_5) = zq142.l19 x0 x1 x2 v6_2 v6_3 v12_4 (fun v6_2 v6_3 => R6 (zq142.s6 x0 x1 x2 v6_2 v6_3)) (fun v12_4 => R12 (zq142.s12 x0 x1 x2 v6_2 v6_3 v12_4)) v19_5 := by
  rw [V.jn_eq, zq142.r19]
  rfl
theorem zq142.r12 (x0 : TKeys) (x1 : List Int) (x2 : List TSig) (v6_2 : Int) (v6_3 : Int) (R6 : V.St → Option Int) (R : V.St → Option Int) (v12_4 : Int) : V.loopF zq142.E Tryz.f309.ntmps [1, 1, 0, 1, 0, 0, 1, 0, 0, 1, 0] [R6] (V.codeOf Tryz.f309) (zq142.kt x0 x1 x2) R (zq142.s12 x0 x1 x2 v6_2 v6_3 v12_4) = zq142.g12 x0 x1 x2 v6_2 v6_3 (fun v6_2 v6_3 => R6 (zq142.s6 x0 x1 x2 v6_2 v6_3)) (fun v12_4 => R (zq142.s12 x0 x1 x2 v6_2 v6_3 v12_4)) (fun v19_5 => V.jn (V.joinF zq142.E Tryz.f309.ntmps [1, 1, 0, 1, 0, 0, 1, 0, 0, 1, 0, 0, 1, 0, 0] [R6, R] (V.codeOf Tryz.f309) (zq142.kt x0 x1 x2)) (zq142.s19 x0 x1 x2 v6_2 v6_3 v12_4 v19_5)) v12_4 := by kernel_rfl
theorem zq142.e12 (x0 : TKeys) (x1 : List Int) (x2 : List TSig) (v6_2 : Int) (v6_3 : Int) (R6 : V.St → Option Int) : ∀ (n : Nat) (v12_4 : Int), V.loopN (V.loopF zq142.E Tryz.f309.ntmps [1, 1, 0, 1, 0, 0, 1, 0, 0, 1, 0] [R6] (V.codeOf Tryz.f309) (zq142.kt x0 x1 x2)) n (zq142.s12 x0 x1 x2 v6_2 v6_3 v12_4) = zq142.l12 x0 x1 x2 v6_2 v6_3 (fun v6_2 v6_3 => R6 (zq142.s6 x0 x1 x2 v6_2 v6_3)) n v12_4 := by
  intro n
  induction n with
  | zero => intros; rw [V.loopN_z]; rfl
  | succ n ih =>
    intro v12_4
    rw [V.loopN_s, zq142.r12]
    simp only [zq142.e19, ih]
    first | exact (zq142.u12 ..).symm | rfl
theorem zq142.r6 (x0 : TKeys) (x1 : List Int) (x2 : List TSig) (R : V.St → Option Int) (v6_2 : Int) (v6_3 : Int) : V.loopF zq142.E Tryz.f309.ntmps [1, 1, 0, 1, 0] [] (V.codeOf Tryz.f309) (zq142.kt x0 x1 x2) R (zq142.s6 x0 x1 x2 v6_2 v6_3) = zq142.g6 x0 x1 x2 (fun v6_2 v6_3 => R (zq142.s6 x0 x1 x2 v6_2 v6_3)) (fun v12_4 => V.loopN (V.loopF zq142.E Tryz.f309.ntmps [1, 1, 0, 1, 0, 0, 1, 0, 0, 1, 0] [R] (V.codeOf Tryz.f309) (zq142.kt x0 x1 x2)) V.KK (zq142.s12 x0 x1 x2 v6_2 v6_3 v12_4)) v6_2 v6_3 := by kernel_rfl
theorem zq142.e6 (x0 : TKeys) (x1 : List Int) (x2 : List TSig) : ∀ (n : Nat) (v6_2 : Int) (v6_3 : Int), V.loopN (V.loopF zq142.E Tryz.f309.ntmps [1, 1, 0, 1, 0] [] (V.codeOf Tryz.f309) (zq142.kt x0 x1 x2)) n (zq142.s6 x0 x1 x2 v6_2 v6_3) = zq142.l6 x0 x1 x2 n v6_2 v6_3 := by
  intro n
  induction n with
  | zero => intros; rw [V.loopN_z]; rfl
  | succ n ih =>
    intro v6_2 v6_3
    rw [V.loopN_s, zq142.r6]
    simp only [zq142.e12, ih]
    first | exact (zq142.u6 ..).symm | rfl
theorem zq142.v (x0 : TKeys) (x1 : List Int) (x2 : List TSig) : V.evBody zq142.E zq142.con Tryz.f309 ((x0.1, x0.2, x1, x2) : List Int × Int × List Int × List TSig) = zq142.b x0 x1 x2 (fun v6_2 v6_3 => V.loopN (V.loopF zq142.E Tryz.f309.ntmps [1, 1, 0, 1, 0] [] (V.codeOf Tryz.f309) (zq142.kt x0 x1 x2)) V.KK (zq142.s6 x0 x1 x2 v6_2 v6_3)) := by kernel_rfl
theorem zq142.eq (x0 : TKeys) (x1 : List Int) (x2 : List TSig) : V.evBody zq142.E zq142.con Tryz.f309 ((x0.1, x0.2, x1, x2) : List Int × Int × List Int × List TSig) = zq142 x0 x1 x2 := by
  rw [zq142.v]
  simp only [zq142.e6]
  rfl
theorem zq142.ok : V.Valid Tryz.prog 309 zq142.con :=
  V.fo (V.tab_cons zq158.ok V.tab_nil) Tryz.func309 (by kernel_rfl) (fun x y h => (show V.evBody zq142.E zq142.con Tryz.f309 x = _ from zq142.eq (x.1, x.2.1) x.2.2.1 x.2.2.2).trans (V.cfl (by kernel_rfl) h))
noncomputable abbrev zq159.con : V.Con := ⟨(.cons (.sl (.cons (.int .i64) .nil)) (.cons (.int .i64) (.cons (.sl (.cons (.int .i64) .nil)) (.cons (.sl (.cons (.int .i64) (.cons (.int .i64) .nil))) .nil)))), (.cons .bool .nil), fun (x : List Int × Int × List Int × List TSig) => zq159 (x.1, x.2.1) x.2.2.1 x.2.2.2, [], [(true, 2), (false, 1), (false, 1)], [(false, 1)], [false], []⟩
noncomputable abbrev zq159.E : V.Env := V.mkE V.tys [(245, zq154.con), (309, zq142.con)] [] [(1, 9)] [] [] []
theorem zq159.eq (x0 : TKeys) (x1 : List Int) (x2 : List TSig) : V.evBody zq159.E zq159.con Tryz.f287 ((x0.1, x0.2, x1, x2) : List Int × Int × List Int × List TSig) = zq159 x0 x1 x2 := by kernel_rfl
theorem zq159.ok : V.Valid Tryz.prog 287 zq159.con :=
  V.fo (V.tab_cons zq154.ok (V.tab_cons zq142.ok V.tab_nil)) Tryz.func287 (by kernel_rfl) (fun x y h => (show V.evBody zq159.E zq159.con Tryz.f287 x = _ from zq159.eq (x.1, x.2.1) x.2.2.1 x.2.2.2).trans (V.cfl (by kernel_rfl) h))
noncomputable abbrev zq152.con : V.Con := ⟨V.A3, (.cons .bool .nil), fun (x : V.D3) => zq152 (V.p3_0 x), [], [(true, 17)], [(false, 1)], [false], []⟩
noncomputable abbrev zq152.E : V.Env := V.mkE V.tys [(183, zq153.con), (205, zq149.con), (224, zq179.con), (287, zq159.con)] [] [(2, 34)] [] [] []
noncomputable abbrev zq152.kt (x0 : TSigned) : V.Kt Bool := V.ktOf zq152.E zq152.con Tryz.f264 (V.fl3 x0)
noncomputable abbrev zq152.s (x0 : TSigned) : V.St := ⟨[(0, .v true [.val (.int .i64 x0.1), .val (.int .i64 x0.2.1), .val (.int .i64 x0.2.2.1), .val (.int .i64 x0.2.2.2.1), .val (.int .i64 x0.2.2.2.2.1), .val (.int .i64 x0.2.2.2.2.2.1), .val (.int .i64 x0.2.2.2.2.2.2.1), .val (.int .i64 x0.2.2.2.2.2.2.2.1), .val (.sl (.cons (.int .i64) .nil) x0.2.2.2.2.2.2.2.2.1), .val (.int .i64 x0.2.2.2.2.2.2.2.2.2.1), .val (.sl (.cons (.int .i64) .nil) x0.2.2.2.2.2.2.2.2.2.2.1), .val (.int .i64 x0.2.2.2.2.2.2.2.2.2.2.2.1), .val (.int .i64 x0.2.2.2.2.2.2.2.2.2.2.2.2.1), .val (.sl (.cons (.int .i64) .nil) x0.2.2.2.2.2.2.2.2.2.2.2.2.2.1), .val (.int .i64 x0.2.2.2.2.2.2.2.2.2.2.2.2.2.2.1), .val (.bool x0.2.2.2.2.2.2.2.2.2.2.2.2.2.2.2.1), .val (.sl (.cons (.int .i64) (.cons (.int .i64) .nil)) x0.2.2.2.2.2.2.2.2.2.2.2.2.2.2.2.2)])], []⟩
theorem zq152.v0 (x0 : TSigned) : V.evBody zq152.E zq152.con Tryz.f264 (V.fl3 x0) = V.evC zq152.E Tryz.f264.ntmps (V.codeOf Tryz.f264) (zq152.kt x0) (zq152.s x0) := by kernel_rfl
theorem zq152.v (x0 : TSigned) : V.evC zq152.E Tryz.f264.ntmps (V.codeOf Tryz.f264) (zq152.kt x0) (zq152.s x0) = zq152 x0 := by kernel_rfl
theorem zq152.eq (x0 : TSigned) : V.evBody zq152.E zq152.con Tryz.f264 (V.fl3 x0) = zq152 x0 := (zq152.v0 x0).trans (zq152.v x0)
theorem zq152.ok : V.Valid Tryz.prog 264 zq152.con :=
  V.fo (V.tab_cons zq153.ok (V.tab_cons zq149.ok (V.tab_cons zq179.ok (V.tab_cons zq159.ok V.tab_nil)))) Tryz.func264 (by kernel_rfl) (fun x y h => (show V.evBody zq152.E zq152.con Tryz.f264 x = _ from zq152.eq (V.p3_0 x)).trans (V.cfl (by kernel_rfl) h))
noncomputable abbrev zq148.con : V.Con := ⟨V.A2, (.cons (.int .i64) .nil), fun (x : V.D2) => zq148 (V.p2_0 x), [], [(true, 16)], [(false, 1)], [false], []⟩
noncomputable abbrev zq148.E : V.Env := V.mkE V.tys [(205, zq149.con), (247, zq147.con)] [] [] [] [] []
noncomputable abbrev zq148.kt (x0 : THead) : V.Kt Int := V.ktOf zq148.E zq148.con Tryz.f185 (V.fl2 x0)
noncomputable abbrev zq148.s (x0 : THead) : V.St := ⟨[(0, .v true [.val (.int .i64 x0.1), .val (.int .i64 x0.2.1), .val (.int .i64 x0.2.2.1), .val (.int .i64 x0.2.2.2.1), .val (.int .i64 x0.2.2.2.2.1), .val (.int .i64 x0.2.2.2.2.2.1), .val (.int .i64 x0.2.2.2.2.2.2.1), .val (.int .i64 x0.2.2.2.2.2.2.2.1), .val (.sl (.cons (.int .i64) .nil) x0.2.2.2.2.2.2.2.2.1), .val (.int .i64 x0.2.2.2.2.2.2.2.2.2.1), .val (.sl (.cons (.int .i64) .nil) x0.2.2.2.2.2.2.2.2.2.2.1), .val (.int .i64 x0.2.2.2.2.2.2.2.2.2.2.2.1), .val (.int .i64 x0.2.2.2.2.2.2.2.2.2.2.2.2.1), .val (.sl (.cons (.int .i64) .nil) x0.2.2.2.2.2.2.2.2.2.2.2.2.2.1), .val (.int .i64 x0.2.2.2.2.2.2.2.2.2.2.2.2.2.2.1), .val (.bool x0.2.2.2.2.2.2.2.2.2.2.2.2.2.2.2)])], []⟩
theorem zq148.v0 (x0 : THead) : V.evBody zq148.E zq148.con Tryz.f185 (V.fl2 x0) = V.evC zq148.E Tryz.f185.ntmps (V.codeOf Tryz.f185) (zq148.kt x0) (zq148.s x0) := by kernel_rfl
theorem zq148.v (x0 : THead) : V.evC zq148.E Tryz.f185.ntmps (V.codeOf Tryz.f185) (zq148.kt x0) (zq148.s x0) = zq148 x0 := by kernel_rfl
theorem zq148.eq (x0 : THead) : V.evBody zq148.E zq148.con Tryz.f185 (V.fl2 x0) = zq148 x0 := (zq148.v0 x0).trans (zq148.v x0)
theorem zq148.ok : V.Valid Tryz.prog 185 zq148.con :=
  V.fo (V.tab_cons zq149.ok (V.tab_cons zq147.ok V.tab_nil)) Tryz.func185 (by kernel_rfl) (fun x y h => (show V.evBody zq148.E zq148.con Tryz.f185 x = _ from zq148.eq (V.p2_0 x)).trans (V.cfl (by kernel_rfl) h))
noncomputable abbrev zq186.con : V.Con := ⟨V.A4, (.cons (.int .i64) .nil), fun (x : V.D4) => zq186 (V.p4_0 x) (V.p4_1 x), [], [(true, 16), (true, 16)], [(false, 1)], [false], []⟩
noncomputable abbrev zq186.E : V.Env := V.mkE V.tys [] [] [] [] [] []
noncomputable abbrev zq186.kt (x0 : THead) (x1 : THead) : V.Kt Int := V.ktOf zq186.E zq186.con Tryz.f284 (V.fl4 x0 x1)
noncomputable abbrev zq186.s (x0 : THead) (x1 : THead) : V.St := ⟨[(0, .v true [.val (.int .i64 x0.1), .val (.int .i64 x0.2.1), .val (.int .i64 x0.2.2.1), .val (.int .i64 x0.2.2.2.1), .val (.int .i64 x0.2.2.2.2.1), .val (.int .i64 x0.2.2.2.2.2.1), .val (.int .i64 x0.2.2.2.2.2.2.1), .val (.int .i64 x0.2.2.2.2.2.2.2.1), .val (.sl (.cons (.int .i64) .nil) x0.2.2.2.2.2.2.2.2.1), .val (.int .i64 x0.2.2.2.2.2.2.2.2.2.1), .val (.sl (.cons (.int .i64) .nil) x0.2.2.2.2.2.2.2.2.2.2.1), .val (.int .i64 x0.2.2.2.2.2.2.2.2.2.2.2.1), .val (.int .i64 x0.2.2.2.2.2.2.2.2.2.2.2.2.1), .val (.sl (.cons (.int .i64) .nil) x0.2.2.2.2.2.2.2.2.2.2.2.2.2.1), .val (.int .i64 x0.2.2.2.2.2.2.2.2.2.2.2.2.2.2.1), .val (.bool x0.2.2.2.2.2.2.2.2.2.2.2.2.2.2.2)]), (1, .v true [.val (.int .i64 x1.1), .val (.int .i64 x1.2.1), .val (.int .i64 x1.2.2.1), .val (.int .i64 x1.2.2.2.1), .val (.int .i64 x1.2.2.2.2.1), .val (.int .i64 x1.2.2.2.2.2.1), .val (.int .i64 x1.2.2.2.2.2.2.1), .val (.int .i64 x1.2.2.2.2.2.2.2.1), .val (.sl (.cons (.int .i64) .nil) x1.2.2.2.2.2.2.2.2.1), .val (.int .i64 x1.2.2.2.2.2.2.2.2.2.1), .val (.sl (.cons (.int .i64) .nil) x1.2.2.2.2.2.2.2.2.2.2.1), .val (.int .i64 x1.2.2.2.2.2.2.2.2.2.2.2.1), .val (.int .i64 x1.2.2.2.2.2.2.2.2.2.2.2.2.1), .val (.sl (.cons (.int .i64) .nil) x1.2.2.2.2.2.2.2.2.2.2.2.2.2.1), .val (.int .i64 x1.2.2.2.2.2.2.2.2.2.2.2.2.2.2.1), .val (.bool x1.2.2.2.2.2.2.2.2.2.2.2.2.2.2.2)])], []⟩
theorem zq186.v0 (x0 : THead) (x1 : THead) : V.evBody zq186.E zq186.con Tryz.f284 (V.fl4 x0 x1) = V.evC zq186.E Tryz.f284.ntmps (V.codeOf Tryz.f284) (zq186.kt x0 x1) (zq186.s x0 x1) := by kernel_rfl
theorem zq186.v (x0 : THead) (x1 : THead) : V.evC zq186.E Tryz.f284.ntmps (V.codeOf Tryz.f284) (zq186.kt x0 x1) (zq186.s x0 x1) = zq186 x0 x1 := by kernel_rfl
theorem zq186.eq (x0 : THead) (x1 : THead) : V.evBody zq186.E zq186.con Tryz.f284 (V.fl4 x0 x1) = zq186 x0 x1 := (zq186.v0 x0 x1).trans (zq186.v x0 x1)
theorem zq186.ok : V.Valid Tryz.prog 284 zq186.con :=
  V.fo V.tab_nil Tryz.func284 (by kernel_rfl) (fun x y h => (show V.evBody zq186.E zq186.con Tryz.f284 x = _ from zq186.eq (V.p4_0 x) (V.p4_1 x)).trans (V.cfl (by kernel_rfl) h))
noncomputable abbrev zq144.con : V.Con := ⟨(.cons (.sl (.cons (.int .i64) .nil)) (.cons (.sl (.cons (.int .i64) .nil)) .nil)), (.cons .bool .nil), fun (x : List Int × List Int) => zq144 x.1 x.2, [], [(false, 1), (false, 1)], [(false, 1)], [false], []⟩
noncomputable abbrev zq144.E : V.Env := V.mkE V.tys [] [(8, [0, 1, 5], [])] [(6, 8)] [] [] []
noncomputable abbrev zq144.kt (x0 : List Int) (x1 : List Int) : V.Kt Bool := V.ktOf zq144.E zq144.con Tryz.f204 ((x0, x1) : List Int × List Int)
noncomputable abbrev zq144.s8 (x0 : List Int) (x1 : List Int) (v8_2 : Int) : V.St := ⟨[(0, .v false [.val (.sl (.cons (.int .i64) .nil) x0)]), (1, .v false [.val (.sl (.cons (.int .i64) .nil) x1)]), (5, .v false [.val (.int .i64 v8_2)])], []⟩
theorem zq144.r8 (x0 : List Int) (x1 : List Int) (R : V.St → Option Bool) (v8_2 : Int) : V.loopF zq144.E Tryz.f204.ntmps [1, 1, 0, 1, 0] [] (V.codeOf Tryz.f204) (zq144.kt x0 x1) R (zq144.s8 x0 x1 v8_2) = zq144.g8 x0 x1 (fun v8_2 => R (zq144.s8 x0 x1 v8_2)) v8_2 := by kernel_rfl
theorem zq144.e8 (x0 : List Int) (x1 : List Int) : ∀ (n : Nat) (v8_2 : Int), V.loopN (V.loopF zq144.E Tryz.f204.ntmps [1, 1, 0, 1, 0] [] (V.codeOf Tryz.f204) (zq144.kt x0 x1)) n (zq144.s8 x0 x1 v8_2) = zq144.l8 x0 x1 n v8_2 := by
  intro n
  induction n with
  | zero => intros; rw [V.loopN_z]; rfl
  | succ n ih =>
    intro v8_2
    rw [V.loopN_s, zq144.r8]
    simp only [ih]
    first | exact (zq144.u8 ..).symm | rfl
theorem zq144.v (x0 : List Int) (x1 : List Int) : V.evBody zq144.E zq144.con Tryz.f204 ((x0, x1) : List Int × List Int) = zq144.b x0 x1 (fun v8_2 => V.loopN (V.loopF zq144.E Tryz.f204.ntmps [1, 1, 0, 1, 0] [] (V.codeOf Tryz.f204) (zq144.kt x0 x1)) V.KK (zq144.s8 x0 x1 v8_2)) := by kernel_rfl
theorem zq144.eq (x0 : List Int) (x1 : List Int) : V.evBody zq144.E zq144.con Tryz.f204 ((x0, x1) : List Int × List Int) = zq144 x0 x1 := by
  rw [zq144.v]
  simp only [zq144.e8]
  rfl
theorem zq144.ok : V.Valid Tryz.prog 204 zq144.con :=
  V.fo V.tab_nil Tryz.func204 (by kernel_rfl) (fun x y h => (show V.evBody zq144.E zq144.con Tryz.f204 x = _ from zq144.eq x.1 x.2).trans (V.cfl (by kernel_rfl) h))
noncomputable abbrev zq145.con : V.Con := ⟨(.cons (.sl (.cons (.int .i64) .nil)) (.cons (.int .i64) (.cons (.sl (.cons (.int .i64) .nil)) (.cons (.int .i64) .nil)))), (.cons .bool .nil), fun (x : List Int × Int × List Int × Int) => zq145 (x.1, x.2.1) x.2.2, [], [(true, 2), (true, 2)], [(false, 1)], [false], []⟩
noncomputable abbrev zq145.E : V.Env := V.mkE V.tys [(204, zq144.con)] [] [] [] [] []
theorem zq145.eq (x0 : TKeys) (x1 : TKeys) : V.evBody zq145.E zq145.con Tryz.f307 ((x0.1, x0.2, x1.1, x1.2) : List Int × Int × List Int × Int) = zq145 x0 x1 := by kernel_rfl
theorem zq145.ok : V.Valid Tryz.prog 307 zq145.con :=
  V.fo (V.tab_cons zq144.ok V.tab_nil) Tryz.func307 (by kernel_rfl) (fun x y h => (show V.evBody zq145.E zq145.con Tryz.f307 x = _ from zq145.eq (x.1, x.2.1) x.2.2).trans (V.cfl (by kernel_rfl) h))
noncomputable abbrev zq173.con : V.Con := ⟨V.A4, (.cons .bool .nil), fun (x : V.D4) => zq173 (V.p4_0 x) (V.p4_1 x), [], [(true, 16), (true, 16)], [(false, 1)], [false], []⟩
noncomputable abbrev zq173.E : V.Env := V.mkE V.tys [] [] [] [] [] []
noncomputable abbrev zq173.kt (x0 : THead) (x1 : THead) : V.Kt Bool := V.ktOf zq173.E zq173.con Tryz.f308 (V.fl4 x0 x1)
noncomputable abbrev zq173.s (x0 : THead) (x1 : THead) : V.St := ⟨[(0, .v true [.val (.int .i64 x0.1), .val (.int .i64 x0.2.1), .val (.int .i64 x0.2.2.1), .val (.int .i64 x0.2.2.2.1), .val (.int .i64 x0.2.2.2.2.1), .val (.int .i64 x0.2.2.2.2.2.1), .val (.int .i64 x0.2.2.2.2.2.2.1), .val (.int .i64 x0.2.2.2.2.2.2.2.1), .val (.sl (.cons (.int .i64) .nil) x0.2.2.2.2.2.2.2.2.1), .val (.int .i64 x0.2.2.2.2.2.2.2.2.2.1), .val (.sl (.cons (.int .i64) .nil) x0.2.2.2.2.2.2.2.2.2.2.1), .val (.int .i64 x0.2.2.2.2.2.2.2.2.2.2.2.1), .val (.int .i64 x0.2.2.2.2.2.2.2.2.2.2.2.2.1), .val (.sl (.cons (.int .i64) .nil) x0.2.2.2.2.2.2.2.2.2.2.2.2.2.1), .val (.int .i64 x0.2.2.2.2.2.2.2.2.2.2.2.2.2.2.1), .val (.bool x0.2.2.2.2.2.2.2.2.2.2.2.2.2.2.2)]), (1, .v true [.val (.int .i64 x1.1), .val (.int .i64 x1.2.1), .val (.int .i64 x1.2.2.1), .val (.int .i64 x1.2.2.2.1), .val (.int .i64 x1.2.2.2.2.1), .val (.int .i64 x1.2.2.2.2.2.1), .val (.int .i64 x1.2.2.2.2.2.2.1), .val (.int .i64 x1.2.2.2.2.2.2.2.1), .val (.sl (.cons (.int .i64) .nil) x1.2.2.2.2.2.2.2.2.1), .val (.int .i64 x1.2.2.2.2.2.2.2.2.2.1), .val (.sl (.cons (.int .i64) .nil) x1.2.2.2.2.2.2.2.2.2.2.1), .val (.int .i64 x1.2.2.2.2.2.2.2.2.2.2.2.1), .val (.int .i64 x1.2.2.2.2.2.2.2.2.2.2.2.2.1), .val (.sl (.cons (.int .i64) .nil) x1.2.2.2.2.2.2.2.2.2.2.2.2.2.1), .val (.int .i64 x1.2.2.2.2.2.2.2.2.2.2.2.2.2.2.1), .val (.bool x1.2.2.2.2.2.2.2.2.2.2.2.2.2.2.2)])], []⟩
theorem zq173.v0 (x0 : THead) (x1 : THead) : V.evBody zq173.E zq173.con Tryz.f308 (V.fl4 x0 x1) = V.evC zq173.E Tryz.f308.ntmps (V.codeOf Tryz.f308) (zq173.kt x0 x1) (zq173.s x0 x1) := by kernel_rfl
theorem zq173.v (x0 : THead) (x1 : THead) : V.evC zq173.E Tryz.f308.ntmps (V.codeOf Tryz.f308) (zq173.kt x0 x1) (zq173.s x0 x1) = zq173 x0 x1 := by kernel_rfl
theorem zq173.eq (x0 : THead) (x1 : THead) : V.evBody zq173.E zq173.con Tryz.f308 (V.fl4 x0 x1) = zq173 x0 x1 := (zq173.v0 x0 x1).trans (zq173.v x0 x1)
theorem zq173.ok : V.Valid Tryz.prog 308 zq173.con :=
  V.fo V.tab_nil Tryz.func308 (by kernel_rfl) (fun x y h => (show V.evBody zq173.E zq173.con Tryz.f308 x = _ from zq173.eq (V.p4_0 x) (V.p4_1 x)).trans (V.cfl (by kernel_rfl) h))
noncomputable abbrev zq184.con : V.Con := ⟨V.A4, (.cons (.int .i64) .nil), fun (x : V.D4) => zq184 (V.p4_0 x) (V.p4_1 x), [], [(true, 16), (true, 16)], [(false, 1)], [false], []⟩
noncomputable abbrev zq184.E : V.Env := V.mkE V.tys [(246, zq170.con), (307, zq145.con), (308, zq173.con)] [(9, [2, 3, 8], [])] [] [] [] []
noncomputable abbrev zq184.kt (x0 : THead) (x1 : THead) : V.Kt Int := V.ktOf zq184.E zq184.con Tryz.f285 (V.fl4 x0 x1)
noncomputable abbrev zq184.s9 (x0 : THead) (x1 : THead) (v9_0 : Bool) : V.St := ⟨[(2, .v false [.ptr 64000 0]), (3, .v false [.ptr 64064 0]), (8, .v false [.val (.bool v9_0)])], [(64000, .box [.val (.int .i64 x0.1), .val (.int .i64 x0.2.1), .val (.int .i64 x0.2.2.1), .val (.int .i64 x0.2.2.2.1), .val (.int .i64 x0.2.2.2.2.1), .val (.int .i64 x0.2.2.2.2.2.1), .val (.int .i64 x0.2.2.2.2.2.2.1), .val (.int .i64 x0.2.2.2.2.2.2.2.1), .val (.sl (.cons (.int .i64) .nil) x0.2.2.2.2.2.2.2.2.1), .val (.int .i64 x0.2.2.2.2.2.2.2.2.2.1), .val (.sl (.cons (.int .i64) .nil) x0.2.2.2.2.2.2.2.2.2.2.1), .val (.int .i64 x0.2.2.2.2.2.2.2.2.2.2.2.1), .val (.int .i64 x0.2.2.2.2.2.2.2.2.2.2.2.2.1), .val (.sl (.cons (.int .i64) .nil) x0.2.2.2.2.2.2.2.2.2.2.2.2.2.1), .val (.int .i64 x0.2.2.2.2.2.2.2.2.2.2.2.2.2.2.1), .val (.bool x0.2.2.2.2.2.2.2.2.2.2.2.2.2.2.2)]), (64064, .box [.val (.int .i64 x1.1), .val (.int .i64 x1.2.1), .val (.int .i64 x1.2.2.1), .val (.int .i64 x1.2.2.2.1), .val (.int .i64 x1.2.2.2.2.1), .val (.int .i64 x1.2.2.2.2.2.1), .val (.int .i64 x1.2.2.2.2.2.2.1), .val (.int .i64 x1.2.2.2.2.2.2.2.1), .val (.sl (.cons (.int .i64) .nil) x1.2.2.2.2.2.2.2.2.1), .val (.int .i64 x1.2.2.2.2.2.2.2.2.2.1), .val (.sl (.cons (.int .i64) .nil) x1.2.2.2.2.2.2.2.2.2.2.1), .val (.int .i64 x1.2.2.2.2.2.2.2.2.2.2.2.1), .val (.int .i64 x1.2.2.2.2.2.2.2.2.2.2.2.2.1), .val (.sl (.cons (.int .i64) .nil) x1.2.2.2.2.2.2.2.2.2.2.2.2.2.1), .val (.int .i64 x1.2.2.2.2.2.2.2.2.2.2.2.2.2.2.1), .val (.bool x1.2.2.2.2.2.2.2.2.2.2.2.2.2.2.2)])]⟩
theorem zq184.r9 (x0 : THead) (x1 : THead) (v9_0 : Bool) : V.joinF zq184.E Tryz.f285.ntmps [1, 0, 0, 1, 1] [] (V.codeOf Tryz.f285) (zq184.kt x0 x1) (zq184.s9 x0 x1 v9_0) = zq184.g9 x0 x1 v9_0 := by kernel_rfl
theorem zq184.e9 (x0 : THead) (x1 : THead) (v9_0 : Bool) : V.jn (V.joinF zq184.E Tryz.f285.ntmps [1, 0, 0, 1, 1] [] (V.codeOf Tryz.f285) (zq184.kt x0 x1)) (zq184.s9 x0 x1 v9_0) = zq184.l9 x0 x1 v9_0 := by
  rw [V.jn_eq, zq184.r9]
  rfl
noncomputable abbrev zq184.s (x0 : THead) (x1 : THead) : V.St := ⟨[(0, .v true [.val (.int .i64 x0.1), .val (.int .i64 x0.2.1), .val (.int .i64 x0.2.2.1), .val (.int .i64 x0.2.2.2.1), .val (.int .i64 x0.2.2.2.2.1), .val (.int .i64 x0.2.2.2.2.2.1), .val (.int .i64 x0.2.2.2.2.2.2.1), .val (.int .i64 x0.2.2.2.2.2.2.2.1), .val (.sl (.cons (.int .i64) .nil) x0.2.2.2.2.2.2.2.2.1), .val (.int .i64 x0.2.2.2.2.2.2.2.2.2.1), .val (.sl (.cons (.int .i64) .nil) x0.2.2.2.2.2.2.2.2.2.2.1), .val (.int .i64 x0.2.2.2.2.2.2.2.2.2.2.2.1), .val (.int .i64 x0.2.2.2.2.2.2.2.2.2.2.2.2.1), .val (.sl (.cons (.int .i64) .nil) x0.2.2.2.2.2.2.2.2.2.2.2.2.2.1), .val (.int .i64 x0.2.2.2.2.2.2.2.2.2.2.2.2.2.2.1), .val (.bool x0.2.2.2.2.2.2.2.2.2.2.2.2.2.2.2)]), (1, .v true [.val (.int .i64 x1.1), .val (.int .i64 x1.2.1), .val (.int .i64 x1.2.2.1), .val (.int .i64 x1.2.2.2.1), .val (.int .i64 x1.2.2.2.2.1), .val (.int .i64 x1.2.2.2.2.2.1), .val (.int .i64 x1.2.2.2.2.2.2.1), .val (.int .i64 x1.2.2.2.2.2.2.2.1), .val (.sl (.cons (.int .i64) .nil) x1.2.2.2.2.2.2.2.2.1), .val (.int .i64 x1.2.2.2.2.2.2.2.2.2.1), .val (.sl (.cons (.int .i64) .nil) x1.2.2.2.2.2.2.2.2.2.2.1), .val (.int .i64 x1.2.2.2.2.2.2.2.2.2.2.2.1), .val (.int .i64 x1.2.2.2.2.2.2.2.2.2.2.2.2.1), .val (.sl (.cons (.int .i64) .nil) x1.2.2.2.2.2.2.2.2.2.2.2.2.2.1), .val (.int .i64 x1.2.2.2.2.2.2.2.2.2.2.2.2.2.2.1), .val (.bool x1.2.2.2.2.2.2.2.2.2.2.2.2.2.2.2)])], []⟩
theorem zq184.v0 (x0 : THead) (x1 : THead) : V.evBody zq184.E zq184.con Tryz.f285 (V.fl4 x0 x1) = V.evC zq184.E Tryz.f285.ntmps (V.codeOf Tryz.f285) (zq184.kt x0 x1) (zq184.s x0 x1) := by kernel_rfl
theorem zq184.v (x0 : THead) (x1 : THead) : V.evC zq184.E Tryz.f285.ntmps (V.codeOf Tryz.f285) (zq184.kt x0 x1) (zq184.s x0 x1) = zq184.b x0 x1 (fun v9_0 => V.jn (V.joinF zq184.E Tryz.f285.ntmps [1, 0, 0, 1, 1] [] (V.codeOf Tryz.f285) (zq184.kt x0 x1)) (zq184.s9 x0 x1 v9_0)) := by kernel_rfl
theorem zq184.eq (x0 : THead) (x1 : THead) : V.evBody zq184.E zq184.con Tryz.f285 (V.fl4 x0 x1) = zq184 x0 x1 := by
  rw [zq184.v0, zq184.v]
  simp only [zq184.e9]
  rfl
theorem zq184.ok : V.Valid Tryz.prog 285 zq184.con :=
  V.fo (V.tab_cons zq170.ok (V.tab_cons zq145.ok (V.tab_cons zq173.ok V.tab_nil))) Tryz.func285 (by kernel_rfl) (fun x y h => (show V.evBody zq184.E zq184.con Tryz.f285 x = _ from zq184.eq (V.p4_0 x) (V.p4_1 x)).trans (V.cfl (by kernel_rfl) h))
noncomputable abbrev zq185.con : V.Con := ⟨V.A4, (.cons (.int .i64) .nil), fun (x : V.D4) => zq185 (V.p4_0 x) (V.p4_1 x), [], [(true, 16), (true, 16)], [(false, 1)], [false], []⟩
noncomputable abbrev zq185.E : V.Env := V.mkE V.tys [(246, zq170.con), (307, zq145.con), (308, zq173.con)] [(9, [2, 3, 9], [])] [] [] [] []
noncomputable abbrev zq185.kt (x0 : THead) (x1 : THead) : V.Kt Int := V.ktOf zq185.E zq185.con Tryz.f286 (V.fl4 x0 x1)
noncomputable abbrev zq185.s9 (x0 : THead) (x1 : THead) (v9_0 : Bool) : V.St := ⟨[(2, .v false [.ptr 64000 0]), (3, .v false [.ptr 64064 0]), (9, .v false [.val (.bool v9_0)])], [(64000, .box [.val (.int .i64 x0.1), .val (.int .i64 x0.2.1), .val (.int .i64 x0.2.2.1), .val (.int .i64 x0.2.2.2.1), .val (.int .i64 x0.2.2.2.2.1), .val (.int .i64 x0.2.2.2.2.2.1), .val (.int .i64 x0.2.2.2.2.2.2.1), .val (.int .i64 x0.2.2.2.2.2.2.2.1), .val (.sl (.cons (.int .i64) .nil) x0.2.2.2.2.2.2.2.2.1), .val (.int .i64 x0.2.2.2.2.2.2.2.2.2.1), .val (.sl (.cons (.int .i64) .nil) x0.2.2.2.2.2.2.2.2.2.2.1), .val (.int .i64 x0.2.2.2.2.2.2.2.2.2.2.2.1), .val (.int .i64 x0.2.2.2.2.2.2.2.2.2.2.2.2.1), .val (.sl (.cons (.int .i64) .nil) x0.2.2.2.2.2.2.2.2.2.2.2.2.2.1), .val (.int .i64 x0.2.2.2.2.2.2.2.2.2.2.2.2.2.2.1), .val (.bool x0.2.2.2.2.2.2.2.2.2.2.2.2.2.2.2)]), (64064, .box [.val (.int .i64 x1.1), .val (.int .i64 x1.2.1), .val (.int .i64 x1.2.2.1), .val (.int .i64 x1.2.2.2.1), .val (.int .i64 x1.2.2.2.2.1), .val (.int .i64 x1.2.2.2.2.2.1), .val (.int .i64 x1.2.2.2.2.2.2.1), .val (.int .i64 x1.2.2.2.2.2.2.2.1), .val (.sl (.cons (.int .i64) .nil) x1.2.2.2.2.2.2.2.2.1), .val (.int .i64 x1.2.2.2.2.2.2.2.2.2.1), .val (.sl (.cons (.int .i64) .nil) x1.2.2.2.2.2.2.2.2.2.2.1), .val (.int .i64 x1.2.2.2.2.2.2.2.2.2.2.2.1), .val (.int .i64 x1.2.2.2.2.2.2.2.2.2.2.2.2.1), .val (.sl (.cons (.int .i64) .nil) x1.2.2.2.2.2.2.2.2.2.2.2.2.2.1), .val (.int .i64 x1.2.2.2.2.2.2.2.2.2.2.2.2.2.2.1), .val (.bool x1.2.2.2.2.2.2.2.2.2.2.2.2.2.2.2)])]⟩
theorem zq185.r9 (x0 : THead) (x1 : THead) (v9_0 : Bool) : V.joinF zq185.E Tryz.f286.ntmps [1, 0, 0, 1, 1] [] (V.codeOf Tryz.f286) (zq185.kt x0 x1) (zq185.s9 x0 x1 v9_0) = zq185.g9 x0 x1 v9_0 := by kernel_rfl
theorem zq185.e9 (x0 : THead) (x1 : THead) (v9_0 : Bool) : V.jn (V.joinF zq185.E Tryz.f286.ntmps [1, 0, 0, 1, 1] [] (V.codeOf Tryz.f286) (zq185.kt x0 x1)) (zq185.s9 x0 x1 v9_0) = zq185.l9 x0 x1 v9_0 := by
  rw [V.jn_eq, zq185.r9]
  rfl
noncomputable abbrev zq185.s (x0 : THead) (x1 : THead) : V.St := ⟨[(0, .v true [.val (.int .i64 x0.1), .val (.int .i64 x0.2.1), .val (.int .i64 x0.2.2.1), .val (.int .i64 x0.2.2.2.1), .val (.int .i64 x0.2.2.2.2.1), .val (.int .i64 x0.2.2.2.2.2.1), .val (.int .i64 x0.2.2.2.2.2.2.1), .val (.int .i64 x0.2.2.2.2.2.2.2.1), .val (.sl (.cons (.int .i64) .nil) x0.2.2.2.2.2.2.2.2.1), .val (.int .i64 x0.2.2.2.2.2.2.2.2.2.1), .val (.sl (.cons (.int .i64) .nil) x0.2.2.2.2.2.2.2.2.2.2.1), .val (.int .i64 x0.2.2.2.2.2.2.2.2.2.2.2.1), .val (.int .i64 x0.2.2.2.2.2.2.2.2.2.2.2.2.1), .val (.sl (.cons (.int .i64) .nil) x0.2.2.2.2.2.2.2.2.2.2.2.2.2.1), .val (.int .i64 x0.2.2.2.2.2.2.2.2.2.2.2.2.2.2.1), .val (.bool x0.2.2.2.2.2.2.2.2.2.2.2.2.2.2.2)]), (1, .v true [.val (.int .i64 x1.1), .val (.int .i64 x1.2.1), .val (.int .i64 x1.2.2.1), .val (.int .i64 x1.2.2.2.1), .val (.int .i64 x1.2.2.2.2.1), .val (.int .i64 x1.2.2.2.2.2.1), .val (.int .i64 x1.2.2.2.2.2.2.1), .val (.int .i64 x1.2.2.2.2.2.2.2.1), .val (.sl (.cons (.int .i64) .nil) x1.2.2.2.2.2.2.2.2.1), .val (.int .i64 x1.2.2.2.2.2.2.2.2.2.1), .val (.sl (.cons (.int .i64) .nil) x1.2.2.2.2.2.2.2.2.2.2.1), .val (.int .i64 x1.2.2.2.2.2.2.2.2.2.2.2.1), .val (.int .i64 x1.2.2.2.2.2.2.2.2.2.2.2.2.1), .val (.sl (.cons (.int .i64) .nil) x1.2.2.2.2.2.2.2.2.2.2.2.2.2.1), .val (.int .i64 x1.2.2.2.2.2.2.2.2.2.2.2.2.2.2.1), .val (.bool x1.2.2.2.2.2.2.2.2.2.2.2.2.2.2.2)])], []⟩
theorem zq185.v0 (x0 : THead) (x1 : THead) : V.evBody zq185.E zq185.con Tryz.f286 (V.fl4 x0 x1) = V.evC zq185.E Tryz.f286.ntmps (V.codeOf Tryz.f286) (zq185.kt x0 x1) (zq185.s x0 x1) := by kernel_rfl
theorem zq185.v (x0 : THead) (x1 : THead) : V.evC zq185.E Tryz.f286.ntmps (V.codeOf Tryz.f286) (zq185.kt x0 x1) (zq185.s x0 x1) = zq185.b x0 x1 (fun v9_0 => V.jn (V.joinF zq185.E Tryz.f286.ntmps [1, 0, 0, 1, 1] [] (V.codeOf Tryz.f286) (zq185.kt x0 x1)) (zq185.s9 x0 x1 v9_0)) := by kernel_rfl
theorem zq185.eq (x0 : THead) (x1 : THead) : V.evBody zq185.E zq185.con Tryz.f286 (V.fl4 x0 x1) = zq185 x0 x1 := by
  rw [zq185.v0, zq185.v]
  simp only [zq185.e9]
  rfl
theorem zq185.ok : V.Valid Tryz.prog 286 zq185.con :=
  V.fo (V.tab_cons zq170.ok (V.tab_cons zq145.ok (V.tab_cons zq173.ok V.tab_nil))) Tryz.func286 (by kernel_rfl) (fun x y h => (show V.evBody zq185.E zq185.con Tryz.f286 x = _ from zq185.eq (V.p4_0 x) (V.p4_1 x)).trans (V.cfl (by kernel_rfl) h))
noncomputable abbrev zq169.con : V.Con := ⟨V.A5, (.cons (.int .i64) .nil), fun (x : V.D5) => zq169 (V.p5_0 x) (V.p5_1 x), [], [(true, 16), (true, 17)], [(false, 1)], [false], []⟩
noncomputable abbrev zq169.E : V.Env := V.mkE V.tys [(183, zq153.con), (185, zq148.con), (205, zq149.con), (284, zq186.con), (285, zq184.con), (286, zq185.con), (287, zq159.con)] [(9, [2, 3, 5], []), (13, [2, 3, 5], []), (31, [3, 5, 6, 7], [])] [(4, 25), (15, 8)] [] [] []
noncomputable abbrev zq169.kt (x0 : THead) (x1 : TSigned) : V.Kt Int := V.ktOf zq169.E zq169.con Tryz.f242 (V.fl5 x0 x1)
noncomputable abbrev zq169.s31 (x1 : TSigned) (v31_0 : Int) (v31_34 : List Int) (v31_35 : Int) : V.St := ⟨[(3, .v false [.ptr 64064 0]), (5, .v false [.ptr 128128 0]), (6, .v false [.val (.int .i64 v31_0)]), (7, .v false [.ptr 512128 0])], [(64064, .box [.val (.int .i64 x1.1), .val (.int .i64 x1.2.1), .val (.int .i64 x1.2.2.1), .val (.int .i64 x1.2.2.2.1), .val (.int .i64 x1.2.2.2.2.1), .val (.int .i64 x1.2.2.2.2.2.1), .val (.int .i64 x1.2.2.2.2.2.2.1), .val (.int .i64 x1.2.2.2.2.2.2.2.1), .val (.sl (.cons (.int .i64) .nil) x1.2.2.2.2.2.2.2.2.1), .val (.int .i64 x1.2.2.2.2.2.2.2.2.2.1), .val (.sl (.cons (.int .i64) .nil) x1.2.2.2.2.2.2.2.2.2.2.1), .val (.int .i64 x1.2.2.2.2.2.2.2.2.2.2.2.1), .val (.int .i64 x1.2.2.2.2.2.2.2.2.2.2.2.2.1), .val (.sl (.cons (.int .i64) .nil) x1.2.2.2.2.2.2.2.2.2.2.2.2.2.1), .val (.int .i64 x1.2.2.2.2.2.2.2.2.2.2.2.2.2.2.1), .val (.bool x1.2.2.2.2.2.2.2.2.2.2.2.2.2.2.2.1), .val (.sl (.cons (.int .i64) (.cons (.int .i64) .nil)) x1.2.2.2.2.2.2.2.2.2.2.2.2.2.2.2.2)]), (128128, .box [.val (.int .i64 x1.1), .val (.int .i64 x1.2.1), .val (.int .i64 x1.2.2.1), .val (.int .i64 x1.2.2.2.1), .val (.int .i64 x1.2.2.2.2.1), .val (.int .i64 x1.2.2.2.2.2.1), .val (.int .i64 x1.2.2.2.2.2.2.1), .val (.int .i64 x1.2.2.2.2.2.2.2.1), .val (.sl (.cons (.int .i64) .nil) x1.2.2.2.2.2.2.2.2.1), .val (.int .i64 x1.2.2.2.2.2.2.2.2.2.1), .val (.sl (.cons (.int .i64) .nil) x1.2.2.2.2.2.2.2.2.2.2.1), .val (.int .i64 x1.2.2.2.2.2.2.2.2.2.2.2.1), .val (.int .i64 x1.2.2.2.2.2.2.2.2.2.2.2.2.1), .val (.sl (.cons (.int .i64) .nil) x1.2.2.2.2.2.2.2.2.2.2.2.2.2.1), .val (.int .i64 x1.2.2.2.2.2.2.2.2.2.2.2.2.2.2.1), .val (.bool x1.2.2.2.2.2.2.2.2.2.2.2.2.2.2.2.1)]), (512128, .box [.val (.sl (.cons (.int .i64) .nil) v31_34), .val (.int .i64 v31_35)])]⟩
noncomputable abbrev zq169.s13 (x0 : THead) (x1 : TSigned) : V.St := ⟨[(2, .v false [.ptr 64000 0]), (3, .v false [.ptr 64064 0]), (5, .v false [.ptr 128128 0])], [(64000, .box [.val (.int .i64 x0.1), .val (.int .i64 x0.2.1), .val (.int .i64 x0.2.2.1), .val (.int .i64 x0.2.2.2.1), .val (.int .i64 x0.2.2.2.2.1), .val (.int .i64 x0.2.2.2.2.2.1), .val (.int .i64 x0.2.2.2.2.2.2.1), .val (.int .i64 x0.2.2.2.2.2.2.2.1), .val (.sl (.cons (.int .i64) .nil) x0.2.2.2.2.2.2.2.2.1), .val (.int .i64 x0.2.2.2.2.2.2.2.2.2.1), .val (.sl (.cons (.int .i64) .nil) x0.2.2.2.2.2.2.2.2.2.2.1), .val (.int .i64 x0.2.2.2.2.2.2.2.2.2.2.2.1), .val (.int .i64 x0.2.2.2.2.2.2.2.2.2.2.2.2.1), .val (.sl (.cons (.int .i64) .nil) x0.2.2.2.2.2.2.2.2.2.2.2.2.2.1), .val (.int .i64 x0.2.2.2.2.2.2.2.2.2.2.2.2.2.2.1), .val (.bool x0.2.2.2.2.2.2.2.2.2.2.2.2.2.2.2)]), (64064, .box [.val (.int .i64 x1.1), .val (.int .i64 x1.2.1), .val (.int .i64 x1.2.2.1), .val (.int .i64 x1.2.2.2.1), .val (.int .i64 x1.2.2.2.2.1), .val (.int .i64 x1.2.2.2.2.2.1), .val (.int .i64 x1.2.2.2.2.2.2.1), .val (.int .i64 x1.2.2.2.2.2.2.2.1), .val (.sl (.cons (.int .i64) .nil) x1.2.2.2.2.2.2.2.2.1), .val (.int .i64 x1.2.2.2.2.2.2.2.2.2.1), .val (.sl (.cons (.int .i64) .nil) x1.2.2.2.2.2.2.2.2.2.2.1), .val (.int .i64 x1.2.2.2.2.2.2.2.2.2.2.2.1), .val (.int .i64 x1.2.2.2.2.2.2.2.2.2.2.2.2.1), .val (.sl (.cons (.int .i64) .nil) x1.2.2.2.2.2.2.2.2.2.2.2.2.2.1), .val (.int .i64 x1.2.2.2.2.2.2.2.2.2.2.2.2.2.2.1), .val (.bool x1.2.2.2.2.2.2.2.2.2.2.2.2.2.2.2.1), .val (.sl (.cons (.int .i64) (.cons (.int .i64) .nil)) x1.2.2.2.2.2.2.2.2.2.2.2.2.2.2.2.2)]), (128128, .box [.val (.int .i64 x1.1), .val (.int .i64 x1.2.1), .val (.int .i64 x1.2.2.1), .val (.int .i64 x1.2.2.2.1), .val (.int .i64 x1.2.2.2.2.1), .val (.int .i64 x1.2.2.2.2.2.1), .val (.int .i64 x1.2.2.2.2.2.2.1), .val (.int .i64 x1.2.2.2.2.2.2.2.1), .val (.sl (.cons (.int .i64) .nil) x1.2.2.2.2.2.2.2.2.1), .val (.int .i64 x1.2.2.2.2.2.2.2.2.2.1), .val (.sl (.cons (.int .i64) .nil) x1.2.2.2.2.2.2.2.2.2.2.1), .val (.int .i64 x1.2.2.2.2.2.2.2.2.2.2.2.1), .val (.int .i64 x1.2.2.2.2.2.2.2.2.2.2.2.2.1), .val (.sl (.cons (.int .i64) .nil) x1.2.2.2.2.2.2.2.2.2.2.2.2.2.1), .val (.int .i64 x1.2.2.2.2.2.2.2.2.2.2.2.2.2.2.1), .val (.bool x1.2.2.2.2.2.2.2.2.2.2.2.2.2.2.2.1)])]⟩
noncomputable abbrev zq169.s9 (x0 : THead) (x1 : TSigned) : V.St := ⟨[(2, .v false [.ptr 64000 0]), (3, .v false [.ptr 64064 0]), (5, .v false [.ptr 128128 0])], [(64000, .box [.val (.int .i64 x0.1), .val (.int .i64 x0.2.1), .val (.int .i64 x0.2.2.1), .val (.int .i64 x0.2.2.2.1), .val (.int .i64 x0.2.2.2.2.1), .val (.int .i64 x0.2.2.2.2.2.1), .val (.int .i64 x0.2.2.2.2.2.2.1), .val (.int .i64 x0.2.2.2.2.2.2.2.1), .val (.sl (.cons (.int .i64) .nil) x0.2.2.2.2.2.2.2.2.1), .val (.int .i64 x0.2.2.2.2.2.2.2.2.2.1), .val (.sl (.cons (.int .i64) .nil) x0.2.2.2.2.2.2.2.2.2.2.1), .val (.int .i64 x0.2.2.2.2.2.2.2.2.2.2.2.1), .val (.int .i64 x0.2.2.2.2.2.2.2.2.2.2.2.2.1), .val (.sl (.cons (.int .i64) .nil) x0.2.2.2.2.2.2.2.2.2.2.2.2.2.1), .val (.int .i64 x0.2.2.2.2.2.2.2.2.2.2.2.2.2.2.1), .val (.bool x0.2.2.2.2.2.2.2.2.2.2.2.2.2.2.2)]), (64064, .box [.val (.int .i64 x1.1), .val (.int .i64 x1.2.1), .val (.int .i64 x1.2.2.1), .val (.int .i64 x1.2.2.2.1), .val (.int .i64 x1.2.2.2.2.1), .val (.int .i64 x1.2.2.2.2.2.1), .val (.int .i64 x1.2.2.2.2.2.2.1), .val (.int .i64 x1.2.2.2.2.2.2.2.1), .val (.sl (.cons (.int .i64) .nil) x1.2.2.2.2.2.2.2.2.1), .val (.int .i64 x1.2.2.2.2.2.2.2.2.2.1), .val (.sl (.cons (.int .i64) .nil) x1.2.2.2.2.2.2.2.2.2.2.1), .val (.int .i64 x1.2.2.2.2.2.2.2.2.2.2.2.1), .val (.int .i64 x1.2.2.2.2.2.2.2.2.2.2.2.2.1), .val (.sl (.cons (.int .i64) .nil) x1.2.2.2.2.2.2.2.2.2.2.2.2.2.1), .val (.int .i64 x1.2.2.2.2.2.2.2.2.2.2.2.2.2.2.1), .val (.bool x1.2.2.2.2.2.2.2.2.2.2.2.2.2.2.2.1), .val (.sl (.cons (.int .i64) (.cons (.int .i64) .nil)) x1.2.2.2.2.2.2.2.2.2.2.2.2.2.2.2.2)]), (128128, .box [.val (.int .i64 x1.1), .val (.int .i64 x1.2.1), .val (.int .i64 x1.2.2.1), .val (.int .i64 x1.2.2.2.1), .val (.int .i64 x1.2.2.2.2.1), .val (.int .i64 x1.2.2.2.2.2.1), .val (.int .i64 x1.2.2.2.2.2.2.1), .val (.int .i64 x1.2.2.2.2.2.2.2.1), .val (.sl (.cons (.int .i64) .nil) x1.2.2.2.2.2.2.2.2.1), .val (.int .i64 x1.2.2.2.2.2.2.2.2.2.1), .val (.sl (.cons (.int .i64) .nil) x1.2.2.2.2.2.2.2.2.2.2.1), .val (.int .i64 x1.2.2.2.2.2.2.2.2.2.2.2.1), .val (.int .i64 x1.2.2.2.2.2.2.2.2.2.2.2.2.1), .val (.sl (.cons (.int .i64) .nil) x1.2.2.2.2.2.2.2.2.2.2.2.2.2.1), .val (.int .i64 x1.2.2.2.2.2.2.2.2.2.2.2.2.2.2.1), .val (.bool x1.2.2.2.2.2.2.2.2.2.2.2.2.2.2.2.1)])]⟩
theorem zq169.r31 (x0 : THead) (x1 : TSigned) (v31_0 : Int) (v31_34 : List Int) (v31_35 : Int) : V.joinF zq169.E Tryz.f242.ntmps [1, 1, 1, 1, 1, 1] [] (V.codeOf Tryz.f242) (zq169.kt x0 x1) (zq169.s31 x1 v31_0 v31_34 v31_35) = zq169.g31 x1 v31_0 v31_34 v31_35 := by kernel_rfl
theorem zq169.e31 (x0 : THead) (x1 : TSigned) (v31_0 : Int) (v31_34 : List Int) (v31_35 : Int) : V.jn (V.joinF zq169.E Tryz.f242.ntmps [1, 1, 1, 1, 1, 1] [] (V.codeOf Tryz.f242) (zq169.kt x0 x1)) (zq169.s31 x1 v31_0 v31_34 v31_35) = zq169.l31 x1 v31_0 v31_34 v31_35 := by
  rw [V.jn_eq, zq169.r31]
  rfl
theorem zq169.r13 (x0 : THead) (x1 : TSigned) : V.joinF zq169.E Tryz.f242.ntmps [1, 1, 1] [] (V.codeOf Tryz.f242) (zq169.kt x0 x1) (zq169.s13 x0 x1) = zq169.g13 x0 x1 (fun v31_0 v31_34 v31_35 => V.jn (V.joinF zq169.E Tryz.f242.ntmps [1, 1, 1, 1, 1, 1] [] (V.codeOf Tryz.f242) (zq169.kt x0 x1)) (zq169.s31 x1 v31_0 v31_34 v31_35)) := by kernel_rfl
theorem zq169.e13 (x0 : THead) (x1 : TSigned) : V.jn (V.joinF zq169.E Tryz.f242.ntmps [1, 1, 1] [] (V.codeOf Tryz.f242) (zq169.kt x0 x1)) (zq169.s13 x0 x1) = zq169.l13 x0 x1 := by
  rw [V.jn_eq, zq169.r13]
  simp only [zq169.e31]
  rfl
theorem zq169.r9 (x0 : THead) (x1 : TSigned) : V.joinF zq169.E Tryz.f242.ntmps [1, 1] [] (V.codeOf Tryz.f242) (zq169.kt x0 x1) (zq169.s9 x0 x1) = zq169.g9 x0 x1 (V.jn (V.joinF zq169.E Tryz.f242.ntmps [1, 1, 1] [] (V.codeOf Tryz.f242) (zq169.kt x0 x1)) (zq169.s13 x0 x1)) := by kernel_rfl
theorem zq169.e9 (x0 : THead) (x1 : TSigned) : V.jn (V.joinF zq169.E Tryz.f242.ntmps [1, 1] [] (V.codeOf Tryz.f242) (zq169.kt x0 x1)) (zq169.s9 x0 x1) = zq169.l9 x0 x1 := by
  rw [V.jn_eq, zq169.r9]
  simp only [zq169.e13]
  rfl
noncomputable abbrev zq169.s (x0 : THead) (x1 : TSigned) : V.St := ⟨[(0, .v true [.val (.int .i64 x0.1), .val (.int .i64 x0.2.1), .val (.int .i64 x0.2.2.1), .val (.int .i64 x0.2.2.2.1), .val (.int .i64 x0.2.2.2.2.1), .val (.int .i64 x0.2.2.2.2.2.1), .val (.int .i64 x0.2.2.2.2.2.2.1), .val (.int .i64 x0.2.2.2.2.2.2.2.1), .val (.sl (.cons (.int .i64) .nil) x0.2.2.2.2.2.2.2.2.1), .val (.int .i64 x0.2.2.2.2.2.2.2.2.2.1), .val (.sl (.cons (.int .i64) .nil) x0.2.2.2.2.2.2.2.2.2.2.1), .val (.int .i64 x0.2.2.2.2.2.2.2.2.2.2.2.1), .val (.int .i64 x0.2.2.2.2.2.2.2.2.2.2.2.2.1), .val (.sl (.cons (.int .i64) .nil) x0.2.2.2.2.2.2.2.2.2.2.2.2.2.1), .val (.int .i64 x0.2.2.2.2.2.2.2.2.2.2.2.2.2.2.1), .val (.bool x0.2.2.2.2.2.2.2.2.2.2.2.2.2.2.2)]), (1, .v true [.val (.int .i64 x1.1), .val (.int .i64 x1.2.1), .val (.int .i64 x1.2.2.1), .val (.int .i64 x1.2.2.2.1), .val (.int .i64 x1.2.2.2.2.1), .val (.int .i64 x1.2.2.2.2.2.1), .val (.int .i64 x1.2.2.2.2.2.2.1), .val (.int .i64 x1.2.2.2.2.2.2.2.1), .val (.sl (.cons (.int .i64) .nil) x1.2.2.2.2.2.2.2.2.1), .val (.int .i64 x1.2.2.2.2.2.2.2.2.2.1), .val (.sl (.cons (.int .i64) .nil) x1.2.2.2.2.2.2.2.2.2.2.1), .val (.int .i64 x1.2.2.2.2.2.2.2.2.2.2.2.1), .val (.int .i64 x1.2.2.2.2.2.2.2.2.2.2.2.2.1), .val (.sl (.cons (.int .i64) .nil) x1.2.2.2.2.2.2.2.2.2.2.2.2.2.1), .val (.int .i64 x1.2.2.2.2.2.2.2.2.2.2.2.2.2.2.1), .val (.bool x1.2.2.2.2.2.2.2.2.2.2.2.2.2.2.2.1), .val (.sl (.cons (.int .i64) (.cons (.int .i64) .nil)) x1.2.2.2.2.2.2.2.2.2.2.2.2.2.2.2.2)])], []⟩
theorem zq169.v0 (x0 : THead) (x1 : TSigned) : V.evBody zq169.E zq169.con Tryz.f242 (V.fl5 x0 x1) = V.evC zq169.E Tryz.f242.ntmps (V.codeOf Tryz.f242) (zq169.kt x0 x1) (zq169.s x0 x1) := by kernel_rfl
theorem zq169.v (x0 : THead) (x1 : TSigned) : V.evC zq169.E Tryz.f242.ntmps (V.codeOf Tryz.f242) (zq169.kt x0 x1) (zq169.s x0 x1) = zq169.b x0 x1 (V.jn (V.joinF zq169.E Tryz.f242.ntmps [1, 1] [] (V.codeOf Tryz.f242) (zq169.kt x0 x1)) (zq169.s9 x0 x1)) := by kernel_rfl
theorem zq169.eq (x0 : THead) (x1 : TSigned) : V.evBody zq169.E zq169.con Tryz.f242 (V.fl5 x0 x1) = zq169 x0 x1 := by
  rw [zq169.v0, zq169.v]
  simp only [zq169.e9]
  rfl
theorem zq169.ok : V.Valid Tryz.prog 242 zq169.con :=
  V.fo (V.tab_cons zq153.ok (V.tab_cons zq148.ok (V.tab_cons zq149.ok (V.tab_cons zq186.ok (V.tab_cons zq184.ok (V.tab_cons zq185.ok (V.tab_cons zq159.ok V.tab_nil))))))) Tryz.func242 (by kernel_rfl) (fun x y h => (show V.evBody zq169.E zq169.con Tryz.f242 x = _ from zq169.eq (V.p5_0 x) (V.p5_1 x)).trans (V.cfl (by kernel_rfl) h))
noncomputable abbrev zq167.con : V.Con := ⟨V.A5, (.cons .bool .nil), fun (x : V.D5) => zq167 (V.p5_0 x) (V.p5_1 x), [], [(true, 16), (true, 17)], [(false, 1)], [false], []⟩
noncomputable abbrev zq167.E : V.Env := V.mkE V.tys [(242, zq169.con)] [] [] [] [] []
noncomputable abbrev zq167.kt (x0 : THead) (x1 : TSigned) : V.Kt Bool := V.ktOf zq167.E zq167.con Tryz.f265 (V.fl5 x0 x1)
noncomputable abbrev zq167.s (x0 : THead) (x1 : TSigned) : V.St := ⟨[(0, .v true [.val (.int .i64 x0.1), .val (.int .i64 x0.2.1), .val (.int .i64 x0.2.2.1), .val (.int .i64 x0.2.2.2.1), .val (.int .i64 x0.2.2.2.2.1), .val (.int .i64 x0.2.2.2.2.2.1), .val (.int .i64 x0.2.2.2.2.2.2.1), .val (.int .i64 x0.2.2.2.2.2.2.2.1), .val (.sl (.cons (.int .i64) .nil) x0.2.2.2.2.2.2.2.2.1), .val (.int .i64 x0.2.2.2.2.2.2.2.2.2.1), .val (.sl (.cons (.int .i64) .nil) x0.2.2.2.2.2.2.2.2.2.2.1), .val (.int .i64 x0.2.2.2.2.2.2.2.2.2.2.2.1), .val (.int .i64 x0.2.2.2.2.2.2.2.2.2.2.2.2.1), .val (.sl (.cons (.int .i64) .nil) x0.2.2.2.2.2.2.2.2.2.2.2.2.2.1), .val (.int .i64 x0.2.2.2.2.2.2.2.2.2.2.2.2.2.2.1), .val (.bool x0.2.2.2.2.2.2.2.2.2.2.2.2.2.2.2)]), (1, .v true [.val (.int .i64 x1.1), .val (.int .i64 x1.2.1), .val (.int .i64 x1.2.2.1), .val (.int .i64 x1.2.2.2.1), .val (.int .i64 x1.2.2.2.2.1), .val (.int .i64 x1.2.2.2.2.2.1), .val (.int .i64 x1.2.2.2.2.2.2.1), .val (.int .i64 x1.2.2.2.2.2.2.2.1), .val (.sl (.cons (.int .i64) .nil) x1.2.2.2.2.2.2.2.2.1), .val (.int .i64 x1.2.2.2.2.2.2.2.2.2.1), .val (.sl (.cons (.int .i64) .nil) x1.2.2.2.2.2.2.2.2.2.2.1), .val (.int .i64 x1.2.2.2.2.2.2.2.2.2.2.2.1), .val (.int .i64 x1.2.2.2.2.2.2.2.2.2.2.2.2.1), .val (.sl (.cons (.int .i64) .nil) x1.2.2.2.2.2.2.2.2.2.2.2.2.2.1), .val (.int .i64 x1.2.2.2.2.2.2.2.2.2.2.2.2.2.2.1), .val (.bool x1.2.2.2.2.2.2.2.2.2.2.2.2.2.2.2.1), .val (.sl (.cons (.int .i64) (.cons (.int .i64) .nil)) x1.2.2.2.2.2.2.2.2.2.2.2.2.2.2.2.2)])], []⟩
theorem zq167.v0 (x0 : THead) (x1 : TSigned) : V.evBody zq167.E zq167.con Tryz.f265 (V.fl5 x0 x1) = V.evC zq167.E Tryz.f265.ntmps (V.codeOf Tryz.f265) (zq167.kt x0 x1) (zq167.s x0 x1) := by kernel_rfl
theorem zq167.v (x0 : THead) (x1 : TSigned) : V.evC zq167.E Tryz.f265.ntmps (V.codeOf Tryz.f265) (zq167.kt x0 x1) (zq167.s x0 x1) = zq167 x0 x1 := by kernel_rfl
theorem zq167.eq (x0 : THead) (x1 : TSigned) : V.evBody zq167.E zq167.con Tryz.f265 (V.fl5 x0 x1) = zq167 x0 x1 := (zq167.v0 x0 x1).trans (zq167.v x0 x1)
theorem zq167.ok : V.Valid Tryz.prog 265 zq167.con :=
  V.fo (V.tab_cons zq169.ok V.tab_nil) Tryz.func265 (by kernel_rfl) (fun x y h => (show V.evBody zq167.E zq167.con Tryz.f265 x = _ from zq167.eq (V.p5_0 x) (V.p5_1 x)).trans (V.cfl (by kernel_rfl) h))
noncomputable abbrev zq146.con : V.Con := ⟨(.cons (.sl V.eSigned) .nil), (.cons (.int .i64) .nil), fun (x : List TSigned) => zq146 x, [], [(false, 1)], [(false, 1)], [false], []⟩
noncomputable abbrev zq146.E : V.Env := V.mkE V.tys [(264, zq152.con), (265, zq167.con)] [(4, [0, 3], [])] [(4, 23)] [] [] []
noncomputable abbrev zq146.kt (x0 : List TSigned) : V.Kt Int := V.ktOf zq146.E zq146.con Tryz.f203 ((x0) : List TSigned)
noncomputable abbrev zq146.s4 (x0 : List TSigned) (v4_1 : Int) : V.St := ⟨[(0, .v false [.val (.sl V.eSigned x0)]), (3, .v false [.val (.int .i64 v4_1)])], []⟩
theorem zq146.r4 (x0 : List TSigned) (R : V.St → Option Int) (v4_1 : Int) : V.loopF zq146.E Tryz.f203.ntmps [1, 0, 1, 0] [] (V.codeOf Tryz.f203) (zq146.kt x0) R (zq146.s4 x0 v4_1) = zq146.g4 x0 (fun v4_1 => R (zq146.s4 x0 v4_1)) v4_1 := by kernel_rfl
theorem zq146.e4 (x0 : List TSigned) : ∀ (n : Nat) (v4_1 : Int), V.loopN (V.loopF zq146.E Tryz.f203.ntmps [1, 0, 1, 0] [] (V.codeOf Tryz.f203) (zq146.kt x0)) n (zq146.s4 x0 v4_1) = zq146.l4 x0 n v4_1 := by
  intro n
  induction n with
  | zero => intros; rw [V.loopN_z]; rfl
  | succ n ih =>
    intro v4_1
    rw [V.loopN_s, zq146.r4]
    simp only [ih]
    first | exact (zq146.u4 ..).symm | rfl
theorem zq146.v (x0 : List TSigned) : V.evBody zq146.E zq146.con Tryz.f203 ((x0) : List TSigned) = zq146.b x0 (fun v4_1 => V.loopN (V.loopF zq146.E Tryz.f203.ntmps [1, 0, 1, 0] [] (V.codeOf Tryz.f203) (zq146.kt x0)) V.KK (zq146.s4 x0 v4_1)) := by kernel_rfl
theorem zq146.eq (x0 : List TSigned) : V.evBody zq146.E zq146.con Tryz.f203 ((x0) : List TSigned) = zq146 x0 := by
  rw [zq146.v]
  simp only [zq146.e4]
  rfl
theorem zq146.ok : V.Valid Tryz.prog 203 zq146.con :=
  V.fo (V.tab_cons zq152.ok (V.tab_cons zq167.ok V.tab_nil)) Tryz.func203 (by kernel_rfl) (fun x y h => (show V.evBody zq146.E zq146.con Tryz.f203 x = _ from zq146.eq x).trans (V.cfl (by kernel_rfl) h))
noncomputable abbrev zq150.con : V.Con := ⟨(.cons (.sl V.eSigned) .nil), (.cons .bool .nil), fun (x : List TSigned) => zq150 x, [], [(false, 1)], [(false, 1)], [false], []⟩
noncomputable abbrev zq150.E : V.Env := V.mkE V.tys [(147, zq188.con), (203, zq146.con)] [] [] [] [] []
theorem zq150.eq (x0 : List TSigned) : V.evBody zq150.E zq150.con Tryz.f99 ((x0) : List TSigned) = zq150 x0 := by kernel_rfl
theorem zq150.ok : V.Valid Tryz.prog 99 zq150.con :=
  V.fo (V.tab_cons zq188.ok (V.tab_cons zq146.ok V.tab_nil)) Tryz.func99 (by kernel_rfl) (fun x y h => (show V.evBody zq150.E zq150.con Tryz.f99 x = _ from zq150.eq x).trans (V.cfl (by kernel_rfl) h))
noncomputable abbrev zq164.con : V.Con := ⟨(.cons (.sl V.eSigned) .nil), V.eRHeadBool, fun (x : List TSigned) => zq164 x, [], [(false, 1)], [(true, 16), (false, 1)], [false, false, false, false, false, false, false, false, true, false, true, false, false, true, false, false, false], []⟩
noncomputable abbrev zq164.E : V.Env := V.mkE V.tys [(99, zq150.con), (184, zq182.con)] [] [] [] [] []
theorem zq164.eq (x0 : List TSigned) : V.evBody zq164.E zq164.con Tryz.f134 ((x0) : List TSigned) = zq164 x0 := by kernel_rfl
theorem zq164.ok : V.Valid Tryz.prog 134 zq164.con :=
  V.fo (V.tab_cons zq150.ok (V.tab_cons zq182.ok V.tab_nil)) Tryz.func134 (by kernel_rfl) (fun x y h => (show V.evBody zq164.E zq164.con Tryz.f134 x = _ from zq164.eq x).trans (V.cfl (by kernel_rfl) h))
noncomputable abbrev zq155.con : V.Con := ⟨(.cons .str .nil), (.cons .bool .nil), fun (x : ByteArray) => zq155 x, [], [(false, 1)], [(false, 1)], [false], []⟩
noncomputable abbrev zq155.E : V.Env := V.mkE V.tys [(147, zq188.con)] [(7, [0], []), (8, [0, 3], [])] [] [] [] []
noncomputable abbrev zq155.kt (x0 : ByteArray) : V.Kt Bool := V.ktOf zq155.E zq155.con Tryz.f248 ((x0) : ByteArray)
noncomputable abbrev zq155.s8 (x0 : ByteArray) (v8_1 : Int) : V.St := ⟨[(0, .v false [.val (.str x0)]), (3, .v false [.val (.int .i64 v8_1)])], []⟩
noncomputable abbrev zq155.s7 (x0 : ByteArray) : V.St := ⟨[(0, .v false [.val (.str x0)])], []⟩
theorem zq155.r8 (x0 : ByteArray) (R : V.St → Option Bool) (v8_1 : Int) : V.loopF zq155.E Tryz.f248.ntmps [1, 1, 0, 1, 0] [] (V.codeOf Tryz.f248) (zq155.kt x0) R (zq155.s8 x0 v8_1) = zq155.g8 x0 (fun v8_1 => R (zq155.s8 x0 v8_1)) v8_1 := by kernel_rfl
theorem zq155.e8 (x0 : ByteArray) : ∀ (n : Nat) (v8_1 : Int), V.loopN (V.loopF zq155.E Tryz.f248.ntmps [1, 1, 0, 1, 0] [] (V.codeOf Tryz.f248) (zq155.kt x0)) n (zq155.s8 x0 v8_1) = zq155.l8 x0 n v8_1 := by
  intro n
  induction n with
  | zero => intros; rw [V.loopN_z]; rfl
  | succ n ih =>
    intro v8_1
    rw [V.loopN_s, zq155.r8]
    simp only [ih]
    first | exact (zq155.u8 ..).symm | rfl
theorem zq155.r7 (x0 : ByteArray) : V.joinF zq155.E Tryz.f248.ntmps [1] [] (V.codeOf Tryz.f248) (zq155.kt x0) (zq155.s7 x0) = zq155.g7 x0 (fun v8_1 => V.loopN (V.loopF zq155.E Tryz.f248.ntmps [1, 1, 0, 1, 0] [] (V.codeOf Tryz.f248) (zq155.kt x0)) V.KK (zq155.s8 x0 v8_1)) := by kernel_rfl
theorem zq155.e7 (x0 : ByteArray) : V.jn (V.joinF zq155.E Tryz.f248.ntmps [1] [] (V.codeOf Tryz.f248) (zq155.kt x0)) (zq155.s7 x0) = zq155.l7 x0 := by
  rw [V.jn_eq, zq155.r7]
  simp only [zq155.e8]
  rfl
theorem zq155.v (x0 : ByteArray) : V.evBody zq155.E zq155.con Tryz.f248 ((x0) : ByteArray) = zq155.b x0 (V.jn (V.joinF zq155.E Tryz.f248.ntmps [1] [] (V.codeOf Tryz.f248) (zq155.kt x0)) (zq155.s7 x0)) := by kernel_rfl
theorem zq155.eq (x0 : ByteArray) : V.evBody zq155.E zq155.con Tryz.f248 ((x0) : ByteArray) = zq155 x0 := by
  rw [zq155.v]
  simp only [zq155.e7]
  rfl
theorem zq155.ok : V.Valid Tryz.prog 248 zq155.con :=
  V.fo (V.tab_cons zq188.ok V.tab_nil) Tryz.func248 (by kernel_rfl) (fun x y h => (show V.evBody zq155.E zq155.con Tryz.f248 x = _ from zq155.eq x).trans (V.cfl (by kernel_rfl) h))
noncomputable abbrev zq156.con : V.Con := ⟨(.cons (.sl (.cons .str .nil)) .nil), (.cons .bool .nil), fun (x : List ByteArray) => zq156 x, [], [(false, 1)], [(false, 1)], [false], []⟩
noncomputable abbrev zq156.E : V.Env := V.mkE V.tys [(147, zq188.con), (248, zq155.con)] [(4, [0, 3], [])] [] [] [] []
noncomputable abbrev zq156.kt (x0 : List ByteArray) : V.Kt Bool := V.ktOf zq156.E zq156.con Tryz.f249 ((x0) : List ByteArray)
noncomputable abbrev zq156.s4 (x0 : List ByteArray) (v4_1 : Int) : V.St := ⟨[(0, .v false [.val (.sl (.cons .str .nil) x0)]), (3, .v false [.val (.int .i64 v4_1)])], []⟩
theorem zq156.r4 (x0 : List ByteArray) (R : V.St → Option Bool) (v4_1 : Int) : V.loopF zq156.E Tryz.f249.ntmps [1, 0, 1, 0] [] (V.codeOf Tryz.f249) (zq156.kt x0) R (zq156.s4 x0 v4_1) = zq156.g4 x0 (fun v4_1 => R (zq156.s4 x0 v4_1)) v4_1 := by kernel_rfl
theorem zq156.e4 (x0 : List ByteArray) : ∀ (n : Nat) (v4_1 : Int), V.loopN (V.loopF zq156.E Tryz.f249.ntmps [1, 0, 1, 0] [] (V.codeOf Tryz.f249) (zq156.kt x0)) n (zq156.s4 x0 v4_1) = zq156.l4 x0 n v4_1 := by
  intro n
  induction n with
  | zero => intros; rw [V.loopN_z]; rfl
  | succ n ih =>
    intro v4_1
    rw [V.loopN_s, zq156.r4]
    simp only [ih]
    first | exact (zq156.u4 ..).symm | rfl
theorem zq156.v (x0 : List ByteArray) : V.evBody zq156.E zq156.con Tryz.f249 ((x0) : List ByteArray) = zq156.b x0 (fun v4_1 => V.loopN (V.loopF zq156.E Tryz.f249.ntmps [1, 0, 1, 0] [] (V.codeOf Tryz.f249) (zq156.kt x0)) V.KK (zq156.s4 x0 v4_1)) := by kernel_rfl
theorem zq156.eq (x0 : List ByteArray) : V.evBody zq156.E zq156.con Tryz.f249 ((x0) : List ByteArray) = zq156 x0 := by
  rw [zq156.v]
  simp only [zq156.e4]
  rfl
theorem zq156.ok : V.Valid Tryz.prog 249 zq156.con :=
  V.fo (V.tab_cons zq188.ok (V.tab_cons zq155.ok V.tab_nil)) Tryz.func249 (by kernel_rfl) (fun x y h => (show V.evBody zq156.E zq156.con Tryz.f249 x = _ from zq156.eq x).trans (V.cfl (by kernel_rfl) h))
noncomputable abbrev zq151.con : V.Con := ⟨V.eEntry, (.cons .bool .nil), fun (x : ByteArray × Int × Int × List ByteArray) => zq151 x, [], [(true, 4)], [(false, 1)], [false], []⟩
noncomputable abbrev zq151.E : V.Env := V.mkE V.tys [(147, zq188.con), (248, zq155.con), (249, zq156.con)] [] [] [] [] []
theorem zq151.eq (x0 : TEntry) : V.evBody zq151.E zq151.con Tryz.f186 ((x0.1, x0.2.1, x0.2.2.1, x0.2.2.2) : ByteArray × Int × Int × List ByteArray) = zq151 x0 := by kernel_rfl
theorem zq151.ok : V.Valid Tryz.prog 186 zq151.con :=
  V.fo (V.tab_cons zq188.ok (V.tab_cons zq155.ok (V.tab_cons zq156.ok V.tab_nil))) Tryz.func186 (by kernel_rfl) (fun x y h => (show V.evBody zq151.E zq151.con Tryz.f186 x = _ from zq151.eq x).trans (V.cfl (by kernel_rfl) h))
noncomputable abbrev zq141.con : V.Con := ⟨(.cons .str (.cons .str .nil)), (.cons (.int .i64) .nil), fun (x : ByteArray × ByteArray) => zq141 x.1 x.2, [], [(false, 1), (false, 1)], [(false, 1)], [false], []⟩
noncomputable abbrev zq141.E : V.Env := V.mkE V.tys [] [] [] [] [] []
theorem zq141.eq (x0 : ByteArray) (x1 : ByteArray) : V.evBody zq141.E zq141.con Tryz.f187 ((x0, x1) : ByteArray × ByteArray) = zq141 x0 x1 := by kernel_rfl
theorem zq141.ok : V.Valid Tryz.prog 187 zq141.con :=
  V.fo V.tab_nil Tryz.func187 (by kernel_rfl) (fun x y h => (show V.evBody zq141.E zq141.con Tryz.f187 x = _ from zq141.eq x.1 x.2).trans (V.cfl (by kernel_rfl) h))
noncomputable abbrev zq138.con : V.Con := ⟨(.cons (.sl V.eEntry) .nil), (.cons .bool .nil), fun (x : List TEntry) => zq138 x, [], [(false, 1)], [(false, 1)], [false], []⟩
noncomputable abbrev zq138.E : V.Env := V.mkE V.tys [(186, zq151.con), (187, zq141.con)] [(4, [0, 3], [])] [(4, 21)] [] [] []
noncomputable abbrev zq138.kt (x0 : List TEntry) : V.Kt Bool := V.ktOf zq138.E zq138.con Tryz.f87 ((x0) : List TEntry)
noncomputable abbrev zq138.s4 (x0 : List TEntry) (v4_1 : Int) : V.St := ⟨[(0, .v false [.val (.sl V.eEntry x0)]), (3, .v false [.val (.int .i64 v4_1)])], []⟩
theorem zq138.r4 (x0 : List TEntry) (R : V.St → Option Bool) (v4_1 : Int) : V.loopF zq138.E Tryz.f87.ntmps [1, 0, 1, 0] [] (V.codeOf Tryz.f87) (zq138.kt x0) R (zq138.s4 x0 v4_1) = zq138.g4 x0 (fun v4_1 => R (zq138.s4 x0 v4_1)) v4_1 := by kernel_rfl
theorem zq138.e4 (x0 : List TEntry) : ∀ (n : Nat) (v4_1 : Int), V.loopN (V.loopF zq138.E Tryz.f87.ntmps [1, 0, 1, 0] [] (V.codeOf Tryz.f87) (zq138.kt x0)) n (zq138.s4 x0 v4_1) = zq138.l4 x0 n v4_1 := by
  intro n
  induction n with
  | zero => intros; rw [V.loopN_z]; rfl
  | succ n ih =>
    intro v4_1
    rw [V.loopN_s, zq138.r4]
    simp only [ih]
    first | exact (zq138.u4 ..).symm | rfl
theorem zq138.v (x0 : List TEntry) : V.evBody zq138.E zq138.con Tryz.f87 ((x0) : List TEntry) = zq138.b x0 (fun v4_1 => V.loopN (V.loopF zq138.E Tryz.f87.ntmps [1, 0, 1, 0] [] (V.codeOf Tryz.f87) (zq138.kt x0)) V.KK (zq138.s4 x0 v4_1)) := by kernel_rfl
theorem zq138.eq (x0 : List TEntry) : V.evBody zq138.E zq138.con Tryz.f87 ((x0) : List TEntry) = zq138 x0 := by
  rw [zq138.v]
  simp only [zq138.e4]
  rfl
theorem zq138.ok : V.Valid Tryz.prog 87 zq138.con :=
  V.fo (V.tab_cons zq151.ok (V.tab_cons zq141.ok V.tab_nil)) Tryz.func87 (by kernel_rfl) (fun x y h => (show V.evBody zq138.E zq138.con Tryz.f87 x = _ from zq138.eq x).trans (V.cfl (by kernel_rfl) h))
noncomputable abbrev zq139.con : V.Con := ⟨(.cons (.sl (.cons (.int .u8) .nil)) .nil), (.cons (.sl (.cons (.int .i64) .nil)) .nil), fun (x : List Int) => zq139 x, [], [(false, 1)], [(false, 1)], [true], []⟩
noncomputable abbrev zq139.E : V.Env := V.mkE V.tys [] [(6, [0, 3, 4], [])] [] [] [] []
noncomputable abbrev zq139.kt (x0 : List Int) : V.Kt (List Int) := V.ktOf zq139.E zq139.con Tryz.f317 ((x0) : List Int)
noncomputable abbrev zq139.s6 (x0 : List Int) (v6_1 : Int) (v6_2 : List Int) : V.St := ⟨[(0, .v false [.val (.sl (.cons (.int .u8) .nil) x0)]), (3, .v false [.ref 64000038400192]), (4, .v false [.val (.int .i64 v6_1)])], [(64000038400192, .row (.cons (.int .i64) .nil) true v6_2)]⟩
theorem zq139.r6 (x0 : List Int) (R : V.St → Option (List Int)) (v6_1 : Int) (v6_2 : List Int) : V.loopF zq139.E Tryz.f317.ntmps [1, 1, 0, 1, 0] [] (V.codeOf Tryz.f317) (zq139.kt x0) R (zq139.s6 x0 v6_1 v6_2) = zq139.g6 x0 (fun v6_1 v6_2 => R (zq139.s6 x0 v6_1 v6_2)) v6_1 v6_2 := by kernel_rfl
theorem zq139.e6 (x0 : List Int) : ∀ (n : Nat) (v6_1 : Int) (v6_2 : List Int), V.loopN (V.loopF zq139.E Tryz.f317.ntmps [1, 1, 0, 1, 0] [] (V.codeOf Tryz.f317) (zq139.kt x0)) n (zq139.s6 x0 v6_1 v6_2) = zq139.l6 x0 n v6_1 v6_2 := by
  intro n
  induction n with
  | zero => intros; rw [V.loopN_z]; rfl
  | succ n ih =>
    intro v6_1 v6_2
    rw [V.loopN_s, zq139.r6]
    simp only [ih]
    first | exact (zq139.u6 ..).symm | rfl
theorem zq139.v (x0 : List Int) : V.evBody zq139.E zq139.con Tryz.f317 ((x0) : List Int) = zq139.b x0 (fun v6_1 v6_2 => V.loopN (V.loopF zq139.E Tryz.f317.ntmps [1, 1, 0, 1, 0] [] (V.codeOf Tryz.f317) (zq139.kt x0)) V.KK (zq139.s6 x0 v6_1 v6_2)) := by kernel_rfl
theorem zq139.eq (x0 : List Int) : V.evBody zq139.E zq139.con Tryz.f317 ((x0) : List Int) = zq139 x0 := by
  rw [zq139.v]
  simp only [zq139.e6]
  rfl
theorem zq139.ok : V.Valid Tryz.prog 317 zq139.con :=
  V.fo V.tab_nil Tryz.func317 (by kernel_rfl) (fun x y h => (show V.evBody zq139.E zq139.con Tryz.f317 x = _ from zq139.eq x).trans (V.cfl (by kernel_rfl) h))
noncomputable abbrev zq163.con : V.Con := ⟨(.cons .str .nil), (.cons (.sl (.cons (.int .i64) .nil)) .nil), fun (x : ByteArray) => zq163 x, [], [(false, 1)], [(false, 1)], [true], []⟩
noncomputable abbrev zq163.E : V.Env := V.mkE V.tys [(317, zq139.con)] [] [] [] [] []
theorem zq163.eq (x0 : ByteArray) : V.evBody zq163.E zq163.con Tryz.f311 ((x0) : ByteArray) = zq163 x0 := by kernel_rfl
theorem zq163.ok : V.Valid Tryz.prog 311 zq163.con :=
  V.fo (V.tab_cons zq139.ok V.tab_nil) Tryz.func311 (by kernel_rfl) (fun x y h => (show V.evBody zq163.E zq163.con Tryz.f311 x = _ from zq163.eq x).trans (V.cfl (by kernel_rfl) h))
noncomputable abbrev zq143.con : V.Con := ⟨V.eEntry, (.cons (.sl (.cons (.int .i64) .nil)) .nil), fun (x : ByteArray × Int × Int × List ByteArray) => zq143 x, [], [(true, 4)], [(false, 1)], [true], []⟩
noncomputable abbrev zq143.E : V.Env := V.mkE V.tys [(311, zq163.con)] [(6, [1, 3, 4], [])] [(1, 11)] [] [] []
noncomputable abbrev zq143.kt (x0 : TEntry) : V.Kt (List Int) := V.ktOf zq143.E zq143.con Tryz.f294 ((x0.1, x0.2.1, x0.2.2.1, x0.2.2.2) : ByteArray × Int × Int × List ByteArray)
noncomputable abbrev zq143.s6 (x0 : TEntry) (v6_0 : Int) (v6_5 : List Int) : V.St := ⟨[(1, .v false [.ptr 64000 0]), (3, .v false [.ref 64000038400192]), (4, .v false [.val (.int .i64 v6_0)])], [(64000, .box [.val (.str x0.1), .val (.int .i64 x0.2.1), .val (.int .i64 x0.2.2.1), .val (.sl (.cons .str .nil) x0.2.2.2)]), (64000038400192, .row (.cons (.int .i64) .nil) true v6_5)]⟩
theorem zq143.r6 (x0 : TEntry) (R : V.St → Option (List Int)) (v6_0 : Int) (v6_5 : List Int) : V.loopF zq143.E Tryz.f294.ntmps [1, 1, 0, 1, 0] [] (V.codeOf Tryz.f294) (zq143.kt x0) R (zq143.s6 x0 v6_0 v6_5) = zq143.g6 x0 (fun v6_0 v6_5 => R (zq143.s6 x0 v6_0 v6_5)) v6_0 v6_5 := by kernel_rfl
theorem zq143.e6 (x0 : TEntry) : ∀ (n : Nat) (v6_0 : Int) (v6_5 : List Int), V.loopN (V.loopF zq143.E Tryz.f294.ntmps [1, 1, 0, 1, 0] [] (V.codeOf Tryz.f294) (zq143.kt x0)) n (zq143.s6 x0 v6_0 v6_5) = zq143.l6 x0 n v6_0 v6_5 := by
  intro n
  induction n with
  | zero => intros; rw [V.loopN_z]; rfl
  | succ n ih =>
    intro v6_0 v6_5
    rw [V.loopN_s, zq143.r6]
    simp only [ih]
    first | exact (zq143.u6 ..).symm | rfl
theorem zq143.v (x0 : TEntry) : V.evBody zq143.E zq143.con Tryz.f294 ((x0.1, x0.2.1, x0.2.2.1, x0.2.2.2) : ByteArray × Int × Int × List ByteArray) = zq143.b x0 (fun v6_0 v6_5 => V.loopN (V.loopF zq143.E Tryz.f294.ntmps [1, 1, 0, 1, 0] [] (V.codeOf Tryz.f294) (zq143.kt x0)) V.KK (zq143.s6 x0 v6_0 v6_5)) := by kernel_rfl
theorem zq143.eq (x0 : TEntry) : V.evBody zq143.E zq143.con Tryz.f294 ((x0.1, x0.2.1, x0.2.2.1, x0.2.2.2) : ByteArray × Int × Int × List ByteArray) = zq143 x0 := by
  rw [zq143.v]
  simp only [zq143.e6]
  rfl
theorem zq143.ok : V.Valid Tryz.prog 294 zq143.con :=
  V.fo (V.tab_cons zq163.ok V.tab_nil) Tryz.func294 (by kernel_rfl) (fun x y h => (show V.evBody zq143.E zq143.con Tryz.f294 x = _ from zq143.eq x).trans (V.cfl (by kernel_rfl) h))
noncomputable abbrev zq165.con : V.Con := ⟨V.eEntry, (.cons (.int .i64) .nil), fun (x : ByteArray × Int × Int × List ByteArray) => zq165 x, [], [(true, 4)], [(false, 1)], [false], []⟩
noncomputable abbrev zq165.E : V.Env := V.mkE V.tys [(247, zq147.con), (294, zq143.con)] [] [] [] [] []
theorem zq165.eq (x0 : TEntry) : V.evBody zq165.E zq165.con Tryz.f251 ((x0.1, x0.2.1, x0.2.2.1, x0.2.2.2) : ByteArray × Int × Int × List ByteArray) = zq165 x0 := by kernel_rfl
theorem zq165.ok : V.Valid Tryz.prog 251 zq165.con :=
  V.fo (V.tab_cons zq147.ok (V.tab_cons zq143.ok V.tab_nil)) Tryz.func251 (by kernel_rfl) (fun x y h => (show V.evBody zq165.E zq165.con Tryz.f251 x = _ from zq165.eq x).trans (V.cfl (by kernel_rfl) h))
noncomputable abbrev zq166.con : V.Con := ⟨(.cons (.sl V.eEntry) .nil), (.cons (.sl (.cons (.int .i64) .nil)) .nil), fun (x : List TEntry) => zq166 x, [], [(false, 1)], [(false, 1)], [true], []⟩
noncomputable abbrev zq166.E : V.Env := V.mkE V.tys [(251, zq165.con)] [(6, [0, 3, 4], [(64000038400192, (.cons (.int .i64) .nil), true)])] [] [] [] []
noncomputable abbrev zq166.kt (x0 : List TEntry) : V.Kt (List Int) := V.ktOf zq166.E zq166.con Tryz.f190 ((x0) : List TEntry)
noncomputable abbrev zq166.s6 (x0 : List TEntry) (v6_1 : Int) (v6_2 : List Int) : V.St := ⟨[(0, .v false [.val (.sl V.eEntry x0)]), (3, .v false [.ref 64000038400192]), (4, .v false [.val (.int .i64 v6_1)])], [(64000038400192, .row (.cons (.int .i64) .nil) true v6_2)]⟩
theorem zq166.r6 (x0 : List TEntry) (R : V.St → Option (List Int)) (v6_1 : Int) (v6_2 : List Int) : V.loopF zq166.E Tryz.f190.ntmps [1, 1, 0, 1, 0] [] (V.codeOf Tryz.f190) (zq166.kt x0) R (zq166.s6 x0 v6_1 v6_2) = zq166.g6 x0 (fun v6_1 v6_2 => R (zq166.s6 x0 v6_1 v6_2)) v6_1 v6_2 := by kernel_rfl
theorem zq166.e6 (x0 : List TEntry) : ∀ (n : Nat) (v6_1 : Int) (v6_2 : List Int), V.loopN (V.loopF zq166.E Tryz.f190.ntmps [1, 1, 0, 1, 0] [] (V.codeOf Tryz.f190) (zq166.kt x0)) n (zq166.s6 x0 v6_1 v6_2) = zq166.l6 x0 n v6_1 v6_2 := by
  intro n
  induction n with
  | zero => intros; rw [V.loopN_z]; rfl
  | succ n ih =>
    intro v6_1 v6_2
    rw [V.loopN_s, zq166.r6]
    simp only [ih]
    first | exact (zq166.u6 ..).symm | rfl
theorem zq166.v (x0 : List TEntry) : V.evBody zq166.E zq166.con Tryz.f190 ((x0) : List TEntry) = zq166.b x0 (fun v6_1 v6_2 => V.loopN (V.loopF zq166.E Tryz.f190.ntmps [1, 1, 0, 1, 0] [] (V.codeOf Tryz.f190) (zq166.kt x0)) V.KK (zq166.s6 x0 v6_1 v6_2)) := by kernel_rfl
theorem zq166.eq (x0 : List TEntry) : V.evBody zq166.E zq166.con Tryz.f190 ((x0) : List TEntry) = zq166 x0 := by
  rw [zq166.v]
  simp only [zq166.e6]
  rfl
theorem zq166.ok : V.Valid Tryz.prog 190 zq166.con :=
  V.fo (V.tab_cons zq165.ok V.tab_nil) Tryz.func190 (by kernel_rfl) (fun x y h => (show V.evBody zq166.E zq166.con Tryz.f190 x = _ from zq166.eq x).trans (V.cfl (by kernel_rfl) h))
noncomputable abbrev zq171.con : V.Con := ⟨(.cons (.int .i64) (.cons (.int .i64) .nil)), (.cons (.int .i64) .nil), fun (x : Int × Int) => zq171 x.1 x.2, [], [(false, 1), (false, 1)], [(false, 1)], [false], []⟩
noncomputable abbrev zq171.E : V.Env := V.mkE V.tys [(247, zq147.con)] [] [] [] [] []
theorem zq171.eq (x0 : Int) (x1 : Int) : V.evBody zq171.E zq171.con Tryz.f293 ((x0, x1) : Int × Int) = zq171 x0 x1 := by kernel_rfl
theorem zq171.ok : V.Valid Tryz.prog 293 zq171.con :=
  V.fo (V.tab_cons zq147.ok V.tab_nil) Tryz.func293 (by kernel_rfl) (fun x y h => (show V.evBody zq171.E zq171.con Tryz.f293 x = _ from zq171.eq x.1 x.2).trans (V.cfl (by kernel_rfl) h))
noncomputable abbrev zq181.con : V.Con := ⟨(.cons (.sl (.cons (.int .i64) .nil)) .nil), (.cons (.sl (.cons (.int .i64) .nil)) .nil), fun (x : List Int) => zq181 x, [], [(false, 1)], [(false, 1)], [true], []⟩
noncomputable abbrev zq181.E : V.Env := V.mkE V.tys [(293, zq171.con)] [(6, [0, 3, 4], [(64000038400192, (.cons (.int .i64) .nil), true)])] [(6, 12)] [] [] []
noncomputable abbrev zq181.kt (x0 : List Int) : V.Kt (List Int) := V.ktOf zq181.E zq181.con Tryz.f250 ((x0) : List Int)
noncomputable abbrev zq181.s6 (x0 : List Int) (v6_1 : Int) (v6_2 : List Int) : V.St := ⟨[(0, .v false [.val (.sl (.cons (.int .i64) .nil) x0)]), (3, .v false [.ref 64000038400192]), (4, .v false [.val (.int .i64 v6_1)])], [(64000038400192, .row (.cons (.int .i64) .nil) true v6_2)]⟩
theorem zq181.r6 (x0 : List Int) (R : V.St → Option (List Int)) (v6_1 : Int) (v6_2 : List Int) : V.loopF zq181.E Tryz.f250.ntmps [1, 1, 0, 1, 0] [] (V.codeOf Tryz.f250) (zq181.kt x0) R (zq181.s6 x0 v6_1 v6_2) = zq181.g6 x0 (fun v6_1 v6_2 => R (zq181.s6 x0 v6_1 v6_2)) v6_1 v6_2 := by kernel_rfl
theorem zq181.e6 (x0 : List Int) : ∀ (n : Nat) (v6_1 : Int) (v6_2 : List Int), V.loopN (V.loopF zq181.E Tryz.f250.ntmps [1, 1, 0, 1, 0] [] (V.codeOf Tryz.f250) (zq181.kt x0)) n (zq181.s6 x0 v6_1 v6_2) = zq181.l6 x0 n v6_1 v6_2 := by
  intro n
  induction n with
  | zero => intros; rw [V.loopN_z]; rfl
  | succ n ih =>
    intro v6_1 v6_2
    rw [V.loopN_s, zq181.r6]
    simp only [ih]
    first | exact (zq181.u6 ..).symm | rfl
theorem zq181.v (x0 : List Int) : V.evBody zq181.E zq181.con Tryz.f250 ((x0) : List Int) = zq181.b x0 (fun v6_1 v6_2 => V.loopN (V.loopF zq181.E Tryz.f250.ntmps [1, 1, 0, 1, 0] [] (V.codeOf Tryz.f250) (zq181.kt x0)) V.KK (zq181.s6 x0 v6_1 v6_2)) := by kernel_rfl
theorem zq181.eq (x0 : List Int) : V.evBody zq181.E zq181.con Tryz.f250 ((x0) : List Int) = zq181 x0 := by
  rw [zq181.v]
  simp only [zq181.e6]
  rfl
theorem zq181.ok : V.Valid Tryz.prog 250 zq181.con :=
  V.fo (V.tab_cons zq171.ok V.tab_nil) Tryz.func250 (by kernel_rfl) (fun x y h => (show V.evBody zq181.E zq181.con Tryz.f250 x = _ from zq181.eq x).trans (V.cfl (by kernel_rfl) h))
noncomputable abbrev zq177.con : V.Con := ⟨(.cons (.sl (.cons (.int .i64) .nil)) .nil), (.cons (.int .i64) .nil), fun (x : List Int) => zq177 x, [], [(false, 1)], [(false, 1)], [false], []⟩
noncomputable abbrev zq177.E : V.Env := V.mkE V.tys [(247, zq147.con), (250, zq181.con)] [(8, [3], [(3, (.cons (.int .i64) .nil), false)])] [] [] [] []
noncomputable abbrev zq177.kt (x0 : List Int) : V.Kt Int := V.ktOf zq177.E zq177.con Tryz.f189 ((x0) : List Int)
noncomputable abbrev zq177.s8 (v8_0 : List Int) : V.St := ⟨[(3, .v false [.val (.sl (.cons (.int .i64) .nil) v8_0)])], []⟩
theorem zq177.r8 (x0 : List Int) (R : V.St → Option Int) (v8_0 : List Int) : V.loopF zq177.E Tryz.f189.ntmps [1, 1, 1, 0, 0] [] (V.codeOf Tryz.f189) (zq177.kt x0) R (zq177.s8 v8_0) = zq177.g8 (fun v8_0 => R (zq177.s8 v8_0)) v8_0 := by kernel_rfl
theorem zq177.e8 (x0 : List Int) : ∀ (n : Nat) (v8_0 : List Int), V.loopN (V.loopF zq177.E Tryz.f189.ntmps [1, 1, 1, 0, 0] [] (V.codeOf Tryz.f189) (zq177.kt x0)) n (zq177.s8 v8_0) = zq177.l8 n v8_0 := by
  intro n
  induction n with
  | zero => intros; rw [V.loopN_z]; rfl
  | succ n ih =>
    intro v8_0
    rw [V.loopN_s, zq177.r8]
    simp only [ih]
    first | exact (zq177.u8 ..).symm | rfl
theorem zq177.v (x0 : List Int) : V.evBody zq177.E zq177.con Tryz.f189 ((x0) : List Int) = zq177.b x0 (fun v8_0 => V.loopN (V.loopF zq177.E Tryz.f189.ntmps [1, 1, 1, 0, 0] [] (V.codeOf Tryz.f189) (zq177.kt x0)) V.KK (zq177.s8 v8_0)) := by kernel_rfl
theorem zq177.eq (x0 : List Int) : V.evBody zq177.E zq177.con Tryz.f189 ((x0) : List Int) = zq177 x0 := by
  rw [zq177.v]
  simp only [zq177.e8]
  rfl
theorem zq177.ok : V.Valid Tryz.prog 189 zq177.con :=
  V.fo (V.tab_cons zq147.ok (V.tab_cons zq181.ok V.tab_nil)) Tryz.func189 (by kernel_rfl) (fun x y h => (show V.evBody zq177.E zq177.con Tryz.f189 x = _ from zq177.eq x).trans (V.cfl (by kernel_rfl) h))
noncomputable abbrev zq180.con : V.Con := ⟨(.cons (.int .i64) (.cons (.int .i64) .nil)), (.cons (.int .i64) .nil), fun (x : Int × Int) => zq180 x.1 x.2, [], [(false, 1), (false, 1)], [(false, 1)], [false], []⟩
noncomputable abbrev zq180.E : V.Env := V.mkE V.tys [(247, zq147.con)] [] [] [] [] []
theorem zq180.eq (x0 : Int) (x1 : Int) : V.evBody zq180.E zq180.con Tryz.f188 ((x0, x1) : Int × Int) = zq180 x0 x1 := by kernel_rfl
theorem zq180.ok : V.Valid Tryz.prog 188 zq180.con :=
  V.fo (V.tab_cons zq147.ok V.tab_nil) Tryz.func188 (by kernel_rfl) (fun x y h => (show V.evBody zq180.E zq180.con Tryz.f188 x = _ from zq180.eq x.1 x.2).trans (V.cfl (by kernel_rfl) h))
noncomputable abbrev zq172.con : V.Con := ⟨(.cons (.sl V.eEntry) .nil), (.cons (.int .i64) .nil), fun (x : List TEntry) => zq172 x, [], [(false, 1)], [(false, 1)], [false], []⟩
noncomputable abbrev zq172.E : V.Env := V.mkE V.tys [(188, zq180.con), (189, zq177.con), (190, zq166.con)] [] [] [] [] []
theorem zq172.eq (x0 : List TEntry) : V.evBody zq172.E zq172.con Tryz.f88 ((x0) : List TEntry) = zq172 x0 := by kernel_rfl
theorem zq172.ok : V.Valid Tryz.prog 88 zq172.con :=
  V.fo (V.tab_cons zq180.ok (V.tab_cons zq177.ok (V.tab_cons zq166.ok V.tab_nil))) Tryz.func88 (by kernel_rfl) (fun x y h => (show V.evBody zq172.E zq172.con Tryz.f88 x = _ from zq172.eq x).trans (V.cfl (by kernel_rfl) h))
noncomputable abbrev zq140.con : V.Con := ⟨(.cons (.int .i64) (.cons (.sl V.eEntry) .nil)), (.cons .bool .nil), fun (x : Int × List TEntry) => zq140 x.1 x.2, [], [(false, 1), (false, 1)], [(false, 1)], [false], []⟩
noncomputable abbrev zq140.E : V.Env := V.mkE V.tys [(87, zq138.con), (88, zq172.con)] [] [] [] [] []
theorem zq140.eq (x0 : Int) (x1 : List TEntry) : V.evBody zq140.E zq140.con Tryz.f135 ((x0, x1) : Int × List TEntry) = zq140 x0 x1 := by kernel_rfl
theorem zq140.ok : V.Valid Tryz.prog 135 zq140.con :=
  V.fo (V.tab_cons zq138.ok (V.tab_cons zq172.ok V.tab_nil)) Tryz.func135 (by kernel_rfl) (fun x y h => (show V.evBody zq140.E zq140.con Tryz.f135 x = _ from zq140.eq x.1 x.2).trans (V.cfl (by kernel_rfl) h))
noncomputable abbrev zq160.con : V.Con := ⟨(.cons (.sl V.eSigned) (.cons (.sl V.eEntry) .nil)), (.cons .bool .nil), fun (x : List TSigned × List TEntry) => zq160 x, [], [(true, 2)], [(false, 1)], [false], []⟩
noncomputable abbrev zq160.E : V.Env := V.mkE V.tys [(134, zq164.con), (135, zq140.con)] [] [] [] [] []
theorem zq160.eq (x0 : TZone) : V.evBody zq160.E zq160.con Tryz.f44 ((x0.1, x0.2) : List TSigned × List TEntry) = zq160 x0 := by kernel_rfl
theorem zq160.ok : V.Valid Tryz.prog 44 zq160.con :=
  V.fo (V.tab_cons zq164.ok (V.tab_cons zq140.ok V.tab_nil)) Tryz.func44 (by kernel_rfl) (fun x y h => (show V.evBody zq160.E zq160.con Tryz.f44 x = _ from zq160.eq x).trans (V.cfl (by kernel_rfl) h))
noncomputable abbrev zq157.con : V.Con := ⟨(.cons (.sl (.cons (.sl V.eSigned) (.cons (.sl V.eEntry) .nil))) (.cons (.int .i64) .nil)), (.cons .bool .nil), fun (x : List TZone × Int) => zq157 x, [], [(true, 2)], [(false, 1)], [false], []⟩
noncomputable abbrev zq157.E : V.Env := V.mkE V.tys [(44, zq160.con), (147, zq188.con)] [(4, [1, 3], [])] [] [] [] []
noncomputable abbrev zq157.kt (x0 : TServer) : V.Kt Bool := V.ktOf zq157.E zq157.con Tryz.f59 ((x0.1, x0.2) : List TZone × Int)
noncomputable abbrev zq157.s4 (x0 : TServer) (v4_0 : Int) : V.St := ⟨[(1, .v false [.ptr 64000 0]), (3, .v false [.val (.int .i64 v4_0)])], [(64000, .box [.val (.sl (.cons (.sl V.eSigned) (.cons (.sl V.eEntry) .nil)) x0.1), .val (.int .i64 x0.2)])]⟩
theorem zq157.r4 (x0 : TServer) (R : V.St → Option Bool) (v4_0 : Int) : V.loopF zq157.E Tryz.f59.ntmps [1, 0, 1, 0] [] (V.codeOf Tryz.f59) (zq157.kt x0) R (zq157.s4 x0 v4_0) = zq157.g4 x0 (fun v4_0 => R (zq157.s4 x0 v4_0)) v4_0 := by kernel_rfl
theorem zq157.e4 (x0 : TServer) : ∀ (n : Nat) (v4_0 : Int), V.loopN (V.loopF zq157.E Tryz.f59.ntmps [1, 0, 1, 0] [] (V.codeOf Tryz.f59) (zq157.kt x0)) n (zq157.s4 x0 v4_0) = zq157.l4 x0 n v4_0 := by
  intro n
  induction n with
  | zero => intros; rw [V.loopN_z]; rfl
  | succ n ih =>
    intro v4_0
    rw [V.loopN_s, zq157.r4]
    simp only [ih]
    first | exact (zq157.u4 ..).symm | rfl
theorem zq157.v (x0 : TServer) : V.evBody zq157.E zq157.con Tryz.f59 ((x0.1, x0.2) : List TZone × Int) = zq157.b x0 (fun v4_0 => V.loopN (V.loopF zq157.E Tryz.f59.ntmps [1, 0, 1, 0] [] (V.codeOf Tryz.f59) (zq157.kt x0)) V.KK (zq157.s4 x0 v4_0)) := by kernel_rfl
theorem zq157.eq (x0 : TServer) : V.evBody zq157.E zq157.con Tryz.f59 ((x0.1, x0.2) : List TZone × Int) = zq157 x0 := by
  rw [zq157.v]
  simp only [zq157.e4]
  rfl
theorem zq157.ok : V.Valid Tryz.prog 59 zq157.con :=
  V.fo (V.tab_cons zq160.ok (V.tab_cons zq188.ok V.tab_nil)) Tryz.func59 (by kernel_rfl) (fun x y h => (show V.evBody zq157.E zq157.con Tryz.f59 x = _ from zq157.eq x).trans (V.cfl (by kernel_rfl) h))
noncomputable abbrev zq178.con : V.Con := ⟨(.cons (.sl V.eSigned) (.cons (.sl V.eEntry) .nil)), (.cons (.int .i64) .nil), fun (x : List TSigned × List TEntry) => zq178 x, [], [(true, 2)], [(false, 1)], [false], []⟩
noncomputable abbrev zq178.E : V.Env := V.mkE V.tys [(44, zq160.con), (134, zq164.con)] [] [] [] [] []
theorem zq178.eq (x0 : TZone) : V.evBody zq178.E zq178.con Tryz.f48 ((x0.1, x0.2) : List TSigned × List TEntry) = zq178 x0 := by kernel_rfl
theorem zq178.ok : V.Valid Tryz.prog 48 zq178.con :=
  V.fo (V.tab_cons zq160.ok (V.tab_cons zq164.ok V.tab_nil)) Tryz.func48 (by kernel_rfl) (fun x y h => (show V.evBody zq178.E zq178.con Tryz.f48 x = _ from zq178.eq x).trans (V.cfl (by kernel_rfl) h))
noncomputable abbrev zq174.con : V.Con := ⟨(.cons (.sl (.cons (.sl V.eSigned) (.cons (.sl V.eEntry) .nil))) (.cons (.int .i64) (.cons (.int .i64) .nil))), (.cons (.int .i64) .nil), fun (x : List TZone × Int × Int) => zq174 (x.1, x.2.1) x.2.2, [], [(true, 2), (false, 1)], [(false, 1)], [false], []⟩
noncomputable abbrev zq174.E : V.Env := V.mkE V.tys [(48, zq178.con)] [(4, [1, 2, 5], [])] [] [] [] []
noncomputable abbrev zq174.kt (x0 : TServer) (x1 : Int) : V.Kt Int := V.ktOf zq174.E zq174.con Tryz.f63 ((x0.1, x0.2, x1) : List TZone × Int × Int)
noncomputable abbrev zq174.s4 (x0 : TServer) (x1 : Int) (v4_1 : Int) : V.St := ⟨[(1, .v false [.val (.int .i64 x1)]), (2, .v false [.ptr 64000 0]), (5, .v false [.val (.int .i64 v4_1)])], [(64000, .box [.val (.sl (.cons (.sl V.eSigned) (.cons (.sl V.eEntry) .nil)) x0.1), .val (.int .i64 x0.2)])]⟩
theorem zq174.r4 (x0 : TServer) (x1 : Int) (R : V.St → Option Int) (v4_1 : Int) : V.loopF zq174.E Tryz.f63.ntmps [1, 0, 1, 0] [] (V.codeOf Tryz.f63) (zq174.kt x0 x1) R (zq174.s4 x0 x1 v4_1) = zq174.g4 x0 x1 (fun v4_1 => R (zq174.s4 x0 x1 v4_1)) v4_1 := by kernel_rfl
theorem zq174.e4 (x0 : TServer) (x1 : Int) : ∀ (n : Nat) (v4_1 : Int), V.loopN (V.loopF zq174.E Tryz.f63.ntmps [1, 0, 1, 0] [] (V.codeOf Tryz.f63) (zq174.kt x0 x1)) n (zq174.s4 x0 x1 v4_1) = zq174.l4 x0 x1 n v4_1 := by
  intro n
  induction n with
  | zero => intros; rw [V.loopN_z]; rfl
  | succ n ih =>
    intro v4_1
    rw [V.loopN_s, zq174.r4]
    simp only [ih]
    first | exact (zq174.u4 ..).symm | rfl
theorem zq174.v (x0 : TServer) (x1 : Int) : V.evBody zq174.E zq174.con Tryz.f63 ((x0.1, x0.2, x1) : List TZone × Int × Int) = zq174.b x0 x1 (fun v4_1 => V.loopN (V.loopF zq174.E Tryz.f63.ntmps [1, 0, 1, 0] [] (V.codeOf Tryz.f63) (zq174.kt x0 x1)) V.KK (zq174.s4 x0 x1 v4_1)) := by kernel_rfl
theorem zq174.eq (x0 : TServer) (x1 : Int) : V.evBody zq174.E zq174.con Tryz.f63 ((x0.1, x0.2, x1) : List TZone × Int × Int) = zq174 x0 x1 := by
  rw [zq174.v]
  simp only [zq174.e4]
  rfl
theorem zq174.ok : V.Valid Tryz.prog 63 zq174.con :=
  V.fo (V.tab_cons zq178.ok V.tab_nil) Tryz.func63 (by kernel_rfl) (fun x y h => (show V.evBody zq174.E zq174.con Tryz.f63 x = _ from zq174.eq (x.1, x.2.1) x.2.2).trans (V.cfl (by kernel_rfl) h))
noncomputable abbrev zq175.con : V.Con := ⟨(.cons (.sl (.cons (.sl V.eSigned) (.cons (.sl V.eEntry) .nil))) (.cons (.int .i64) (.cons (.sl V.eSigned) (.cons (.sl V.eEntry) .nil)))), (.cons (.sl (.cons (.sl V.eSigned) (.cons (.sl V.eEntry) .nil))) (.cons (.int .i64) (.cons .bool .nil))), fun (x : List TZone × Int × List TSigned × List TEntry) => zq175 (x.1, x.2.1) x.2.2, [], [(true, 2), (true, 2)], [(true, 2), (false, 1)], [true, false, false], []⟩
noncomputable abbrev zq175.E : V.Env := V.mkE V.tys [(44, zq160.con), (48, zq178.con), (59, zq157.con), (63, zq174.con), (172, zq189.con), (178, zq190.con)] [(7, [2, 3, 4, 6, 17], [])] [(4, 3), (6, 5), (10, 4)] [] [] [(10, [0, 1])]
noncomputable abbrev zq175.kt (x0 : TServer) (x1 : TZone) : V.Kt TRServerBool := V.ktOf zq175.E zq175.con Tryz.f81 ((x0.1, x0.2, x1.1, x1.2) : List TZone × Int × List TSigned × List TEntry)
noncomputable abbrev zq175.s7 (x0 : TServer) (x1 : TZone) (y1 : TServer) (v7_0 : Bool) : V.St := ⟨[(2, .v false [.ptr 64000 0]), (3, .v false [.ptr 64064 0]), (4, .v false [.ptr 64128 0]), (6, .v false [.ptr 128128 0]), (17, .v false [.val (.bool v7_0)])], [(64000, .box [.val (.sl (.cons (.sl V.eSigned) (.cons (.sl V.eEntry) .nil)) x0.1), .val (.int .i64 x0.2)]), (64064, .box [.val (.sl V.eSigned x1.1), .val (.sl V.eEntry x1.2)]), (64128, .box [.nil0, .val (.int .i64 (0 : Int))]), (128128, .box [.ref 64000000000008200192, .val (.int .i64 y1.2)]), (64000000000008200192, .row (.cons (.sl V.eSigned) (.cons (.sl V.eEntry) .nil)) true y1.1)]⟩
theorem zq175.r7 (x0 : TServer) (x1 : TZone) (y1 : TServer) (v7_0 : Bool) : V.joinF zq175.E Tryz.f81.ntmps [1, 1, 0] [] (V.codeOf Tryz.f81) (zq175.kt x0 x1) (zq175.s7 x0 x1 y1 v7_0) = zq175.g7 x0 x1 y1 v7_0 := by kernel_rfl
theorem zq175.e7 (x0 : TServer) (x1 : TZone) (y1 : TServer) (v7_0 : Bool) : V.jn (V.joinF zq175.E Tryz.f81.ntmps [1, 1, 0] [] (V.codeOf Tryz.f81) (zq175.kt x0 x1)) (zq175.s7 x0 x1 y1 v7_0) = zq175.l7 x0 x1 y1 v7_0 := by
  rw [V.jn_eq, zq175.r7]
  rfl
theorem zq175.v (x0 : TServer) (x1 : TZone) : V.evBody zq175.E zq175.con Tryz.f81 ((x0.1, x0.2, x1.1, x1.2) : List TZone × Int × List TSigned × List TEntry) = zq175.b x0 x1 (fun y1 v7_0 => V.jn (V.joinF zq175.E Tryz.f81.ntmps [1, 1, 0] [] (V.codeOf Tryz.f81) (zq175.kt x0 x1)) (zq175.s7 x0 x1 y1 v7_0)) := by kernel_rfl
theorem zq175.eq (x0 : TServer) (x1 : TZone) : V.evBody zq175.E zq175.con Tryz.f81 ((x0.1, x0.2, x1.1, x1.2) : List TZone × Int × List TSigned × List TEntry) = zq175 x0 x1 := by
  rw [zq175.v]
  simp only [zq175.e7]
  rfl
theorem zq175.ok : V.Valid Tryz.prog 81 zq175.con :=
  V.fo (V.tab_cons zq160.ok (V.tab_cons zq178.ok (V.tab_cons zq157.ok (V.tab_cons zq174.ok (V.tab_cons zq189.ok (V.tab_cons zq190.ok V.tab_nil)))))) Tryz.func81 (by kernel_rfl) (fun x y h => (show V.evBody zq175.E zq175.con Tryz.f81 x = _ from zq175.eq (x.1, x.2.1) x.2.2).trans (V.cfl (by kernel_rfl) h))
noncomputable abbrev zq126.con : V.Con := ⟨(.cons (.sl (.cons (.int .i64) .nil)) .nil), (.cons (.sl (.cons (.int .i64) .nil)) .nil), fun (x : List Int) => zq126 x, [], [(false, 1)], [(false, 1)], [true], []⟩
noncomputable abbrev zq126.E : V.Env := V.mkE V.tys [] [] [] [] [] []
theorem zq126.eq (x0 : List Int) : V.evBody zq126.E zq126.con Tryz.f275 ((x0) : List Int) = zq126 x0 := by kernel_rfl
theorem zq126.ok : V.Valid Tryz.prog 275 zq126.con :=
  V.fo V.tab_nil Tryz.func275 (by kernel_rfl) (fun x y h => (show V.evBody zq126.E zq126.con Tryz.f275 x = _ from zq126.eq x).trans (V.cfl (by kernel_rfl) h))
noncomputable abbrev zq53.con : V.Con := ⟨(.cons (.sl (.cons (.int .i64) .nil)) (.cons (.int .i64) .nil)), (.cons (.sl (.cons (.int .i64) .nil)) (.cons (.int .i64) .nil)), fun (x : List Int × Int) => zq53 x, [], [(true, 2)], [(true, 2)], [true, false], []⟩
noncomputable abbrev zq53.E : V.Env := V.mkE V.tys [(275, zq126.con)] [] [(1, 5)] [] [] []
theorem zq53.eq (x0 : TKeys) : V.evBody zq53.E zq53.con Tryz.f228 ((x0.1, x0.2) : List Int × Int) = zq53 x0 := by kernel_rfl
theorem zq53.ok : V.Valid Tryz.prog 228 zq53.con :=
  V.fo (V.tab_cons zq126.ok V.tab_nil) Tryz.func228 (by kernel_rfl) (fun x y h => (show V.evBody zq53.E zq53.con Tryz.f228 x = _ from zq53.eq x).trans (V.cfl (by kernel_rfl) h))
noncomputable abbrev zq52.con : V.Con := ⟨V.A2, V.eHead, fun (x : V.D2) => zq52 (V.p2_0 x), [], [(true, 16)], [(true, 16)], [false, false, false, false, false, false, false, false, true, false, true, false, false, true, false, false], []⟩
noncomputable abbrev zq52.E : V.Env := V.mkE V.tys [(228, zq53.con)] [] [(1, 10)] [] [] []
noncomputable abbrev zq52.kt (x0 : THead) : V.Kt THead := V.ktOf zq52.E zq52.con Tryz.f195 (V.fl2 x0)
noncomputable abbrev zq52.s (x0 : THead) : V.St := ⟨[(0, .v true [.val (.int .i64 x0.1), .val (.int .i64 x0.2.1), .val (.int .i64 x0.2.2.1), .val (.int .i64 x0.2.2.2.1), .val (.int .i64 x0.2.2.2.2.1), .val (.int .i64 x0.2.2.2.2.2.1), .val (.int .i64 x0.2.2.2.2.2.2.1), .val (.int .i64 x0.2.2.2.2.2.2.2.1), .val (.sl (.cons (.int .i64) .nil) x0.2.2.2.2.2.2.2.2.1), .val (.int .i64 x0.2.2.2.2.2.2.2.2.2.1), .val (.sl (.cons (.int .i64) .nil) x0.2.2.2.2.2.2.2.2.2.2.1), .val (.int .i64 x0.2.2.2.2.2.2.2.2.2.2.2.1), .val (.int .i64 x0.2.2.2.2.2.2.2.2.2.2.2.2.1), .val (.sl (.cons (.int .i64) .nil) x0.2.2.2.2.2.2.2.2.2.2.2.2.2.1), .val (.int .i64 x0.2.2.2.2.2.2.2.2.2.2.2.2.2.2.1), .val (.bool x0.2.2.2.2.2.2.2.2.2.2.2.2.2.2.2)])], []⟩
theorem zq52.v0 (x0 : THead) : V.evBody zq52.E zq52.con Tryz.f195 (V.fl2 x0) = V.evC zq52.E Tryz.f195.ntmps (V.codeOf Tryz.f195) (zq52.kt x0) (zq52.s x0) := by kernel_rfl
theorem zq52.v (x0 : THead) : V.evC zq52.E Tryz.f195.ntmps (V.codeOf Tryz.f195) (zq52.kt x0) (zq52.s x0) = zq52 x0 := by kernel_rfl
theorem zq52.eq (x0 : THead) : V.evBody zq52.E zq52.con Tryz.f195 (V.fl2 x0) = zq52 x0 := (zq52.v0 x0).trans (zq52.v x0)
theorem zq52.ok : V.Valid Tryz.prog 195 zq52.con :=
  V.fo (V.tab_cons zq53.ok V.tab_nil) Tryz.func195 (by kernel_rfl) (fun x y h => (show V.evBody zq52.E zq52.con Tryz.f195 x = _ from zq52.eq (V.p2_0 x)).trans (V.cfl (by kernel_rfl) h))
noncomputable abbrev zq125.con : V.Con := ⟨(.cons (.sl (.cons (.int .i64) (.cons (.int .i64) .nil))) .nil), (.cons (.sl (.cons (.int .i64) (.cons (.int .i64) .nil))) .nil), fun (x : List TSig) => zq125 x, [], [(false, 1)], [(false, 1)], [true], []⟩
noncomputable abbrev zq125.E : V.Env := V.mkE V.tys [] [] [] [] [] []
theorem zq125.eq (x0 : List TSig) : V.evBody zq125.E zq125.con Tryz.f211 ((x0) : List TSig) = zq125 x0 := by kernel_rfl
theorem zq125.ok : V.Valid Tryz.prog 211 zq125.con :=
  V.fo V.tab_nil Tryz.func211 (by kernel_rfl) (fun x y h => (show V.evBody zq125.E zq125.con Tryz.f211 x = _ from zq125.eq x).trans (V.cfl (by kernel_rfl) h))
noncomputable abbrev zq55.con : V.Con := ⟨V.A3, V.eSigned, fun (x : V.D3) => zq55 (V.p3_0 x), [], [(true, 17)], [(true, 17)], [false, false, false, false, false, false, false, false, true, false, true, false, false, true, false, false, true], []⟩
noncomputable abbrev zq55.E : V.Env := V.mkE V.tys [(195, zq52.con), (211, zq125.con)] [] [(1, 5)] [] [] []
noncomputable abbrev zq55.kt (x0 : TSigned) : V.Kt TSigned := V.ktOf zq55.E zq55.con Tryz.f107 (V.fl3 x0)
noncomputable abbrev zq55.s (x0 : TSigned) : V.St := ⟨[(0, .v true [.val (.int .i64 x0.1), .val (.int .i64 x0.2.1), .val (.int .i64 x0.2.2.1), .val (.int .i64 x0.2.2.2.1), .val (.int .i64 x0.2.2.2.2.1), .val (.int .i64 x0.2.2.2.2.2.1), .val (.int .i64 x0.2.2.2.2.2.2.1), .val (.int .i64 x0.2.2.2.2.2.2.2.1), .val (.sl (.cons (.int .i64) .nil) x0.2.2.2.2.2.2.2.2.1), .val (.int .i64 x0.2.2.2.2.2.2.2.2.2.1), .val (.sl (.cons (.int .i64) .nil) x0.2.2.2.2.2.2.2.2.2.2.1), .val (.int .i64 x0.2.2.2.2.2.2.2.2.2.2.2.1), .val (.int .i64 x0.2.2.2.2.2.2.2.2.2.2.2.2.1), .val (.sl (.cons (.int .i64) .nil) x0.2.2.2.2.2.2.2.2.2.2.2.2.2.1), .val (.int .i64 x0.2.2.2.2.2.2.2.2.2.2.2.2.2.2.1), .val (.bool x0.2.2.2.2.2.2.2.2.2.2.2.2.2.2.2.1), .val (.sl (.cons (.int .i64) (.cons (.int .i64) .nil)) x0.2.2.2.2.2.2.2.2.2.2.2.2.2.2.2.2)])], []⟩
theorem zq55.v0 (x0 : TSigned) : V.evBody zq55.E zq55.con Tryz.f107 (V.fl3 x0) = V.evC zq55.E Tryz.f107.ntmps (V.codeOf Tryz.f107) (zq55.kt x0) (zq55.s x0) := by kernel_rfl
theorem zq55.v (x0 : TSigned) : V.evC zq55.E Tryz.f107.ntmps (V.codeOf Tryz.f107) (zq55.kt x0) (zq55.s x0) = zq55 x0 := by kernel_rfl
theorem zq55.eq (x0 : TSigned) : V.evBody zq55.E zq55.con Tryz.f107 (V.fl3 x0) = zq55 x0 := (zq55.v0 x0).trans (zq55.v x0)
theorem zq55.ok : V.Valid Tryz.prog 107 zq55.con :=
  V.fo (V.tab_cons zq52.ok (V.tab_cons zq125.ok V.tab_nil)) Tryz.func107 (by kernel_rfl) (fun x y h => (show V.evBody zq55.E zq55.con Tryz.f107 x = _ from zq55.eq (V.p3_0 x)).trans (V.cfl (by kernel_rfl) h))
noncomputable abbrev zq49.con : V.Con := ⟨(.cons (.sl V.eSigned) .nil), (.cons (.sl V.eSigned) .nil), fun (x : List TSigned) => zq49 x, [], [(false, 1)], [(false, 1)], [true], []⟩
noncomputable abbrev zq49.E : V.Env := V.mkE V.tys [(107, zq55.con)] [(6, [3, 7, 8, 9], [(64000038400192, V.eSigned, true)])] [] [] [] []
noncomputable abbrev zq49.kt (x0 : List TSigned) : V.Kt (List TSigned) := V.ktOf zq49.E zq49.con Tryz.f243 ((x0) : List TSigned)
noncomputable abbrev zq49.s6 (x0 : List TSigned) (v6_1 : Int) (v6_2 : Int) (v6_3 : List TSigned) : V.St := ⟨[(3, .v false [.ref 64000038400192]), (7, .v false [.val (.sl V.eSigned x0)]), (8, .v false [.val (.int .i64 v6_1)]), (9, .v false [.val (.int .i64 v6_2)])], [(64000038400192, .row V.eSigned true v6_3)]⟩
theorem zq49.r6 (x0 : List TSigned) (R : V.St → Option (List TSigned)) (v6_1 : Int) (v6_2 : Int) (v6_3 : List TSigned) : V.loopF zq49.E Tryz.f243.ntmps [1, 1, 0, 1, 0] [] (V.codeOf Tryz.f243) (zq49.kt x0) R (zq49.s6 x0 v6_1 v6_2 v6_3) = zq49.g6 x0 (fun v6_1 v6_2 v6_3 => R (zq49.s6 x0 v6_1 v6_2 v6_3)) v6_1 v6_2 v6_3 := by kernel_rfl
theorem zq49.e6 (x0 : List TSigned) : ∀ (n : Nat) (v6_1 : Int) (v6_2 : Int) (v6_3 : List TSigned), V.loopN (V.loopF zq49.E Tryz.f243.ntmps [1, 1, 0, 1, 0] [] (V.codeOf Tryz.f243) (zq49.kt x0)) n (zq49.s6 x0 v6_1 v6_2 v6_3) = zq49.l6 x0 n v6_1 v6_2 v6_3 := by
  intro n
  induction n with
  | zero => intros; rw [V.loopN_z]; rfl
  | succ n ih =>
    intro v6_1 v6_2 v6_3
    rw [V.loopN_s, zq49.r6]
    simp only [ih]
    first | exact (zq49.u6 ..).symm | rfl
theorem zq49.v (x0 : List TSigned) : V.evBody zq49.E zq49.con Tryz.f243 ((x0) : List TSigned) = zq49.b x0 (fun v6_1 v6_2 v6_3 => V.loopN (V.loopF zq49.E Tryz.f243.ntmps [1, 1, 0, 1, 0] [] (V.codeOf Tryz.f243) (zq49.kt x0)) V.KK (zq49.s6 x0 v6_1 v6_2 v6_3)) := by kernel_rfl
theorem zq49.eq (x0 : List TSigned) : V.evBody zq49.E zq49.con Tryz.f243 ((x0) : List TSigned) = zq49 x0 := by
  rw [zq49.v]
  simp only [zq49.e6]
  rfl
theorem zq49.ok : V.Valid Tryz.prog 243 zq49.con :=
  V.fo (V.tab_cons zq55.ok V.tab_nil) Tryz.func243 (by kernel_rfl) (fun x y h => (show V.evBody zq49.E zq49.con Tryz.f243 x = _ from zq49.eq x).trans (V.cfl (by kernel_rfl) h))
noncomputable abbrev zq127.con : V.Con := ⟨(.cons (.sl (.cons .str .nil)) .nil), (.cons (.sl (.cons .str .nil)) .nil), fun (x : List ByteArray) => zq127 x, [], [(false, 1)], [(false, 1)], [true], []⟩
noncomputable abbrev zq127.E : V.Env := V.mkE V.tys [] [] [] [] [] []
theorem zq127.eq (x0 : List ByteArray) : V.evBody zq127.E zq127.con Tryz.f240 ((x0) : List ByteArray) = zq127 x0 := by kernel_rfl
theorem zq127.ok : V.Valid Tryz.prog 240 zq127.con :=
  V.fo V.tab_nil Tryz.func240 (by kernel_rfl) (fun x y h => (show V.evBody zq127.E zq127.con Tryz.f240 x = _ from zq127.eq x).trans (V.cfl (by kernel_rfl) h))
noncomputable abbrev zq51.con : V.Con := ⟨V.eEntry, V.eEntry, fun (x : ByteArray × Int × Int × List ByteArray) => zq51 x, [], [(true, 4)], [(true, 4)], [false, false, false, true], []⟩
noncomputable abbrev zq51.E : V.Env := V.mkE V.tys [(240, zq127.con)] [] [] [] [] []
theorem zq51.eq (x0 : TEntry) : V.evBody zq51.E zq51.con Tryz.f167 ((x0.1, x0.2.1, x0.2.2.1, x0.2.2.2) : ByteArray × Int × Int × List ByteArray) = zq51 x0 := by kernel_rfl
theorem zq51.ok : V.Valid Tryz.prog 167 zq51.con :=
  V.fo (V.tab_cons zq127.ok V.tab_nil) Tryz.func167 (by kernel_rfl) (fun x y h => (show V.evBody zq51.E zq51.con Tryz.f167 x = _ from zq51.eq x).trans (V.cfl (by kernel_rfl) h))
noncomputable abbrev zq50.con : V.Con := ⟨(.cons (.sl V.eEntry) .nil), (.cons (.sl V.eEntry) .nil), fun (x : List TEntry) => zq50 x, [], [(false, 1)], [(false, 1)], [true], []⟩
noncomputable abbrev zq50.E : V.Env := V.mkE V.tys [(167, zq51.con)] [(6, [3, 7, 8, 9], [(64000038400192, V.eEntry, true)])] [] [] [] []
noncomputable abbrev zq50.kt (x0 : List TEntry) : V.Kt (List TEntry) := V.ktOf zq50.E zq50.con Tryz.f143 ((x0) : List TEntry)
noncomputable abbrev zq50.s6 (x0 : List TEntry) (v6_1 : Int) (v6_2 : Int) (v6_3 : List TEntry) : V.St := ⟨[(3, .v false [.ref 64000038400192]), (7, .v false [.val (.sl V.eEntry x0)]), (8, .v false [.val (.int .i64 v6_1)]), (9, .v false [.val (.int .i64 v6_2)])], [(64000038400192, .row V.eEntry true v6_3)]⟩
theorem zq50.r6 (x0 : List TEntry) (R : V.St → Option (List TEntry)) (v6_1 : Int) (v6_2 : Int) (v6_3 : List TEntry) : V.loopF zq50.E Tryz.f143.ntmps [1, 1, 0, 1, 0] [] (V.codeOf Tryz.f143) (zq50.kt x0) R (zq50.s6 x0 v6_1 v6_2 v6_3) = zq50.g6 x0 (fun v6_1 v6_2 v6_3 => R (zq50.s6 x0 v6_1 v6_2 v6_3)) v6_1 v6_2 v6_3 := by kernel_rfl
theorem zq50.e6 (x0 : List TEntry) : ∀ (n : Nat) (v6_1 : Int) (v6_2 : Int) (v6_3 : List TEntry), V.loopN (V.loopF zq50.E Tryz.f143.ntmps [1, 1, 0, 1, 0] [] (V.codeOf Tryz.f143) (zq50.kt x0)) n (zq50.s6 x0 v6_1 v6_2 v6_3) = zq50.l6 x0 n v6_1 v6_2 v6_3 := by
  intro n
  induction n with
  | zero => intros; rw [V.loopN_z]; rfl
  | succ n ih =>
    intro v6_1 v6_2 v6_3
    rw [V.loopN_s, zq50.r6]
    simp only [ih]
    first | exact (zq50.u6 ..).symm | rfl
theorem zq50.v (x0 : List TEntry) : V.evBody zq50.E zq50.con Tryz.f143 ((x0) : List TEntry) = zq50.b x0 (fun v6_1 v6_2 v6_3 => V.loopN (V.loopF zq50.E Tryz.f143.ntmps [1, 1, 0, 1, 0] [] (V.codeOf Tryz.f143) (zq50.kt x0)) V.KK (zq50.s6 x0 v6_1 v6_2 v6_3)) := by kernel_rfl
theorem zq50.eq (x0 : List TEntry) : V.evBody zq50.E zq50.con Tryz.f143 ((x0) : List TEntry) = zq50 x0 := by
  rw [zq50.v]
  simp only [zq50.e6]
  rfl
theorem zq50.ok : V.Valid Tryz.prog 143 zq50.con :=
  V.fo (V.tab_cons zq51.ok V.tab_nil) Tryz.func143 (by kernel_rfl) (fun x y h => (show V.evBody zq50.E zq50.con Tryz.f143 x = _ from zq50.eq x).trans (V.cfl (by kernel_rfl) h))
noncomputable abbrev zq56.con : V.Con := ⟨(.cons (.sl V.eSigned) (.cons (.sl V.eEntry) .nil)), (.cons (.sl V.eSigned) (.cons (.sl V.eEntry) .nil)), fun (x : List TSigned × List TEntry) => zq56 x, [], [(true, 2)], [(true, 2)], [true, true], []⟩
noncomputable abbrev zq56.E : V.Env := V.mkE V.tys [(143, zq50.con), (243, zq49.con)] [] [(1, 5)] [] [] []
theorem zq56.eq (x0 : TZone) : V.evBody zq56.E zq56.con Tryz.f175 ((x0.1, x0.2) : List TSigned × List TEntry) = zq56 x0 := by kernel_rfl
theorem zq56.ok : V.Valid Tryz.prog 175 zq56.con :=
  V.fo (V.tab_cons zq50.ok (V.tab_cons zq49.ok V.tab_nil)) Tryz.func175 (by kernel_rfl) (fun x y h => (show V.evBody zq56.E zq56.con Tryz.f175 x = _ from zq56.eq x).trans (V.cfl (by kernel_rfl) h))
noncomputable abbrev zq54.con : V.Con := ⟨(.cons (.sl (.cons (.sl V.eSigned) (.cons (.sl V.eEntry) .nil))) (.cons (.int .i64) .nil)), (.cons (.sl (.cons (.sl V.eSigned) (.cons (.sl V.eEntry) .nil))) (.cons (.int .i64) .nil)), fun (x : List TZone × Int) => zq54 x, [], [(true, 2)], [(true, 2)], [true, false], []⟩
noncomputable abbrev zq54.E : V.Env := V.mkE V.tys [(175, zq56.con)] [(6, [2, 3, 10, 11, 12], [(64000000000008204288, (.cons (.sl V.eSigned) (.cons (.sl V.eEntry) .nil)), true)])] [(5, 4)] [] [] [(5, [0, 1])]
noncomputable abbrev zq54.kt (x0 : TServer) : V.Kt TServer := V.ktOf zq54.E zq54.con Tryz.f179 ((x0.1, x0.2) : List TZone × Int)
noncomputable abbrev zq54.s6 (x0 : TServer) (v6_1 : Int) (v6_2 : Int) (v6_5 : List TZone) : V.St := ⟨[(2, .v false [.ptr 64064 0]), (3, .v false [.ptr 128192 0]), (10, .v false [.val (.sl (.cons (.sl V.eSigned) (.cons (.sl V.eEntry) .nil)) x0.1)]), (11, .v false [.val (.int .i64 v6_1)]), (12, .v false [.val (.int .i64 v6_2)])], [(64064, .box [.nil0, .val (.int .i64 (0 : Int))]), (128192, .box [.ref 64000000000008204288, .val (.int .i64 x0.2)]), (64000000000008204288, .row (.cons (.sl V.eSigned) (.cons (.sl V.eEntry) .nil)) true v6_5)]⟩
theorem zq54.r6 (x0 : TServer) (R : V.St → Option TServer) (v6_1 : Int) (v6_2 : Int) (v6_5 : List TZone) : V.loopF zq54.E Tryz.f179.ntmps [1, 1, 0, 1, 0] [] (V.codeOf Tryz.f179) (zq54.kt x0) R (zq54.s6 x0 v6_1 v6_2 v6_5) = zq54.g6 x0 (fun v6_1 v6_2 v6_5 => R (zq54.s6 x0 v6_1 v6_2 v6_5)) v6_1 v6_2 v6_5 := by kernel_rfl
theorem zq54.e6 (x0 : TServer) : ∀ (n : Nat) (v6_1 : Int) (v6_2 : Int) (v6_5 : List TZone), V.loopN (V.loopF zq54.E Tryz.f179.ntmps [1, 1, 0, 1, 0] [] (V.codeOf Tryz.f179) (zq54.kt x0)) n (zq54.s6 x0 v6_1 v6_2 v6_5) = zq54.l6 x0 n v6_1 v6_2 v6_5 := by
  intro n
  induction n with
  | zero => intros; rw [V.loopN_z]; rfl
  | succ n ih =>
    intro v6_1 v6_2 v6_5
    rw [V.loopN_s, zq54.r6]
    simp only [ih]
    first | exact (zq54.u6 ..).symm | rfl
theorem zq54.v (x0 : TServer) : V.evBody zq54.E zq54.con Tryz.f179 ((x0.1, x0.2) : List TZone × Int) = zq54.b x0 (fun v6_1 v6_2 v6_5 => V.loopN (V.loopF zq54.E Tryz.f179.ntmps [1, 1, 0, 1, 0] [] (V.codeOf Tryz.f179) (zq54.kt x0)) V.KK (zq54.s6 x0 v6_1 v6_2 v6_5)) := by kernel_rfl
theorem zq54.eq (x0 : TServer) : V.evBody zq54.E zq54.con Tryz.f179 ((x0.1, x0.2) : List TZone × Int) = zq54 x0 := by
  rw [zq54.v]
  simp only [zq54.e6]
  rfl
theorem zq54.ok : V.Valid Tryz.prog 179 zq54.con :=
  V.fo (V.tab_cons zq56.ok V.tab_nil) Tryz.func179 (by kernel_rfl) (fun x y h => (show V.evBody zq54.E zq54.con Tryz.f179 x = _ from zq54.eq x).trans (V.cfl (by kernel_rfl) h))
noncomputable abbrev zq12.con : V.Con := ⟨(.cons (.int .i64) (.cons (.int .i64) (.cons (.int .i64) .nil))), (.cons .bool .nil), fun (x : Int × Int × Int) => zq12 x.1 x.2.1 x.2.2, [], [(false, 1), (false, 1), (false, 1)], [(false, 1)], [false], []⟩
noncomputable abbrev zq12.E : V.Env := V.mkE V.tys [] [] [] [] [] []
theorem zq12.eq (x0 : Int) (x1 : Int) (x2 : Int) : V.evBody zq12.E zq12.con Tryz.f151 ((x0, x1, x2) : Int × Int × Int) = zq12 x0 x1 x2 := by kernel_rfl
theorem zq12.ok : V.Valid Tryz.prog 151 zq12.con :=
  V.fo V.tab_nil Tryz.func151 (by kernel_rfl) (fun x y h => (show V.evBody zq12.E zq12.con Tryz.f151 x = _ from zq12.eq x.1 x.2.1 x.2.2).trans (V.cfl (by kernel_rfl) h))
noncomputable abbrev zq59.con : V.Con := ⟨(.cons (.int .i64) .nil), (.cons .bool .nil), fun (x : Int) => zq59 x, [], [(false, 1)], [(false, 1)], [false], []⟩
noncomputable abbrev zq59.E : V.Env := V.mkE V.tys [(151, zq12.con)] [] [] [] [] []
theorem zq59.eq (x0 : Int) : V.evBody zq59.E zq59.con Tryz.f217 ((x0) : Int) = zq59 x0 := by kernel_rfl
theorem zq59.ok : V.Valid Tryz.prog 217 zq59.con :=
  V.fo (V.tab_cons zq12.ok V.tab_nil) Tryz.func217 (by kernel_rfl) (fun x y h => (show V.evBody zq59.E zq59.con Tryz.f217 x = _ from zq59.eq x).trans (V.cfl (by kernel_rfl) h))
noncomputable abbrev zq63.con : V.Con := ⟨V.A2, (.cons .bool .nil), fun (x : V.D2) => zq63 (V.p2_0 x), [], [(true, 16)], [(false, 1)], [false], []⟩
noncomputable abbrev zq63.E : V.Env := V.mkE V.tys [] [] [] [] [] []
noncomputable abbrev zq63.kt (x0 : THead) : V.Kt Bool := V.ktOf zq63.E zq63.con Tryz.f255 (V.fl2 x0)
noncomputable abbrev zq63.s (x0 : THead) : V.St := ⟨[(0, .v true [.val (.int .i64 x0.1), .val (.int .i64 x0.2.1), .val (.int .i64 x0.2.2.1), .val (.int .i64 x0.2.2.2.1), .val (.int .i64 x0.2.2.2.2.1), .val (.int .i64 x0.2.2.2.2.2.1), .val (.int .i64 x0.2.2.2.2.2.2.1), .val (.int .i64 x0.2.2.2.2.2.2.2.1), .val (.sl (.cons (.int .i64) .nil) x0.2.2.2.2.2.2.2.2.1), .val (.int .i64 x0.2.2.2.2.2.2.2.2.2.1), .val (.sl (.cons (.int .i64) .nil) x0.2.2.2.2.2.2.2.2.2.2.1), .val (.int .i64 x0.2.2.2.2.2.2.2.2.2.2.2.1), .val (.int .i64 x0.2.2.2.2.2.2.2.2.2.2.2.2.1), .val (.sl (.cons (.int .i64) .nil) x0.2.2.2.2.2.2.2.2.2.2.2.2.2.1), .val (.int .i64 x0.2.2.2.2.2.2.2.2.2.2.2.2.2.2.1), .val (.bool x0.2.2.2.2.2.2.2.2.2.2.2.2.2.2.2)])], []⟩
theorem zq63.v0 (x0 : THead) : V.evBody zq63.E zq63.con Tryz.f255 (V.fl2 x0) = V.evC zq63.E Tryz.f255.ntmps (V.codeOf Tryz.f255) (zq63.kt x0) (zq63.s x0) := by kernel_rfl
theorem zq63.v (x0 : THead) : V.evC zq63.E Tryz.f255.ntmps (V.codeOf Tryz.f255) (zq63.kt x0) (zq63.s x0) = zq63 x0 := by kernel_rfl
theorem zq63.eq (x0 : THead) : V.evBody zq63.E zq63.con Tryz.f255 (V.fl2 x0) = zq63 x0 := (zq63.v0 x0).trans (zq63.v x0)
theorem zq63.ok : V.Valid Tryz.prog 255 zq63.con :=
  V.fo V.tab_nil Tryz.func255 (by kernel_rfl) (fun x y h => (show V.evBody zq63.E zq63.con Tryz.f255 x = _ from zq63.eq (V.p2_0 x)).trans (V.cfl (by kernel_rfl) h))
noncomputable abbrev zq47.con : V.Con := ⟨(.cons (.sl (.cons (.int .i64) .nil)) .nil), (.cons .bool .nil), fun (x : List Int) => zq47 x, [], [(false, 1)], [(false, 1)], [false], []⟩
noncomputable abbrev zq47.E : V.Env := V.mkE V.tys [] [(4, [0, 5, 6], [])] [(4, 12)] [] [] []
noncomputable abbrev zq47.kt (x0 : List Int) : V.Kt Bool := V.ktOf zq47.E zq47.con Tryz.f298 ((x0) : List Int)
noncomputable abbrev zq47.s4 (x0 : List Int) (v4_1 : Int) (v4_2 : Int) : V.St := ⟨[(0, .v false [.val (.sl (.cons (.int .i64) .nil) x0)]), (5, .v false [.val (.int .i64 v4_1)]), (6, .v false [.val (.int .i64 v4_2)])], []⟩
theorem zq47.r4 (x0 : List Int) (R : V.St → Option Bool) (v4_1 : Int) (v4_2 : Int) : V.loopF zq47.E Tryz.f298.ntmps [1, 0, 1, 0] [] (V.codeOf Tryz.f298) (zq47.kt x0) R (zq47.s4 x0 v4_1 v4_2) = zq47.g4 x0 (fun v4_1 v4_2 => R (zq47.s4 x0 v4_1 v4_2)) v4_1 v4_2 := by kernel_rfl
theorem zq47.e4 (x0 : List Int) : ∀ (n : Nat) (v4_1 : Int) (v4_2 : Int), V.loopN (V.loopF zq47.E Tryz.f298.ntmps [1, 0, 1, 0] [] (V.codeOf Tryz.f298) (zq47.kt x0)) n (zq47.s4 x0 v4_1 v4_2) = zq47.l4 x0 n v4_1 v4_2 := by
  intro n
  induction n with
  | zero => intros; rw [V.loopN_z]; rfl
  | succ n ih =>
    intro v4_1 v4_2
    rw [V.loopN_s, zq47.r4]
    simp only [ih]
    first | exact (zq47.u4 ..).symm | rfl
theorem zq47.v (x0 : List Int) : V.evBody zq47.E zq47.con Tryz.f298 ((x0) : List Int) = zq47.b x0 (fun v4_1 v4_2 => V.loopN (V.loopF zq47.E Tryz.f298.ntmps [1, 0, 1, 0] [] (V.codeOf Tryz.f298) (zq47.kt x0)) V.KK (zq47.s4 x0 v4_1 v4_2)) := by kernel_rfl
theorem zq47.eq (x0 : List Int) : V.evBody zq47.E zq47.con Tryz.f298 ((x0) : List Int) = zq47 x0 := by
  rw [zq47.v]
  simp only [zq47.e4]
  rfl
theorem zq47.ok : V.Valid Tryz.prog 298 zq47.con :=
  V.fo V.tab_nil Tryz.func298 (by kernel_rfl) (fun x y h => (show V.evBody zq47.E zq47.con Tryz.f298 x = _ from zq47.eq x).trans (V.cfl (by kernel_rfl) h))
noncomputable abbrev zq60.con : V.Con := ⟨(.cons (.int .i64) .nil), (.cons .bool .nil), fun (x : Int) => zq60 x, [], [(false, 1)], [(false, 1)], [false], []⟩
noncomputable abbrev zq60.E : V.Env := V.mkE V.tys [(151, zq12.con)] [] [] [] [] []
theorem zq60.eq (x0 : Int) : V.evBody zq60.E zq60.con Tryz.f218 ((x0) : Int) = zq60 x0 := by kernel_rfl
theorem zq60.ok : V.Valid Tryz.prog 218 zq60.con :=
  V.fo (V.tab_cons zq12.ok V.tab_nil) Tryz.func218 (by kernel_rfl) (fun x y h => (show V.evBody zq60.E zq60.con Tryz.f218 x = _ from zq60.eq x).trans (V.cfl (by kernel_rfl) h))
noncomputable abbrev zq17.con : V.Con := ⟨(.cons (.sl (.cons (.int .i64) .nil)) (.cons (.int .i64) .nil)), (.cons .bool .nil), fun (x : List Int × Int) => zq17 x, [], [(true, 2)], [(false, 1)], [false], []⟩
noncomputable abbrev zq17.E : V.Env := V.mkE V.tys [(151, zq12.con), (218, zq60.con), (298, zq47.con)] [] [] [] [] []
theorem zq17.eq (x0 : TKeys) : V.evBody zq17.E zq17.con Tryz.f256 ((x0.1, x0.2) : List Int × Int) = zq17 x0 := by kernel_rfl
theorem zq17.ok : V.Valid Tryz.prog 256 zq17.con :=
  V.fo (V.tab_cons zq12.ok (V.tab_cons zq60.ok (V.tab_cons zq47.ok V.tab_nil))) Tryz.func256 (by kernel_rfl) (fun x y h => (show V.evBody zq17.E zq17.con Tryz.f256 x = _ from zq17.eq x).trans (V.cfl (by kernel_rfl) h))
noncomputable abbrev zq34.con : V.Con := ⟨(.cons (.sl (.cons (.int .i64) .nil)) (.cons (.int .i64) .nil)), (.cons .bool .nil), fun (x : List Int × Int) => zq34 x, [], [(true, 2)], [(false, 1)], [false], []⟩
noncomputable abbrev zq34.E : V.Env := V.mkE V.tys [] [] [] [] [] []
theorem zq34.eq (x0 : TKeys) : V.evBody zq34.E zq34.con Tryz.f259 ((x0.1, x0.2) : List Int × Int) = zq34 x0 := by kernel_rfl
theorem zq34.ok : V.Valid Tryz.prog 259 zq34.con :=
  V.fo V.tab_nil Tryz.func259 (by kernel_rfl) (fun x y h => (show V.evBody zq34.E zq34.con Tryz.f259 x = _ from zq34.eq x).trans (V.cfl (by kernel_rfl) h))
noncomputable abbrev zq61.con : V.Con := ⟨(.cons (.sl (.cons (.int .i64) .nil)) (.cons (.int .i64) .nil)), (.cons .bool .nil), fun (x : List Int × Int) => zq61 x, [], [(true, 2)], [(false, 1)], [false], []⟩
noncomputable abbrev zq61.E : V.Env := V.mkE V.tys [(256, zq17.con), (259, zq34.con)] [] [] [] [] []
theorem zq61.eq (x0 : TKeys) : V.evBody zq61.E zq61.con Tryz.f257 ((x0.1, x0.2) : List Int × Int) = zq61 x0 := by kernel_rfl
theorem zq61.ok : V.Valid Tryz.prog 257 zq61.con :=
  V.fo (V.tab_cons zq17.ok (V.tab_cons zq34.ok V.tab_nil)) Tryz.func257 (by kernel_rfl) (fun x y h => (show V.evBody zq61.E zq61.con Tryz.f257 x = _ from zq61.eq x).trans (V.cfl (by kernel_rfl) h))
noncomputable abbrev zq64.con : V.Con := ⟨(.cons (.int .i64) (.cons (.sl (.cons (.int .i64) .nil)) (.cons (.int .i64) .nil))), (.cons .bool .nil), fun (x : Int × List Int × Int) => zq64 x.1 x.2, [], [(false, 1), (true, 2)], [(false, 1)], [false], []⟩
noncomputable abbrev zq64.E : V.Env := V.mkE V.tys [(151, zq12.con), (259, zq34.con)] [] [] [] [] []
theorem zq64.eq (x0 : Int) (x1 : TKeys) : V.evBody zq64.E zq64.con Tryz.f258 ((x0, x1.1, x1.2) : Int × List Int × Int) = zq64 x0 x1 := by kernel_rfl
theorem zq64.ok : V.Valid Tryz.prog 258 zq64.con :=
  V.fo (V.tab_cons zq12.ok (V.tab_cons zq34.ok V.tab_nil)) Tryz.func258 (by kernel_rfl) (fun x y h => (show V.evBody zq64.E zq64.con Tryz.f258 x = _ from zq64.eq x.1 x.2).trans (V.cfl (by kernel_rfl) h))
noncomputable abbrev zq16.con : V.Con := ⟨V.A2, (.cons .bool .nil), fun (x : V.D2) => zq16 (V.p2_0 x), [], [(true, 16)], [(false, 1)], [false], []⟩
noncomputable abbrev zq16.E : V.Env := V.mkE V.tys [(151, zq12.con), (217, zq59.con), (255, zq63.con), (256, zq17.con), (257, zq61.con), (258, zq64.con), (259, zq34.con)] [] [] [] [] []
noncomputable abbrev zq16.kt (x0 : THead) : V.Kt Bool := V.ktOf zq16.E zq16.con Tryz.f194 (V.fl2 x0)
noncomputable abbrev zq16.s (x0 : THead) : V.St := ⟨[(0, .v true [.val (.int .i64 x0.1), .val (.int .i64 x0.2.1), .val (.int .i64 x0.2.2.1), .val (.int .i64 x0.2.2.2.1), .val (.int .i64 x0.2.2.2.2.1), .val (.int .i64 x0.2.2.2.2.2.1), .val (.int .i64 x0.2.2.2.2.2.2.1), .val (.int .i64 x0.2.2.2.2.2.2.2.1), .val (.sl (.cons (.int .i64) .nil) x0.2.2.2.2.2.2.2.2.1), .val (.int .i64 x0.2.2.2.2.2.2.2.2.2.1), .val (.sl (.cons (.int .i64) .nil) x0.2.2.2.2.2.2.2.2.2.2.1), .val (.int .i64 x0.2.2.2.2.2.2.2.2.2.2.2.1), .val (.int .i64 x0.2.2.2.2.2.2.2.2.2.2.2.2.1), .val (.sl (.cons (.int .i64) .nil) x0.2.2.2.2.2.2.2.2.2.2.2.2.2.1), .val (.int .i64 x0.2.2.2.2.2.2.2.2.2.2.2.2.2.2.1), .val (.bool x0.2.2.2.2.2.2.2.2.2.2.2.2.2.2.2)])], []⟩
theorem zq16.v0 (x0 : THead) : V.evBody zq16.E zq16.con Tryz.f194 (V.fl2 x0) = V.evC zq16.E Tryz.f194.ntmps (V.codeOf Tryz.f194) (zq16.kt x0) (zq16.s x0) := by kernel_rfl
theorem zq16.v (x0 : THead) : V.evC zq16.E Tryz.f194.ntmps (V.codeOf Tryz.f194) (zq16.kt x0) (zq16.s x0) = zq16 x0 := by kernel_rfl
theorem zq16.eq (x0 : THead) : V.evBody zq16.E zq16.con Tryz.f194 (V.fl2 x0) = zq16 x0 := (zq16.v0 x0).trans (zq16.v x0)
theorem zq16.ok : V.Valid Tryz.prog 194 zq16.con :=
  V.fo (V.tab_cons zq12.ok (V.tab_cons zq59.ok (V.tab_cons zq63.ok (V.tab_cons zq17.ok (V.tab_cons zq61.ok (V.tab_cons zq64.ok (V.tab_cons zq34.ok V.tab_nil))))))) Tryz.func194 (by kernel_rfl) (fun x y h => (show V.evBody zq16.E zq16.con Tryz.f194 x = _ from zq16.eq (V.p2_0 x)).trans (V.cfl (by kernel_rfl) h))
noncomputable abbrev zq27.con : V.Con := ⟨(.cons (.sl (.cons (.int .i64) .nil)) (.cons (.int .i64) .nil)), (.cons (.sl (.cons (.int .i64) .nil)) .nil), fun (x : List Int × Int) => zq27 x, [], [(true, 2)], [(false, 1)], [true], []⟩
noncomputable abbrev zq27.E : V.Env := V.mkE V.tys [] [] [] [] [] []
theorem zq27.eq (x0 : TKeys) : V.evBody zq27.E zq27.con Tryz.f271 ((x0.1, x0.2) : List Int × Int) = zq27 x0 := by kernel_rfl
theorem zq27.ok : V.Valid Tryz.prog 271 zq27.con :=
  V.fo V.tab_nil Tryz.func271 (by kernel_rfl) (fun x y h => (show V.evBody zq27.E zq27.con Tryz.f271 x = _ from zq27.eq x).trans (V.cfl (by kernel_rfl) h))
noncomputable abbrev zq32.con : V.Con := ⟨(.cons (.int .i64) (.cons (.int .i64) .nil)), (.cons (.int .i64) .nil), fun (x : Int × Int) => zq32 x.1 x.2, [], [(false, 1), (false, 1)], [(false, 1)], [false], []⟩
noncomputable abbrev zq32.E : V.Env := V.mkE V.tys [(151, zq12.con)] [] [] [] [] []
theorem zq32.eq (x0 : Int) (x1 : Int) : V.evBody zq32.E zq32.con Tryz.f299 ((x0, x1) : Int × Int) = zq32 x0 x1 := by kernel_rfl
theorem zq32.ok : V.Valid Tryz.prog 299 zq32.con :=
  V.fo (V.tab_cons zq12.ok V.tab_nil) Tryz.func299 (by kernel_rfl) (fun x y h => (show V.evBody zq32.E zq32.con Tryz.f299 x = _ from zq32.eq x.1 x.2).trans (V.cfl (by kernel_rfl) h))
noncomputable abbrev zq9.con : V.Con := ⟨(.cons (.sl (.cons (.int .i64) .nil)) .nil), (.cons (.int .i64) .nil), fun (x : List Int) => zq9 x, [], [(false, 1)], [(false, 1)], [false], []⟩
noncomputable abbrev zq9.E : V.Env := V.mkE V.tys [(299, zq32.con)] [(6, [3, 6, 7, 8], [])] [] [] [] []
noncomputable abbrev zq9.kt (x0 : List Int) : V.Kt Int := V.ktOf zq9.E zq9.con Tryz.f260 ((x0) : List Int)
noncomputable abbrev zq9.s6 (x0 : List Int) (v6_0 : Int) (v6_2 : Int) (v6_3 : Int) : V.St := ⟨[(3, .v false [.val (.int .i64 v6_0)]), (6, .v false [.val (.sl (.cons (.int .i64) .nil) x0)]), (7, .v false [.val (.int .i64 v6_2)]), (8, .v false [.val (.int .i64 v6_3)])], []⟩
theorem zq9.r6 (x0 : List Int) (R : V.St → Option Int) (v6_0 : Int) (v6_2 : Int) (v6_3 : Int) : V.loopF zq9.E Tryz.f260.ntmps [1, 1, 0, 1, 0] [] (V.codeOf Tryz.f260) (zq9.kt x0) R (zq9.s6 x0 v6_0 v6_2 v6_3) = zq9.g6 x0 (fun v6_0 v6_2 v6_3 => R (zq9.s6 x0 v6_0 v6_2 v6_3)) v6_0 v6_2 v6_3 := by kernel_rfl
theorem zq9.e6 (x0 : List Int) : ∀ (n : Nat) (v6_0 : Int) (v6_2 : Int) (v6_3 : Int), V.loopN (V.loopF zq9.E Tryz.f260.ntmps [1, 1, 0, 1, 0] [] (V.codeOf Tryz.f260) (zq9.kt x0)) n (zq9.s6 x0 v6_0 v6_2 v6_3) = zq9.l6 x0 n v6_0 v6_2 v6_3 := by
  intro n
  induction n with
  | zero => intros; rw [V.loopN_z]; rfl
  | succ n ih =>
    intro v6_0 v6_2 v6_3
    rw [V.loopN_s, zq9.r6]
    simp only [ih]
    first | exact (zq9.u6 ..).symm | rfl
theorem zq9.v (x0 : List Int) : V.evBody zq9.E zq9.con Tryz.f260 ((x0) : List Int) = zq9.b x0 (fun v6_0 v6_2 v6_3 => V.loopN (V.loopF zq9.E Tryz.f260.ntmps [1, 1, 0, 1, 0] [] (V.codeOf Tryz.f260) (zq9.kt x0)) V.KK (zq9.s6 x0 v6_0 v6_2 v6_3)) := by kernel_rfl
theorem zq9.eq (x0 : List Int) : V.evBody zq9.E zq9.con Tryz.f260 ((x0) : List Int) = zq9 x0 := by
  rw [zq9.v]
  simp only [zq9.e6]
  rfl
theorem zq9.ok : V.Valid Tryz.prog 260 zq9.con :=
  V.fo (V.tab_cons zq32.ok V.tab_nil) Tryz.func260 (by kernel_rfl) (fun x y h => (show V.evBody zq9.E zq9.con Tryz.f260 x = _ from zq9.eq x).trans (V.cfl (by kernel_rfl) h))
noncomputable abbrev zq45.con : V.Con := ⟨(.cons (.sl (.cons (.int .i64) .nil)) (.cons (.int .i64) (.cons (.int .i64) .nil))), (.cons (.int .i64) .nil), fun (x : List Int × Int × Int) => zq45 (x.1, x.2.1) x.2.2, [], [(true, 2), (false, 1)], [(false, 1)], [false], []⟩
noncomputable abbrev zq45.E : V.Env := V.mkE V.tys [(260, zq9.con), (271, zq27.con)] [] [] [] [] []
theorem zq45.eq (x0 : TKeys) (x1 : Int) : V.evBody zq45.E zq45.con Tryz.f227 ((x0.1, x0.2, x1) : List Int × Int × Int) = zq45 x0 x1 := by kernel_rfl
theorem zq45.ok : V.Valid Tryz.prog 227 zq45.con :=
  V.fo (V.tab_cons zq9.ok (V.tab_cons zq27.ok V.tab_nil)) Tryz.func227 (by kernel_rfl) (fun x y h => (show V.evBody zq45.E zq45.con Tryz.f227 x = _ from zq45.eq (x.1, x.2.1) x.2.2).trans (V.cfl (by kernel_rfl) h))
noncomputable abbrev zq48.con : V.Con := ⟨(.cons .bool .nil), (.cons (.int .i64) .nil), fun (x : Bool) => zq48 x, [], [(false, 1)], [(false, 1)], [false], []⟩
noncomputable abbrev zq48.E : V.Env := V.mkE V.tys [] [] [] [] [] []
theorem zq48.eq (x0 : Bool) : V.evBody zq48.E zq48.con Tryz.f272 ((x0) : Bool) = zq48 x0 := by kernel_rfl
theorem zq48.ok : V.Valid Tryz.prog 272 zq48.con :=
  V.fo V.tab_nil Tryz.func272 (by kernel_rfl) (fun x y h => (show V.evBody zq48.E zq48.con Tryz.f272 x = _ from zq48.eq x).trans (V.cfl (by kernel_rfl) h))
noncomputable abbrev zq133.con : V.Con := ⟨(.cons (.sl (.cons (.int .i64) .nil)) (.cons (.int .i64) .nil)), (.cons (.sl (.cons (.int .i64) .nil)) .nil), fun (x : List Int × Int) => zq133 x.1 x.2, [], [(false, 1), (false, 1)], [(false, 1)], [true], [0]⟩
noncomputable abbrev zq133.E : V.Env := V.mkE V.tys [] [(7, [0, 1], [])] [] [] [] []
noncomputable abbrev zq133.kt (x0 : List Int) (x1 : Int) : V.Kt (List Int) := V.ktOf zq133.E zq133.con Tryz.f303 ((x0, x1) : List Int × Int)
noncomputable abbrev zq133.s7 (x1 : Int) : V.St := ⟨[(0, .v false [.nil0]), (1, .v false [.val (.int .i64 x1)])], []⟩
theorem zq133.r7 (x0 : List Int) (x1 : Int) : V.joinF zq133.E Tryz.f303.ntmps [1] [] (V.codeOf Tryz.f303) (zq133.kt x0 x1) (zq133.s7 x1) = zq133.g7 x1 := by kernel_rfl
theorem zq133.e7 (x0 : List Int) (x1 : Int) : V.jn (V.joinF zq133.E Tryz.f303.ntmps [1] [] (V.codeOf Tryz.f303) (zq133.kt x0 x1)) (zq133.s7 x1) = zq133.l7 x1 := by
  rw [V.jn_eq, zq133.r7]
  rfl
theorem zq133.v (x0 : List Int) (x1 : Int) : V.evBody zq133.E zq133.con Tryz.f303 ((x0, x1) : List Int × Int) = zq133.b x0 x1 (V.jn (V.joinF zq133.E Tryz.f303.ntmps [1] [] (V.codeOf Tryz.f303) (zq133.kt x0 x1)) (zq133.s7 x1)) := by kernel_rfl
theorem zq133.eq (x0 : List Int) (x1 : Int) : V.evBody zq133.E zq133.con Tryz.f303 ((x0, x1) : List Int × Int) = zq133 x0 x1 := by
  rw [zq133.v]
  simp only [zq133.e7]
  rfl
theorem zq133.ok : V.Valid Tryz.prog 303 zq133.con :=
  V.fo V.tab_nil Tryz.func303 (by kernel_rfl) (fun x y h => (show V.evBody zq133.E zq133.con Tryz.f303 x = _ from zq133.eq x.1 x.2).trans (V.cfl (by kernel_rfl) h))
noncomputable abbrev zq128.con : V.Con := ⟨(.cons (.sl (.cons (.sl (.cons (.int .i64) .nil)) .nil)) .nil), (.cons (.sl (.cons (.int .i64) .nil)) .nil), fun (x : List (List Int)) => zq128 x, [], [(false, 1)], [(false, 1)], [true], []⟩
noncomputable abbrev zq128.E : V.Env := V.mkE V.tys [(303, zq133.con)] [(6, [0, 3, 9, 10, 11], []), (22, [6, 25, 26, 27], [])] [] [] [] []
noncomputable abbrev zq128.kt (x0 : List (List Int)) : V.Kt (List Int) := V.ktOf zq128.E zq128.con Tryz.f270 ((x0) : List (List Int))
noncomputable abbrev zq128.s22 (x0 : List (List Int)) (v22_1 : Int) (v22_2 : Int) (v22_3 : List Int) : V.St := ⟨[(6, .v false [.ref 64000140800384]), (25, .v false [.val (.sl (.cons (.sl (.cons (.int .i64) .nil)) .nil) x0)]), (26, .v false [.val (.int .i64 v22_1)]), (27, .v false [.val (.int .i64 v22_2)])], [(64000140800384, .row (.cons (.int .i64) .nil) true v22_3)]⟩
noncomputable abbrev zq128.s6 (x0 : List (List Int)) (v6_1 : Int) (v6_3 : Int) (v6_4 : Int) : V.St := ⟨[(0, .v false [.val (.sl (.cons (.sl (.cons (.int .i64) .nil)) .nil) x0)]), (3, .v false [.val (.int .i64 v6_1)]), (9, .v false [.val (.sl (.cons (.sl (.cons (.int .i64) .nil)) .nil) x0)]), (10, .v false [.val (.int .i64 v6_3)]), (11, .v false [.val (.int .i64 v6_4)])], []⟩
theorem zq128.r22 (x0 : List (List Int)) (R : V.St → Option (List Int)) (v22_1 : Int) (v22_2 : Int) (v22_3 : List Int) : V.loopF zq128.E Tryz.f270.ntmps [1, 1, 1, 1, 0, 1, 0] [] (V.codeOf Tryz.f270) (zq128.kt x0) R (zq128.s22 x0 v22_1 v22_2 v22_3) = zq128.g22 x0 (fun v22_1 v22_2 v22_3 => R (zq128.s22 x0 v22_1 v22_2 v22_3)) v22_1 v22_2 v22_3 := by kernel_rfl
theorem zq128.e22 (x0 : List (List Int)) : ∀ (n : Nat) (v22_1 : Int) (v22_2 : Int) (v22_3 : List Int), V.loopN (V.loopF zq128.E Tryz.f270.ntmps [1, 1, 1, 1, 0, 1, 0] [] (V.codeOf Tryz.f270) (zq128.kt x0)) n (zq128.s22 x0 v22_1 v22_2 v22_3) = zq128.l22 x0 n v22_1 v22_2 v22_3 := by
  intro n
  induction n with
  | zero => intros; rw [V.loopN_z]; rfl
  | succ n ih =>
    intro v22_1 v22_2 v22_3
    rw [V.loopN_s, zq128.r22]
    simp only [ih]
    first | exact (zq128.u22 ..).symm | rfl
theorem zq128.r6 (x0 : List (List Int)) (R : V.St → Option (List Int)) (v6_1 : Int) (v6_3 : Int) (v6_4 : Int) : V.loopF zq128.E Tryz.f270.ntmps [1, 1, 0, 1, 0] [] (V.codeOf Tryz.f270) (zq128.kt x0) R (zq128.s6 x0 v6_1 v6_3 v6_4) = zq128.g6 x0 (fun v6_1 v6_3 v6_4 => R (zq128.s6 x0 v6_1 v6_3 v6_4)) (fun v22_1 v22_2 v22_3 => V.loopN (V.loopF zq128.E Tryz.f270.ntmps [1, 1, 1, 1, 0, 1, 0] [] (V.codeOf Tryz.f270) (zq128.kt x0)) V.KK (zq128.s22 x0 v22_1 v22_2 v22_3)) v6_1 v6_3 v6_4 := by kernel_rfl
theorem zq128.e6 (x0 : List (List Int)) : ∀ (n : Nat) (v6_1 : Int) (v6_3 : Int) (v6_4 : Int), V.loopN (V.loopF zq128.E Tryz.f270.ntmps [1, 1, 0, 1, 0] [] (V.codeOf Tryz.f270) (zq128.kt x0)) n (zq128.s6 x0 v6_1 v6_3 v6_4) = zq128.l6 x0 n v6_1 v6_3 v6_4 := by
  intro n
  induction n with
  | zero => intros; rw [V.loopN_z]; rfl
  | succ n ih =>
    intro v6_1 v6_3 v6_4
    rw [V.loopN_s, zq128.r6]
    simp only [zq128.e22, ih]
    first | exact (zq128.u6 ..).symm | rfl
theorem zq128.v (x0 : List (List Int)) : V.evBody zq128.E zq128.con Tryz.f270 ((x0) : List (List Int)) = zq128.b x0 (fun v6_1 v6_3 v6_4 => V.loopN (V.loopF zq128.E Tryz.f270.ntmps [1, 1, 0, 1, 0] [] (V.codeOf Tryz.f270) (zq128.kt x0)) V.KK (zq128.s6 x0 v6_1 v6_3 v6_4)) := by kernel_rfl
theorem zq128.eq (x0 : List (List Int)) : V.evBody zq128.E zq128.con Tryz.f270 ((x0) : List (List Int)) = zq128 x0 := by
  rw [zq128.v]
  simp only [zq128.e6]
  rfl
theorem zq128.ok : V.Valid Tryz.prog 270 zq128.con :=
  V.fo (V.tab_cons zq133.ok V.tab_nil) Tryz.func270 (by kernel_rfl) (fun x y h => (show V.evBody zq128.E zq128.con Tryz.f270 x = _ from zq128.eq x).trans (V.cfl (by kernel_rfl) h))
noncomputable abbrev zq11.con : V.Con := ⟨V.A2, (.cons (.sl (.cons (.int .i64) .nil)) .nil), fun (x : V.D2) => zq11 (V.p2_0 x), [], [(true, 16)], [(false, 1)], [true], []⟩
noncomputable abbrev zq11.E : V.Env := V.mkE V.tys [(270, zq128.con), (271, zq27.con), (272, zq48.con)] [] [(1, 33)] [] [] []
noncomputable abbrev zq11.kt (x0 : THead) : V.Kt (List Int) := V.ktOf zq11.E zq11.con Tryz.f210 (V.fl2 x0)
noncomputable abbrev zq11.s (x0 : THead) : V.St := ⟨[(0, .v true [.val (.int .i64 x0.1), .val (.int .i64 x0.2.1), .val (.int .i64 x0.2.2.1), .val (.int .i64 x0.2.2.2.1), .val (.int .i64 x0.2.2.2.2.1), .val (.int .i64 x0.2.2.2.2.2.1), .val (.int .i64 x0.2.2.2.2.2.2.1), .val (.int .i64 x0.2.2.2.2.2.2.2.1), .val (.sl (.cons (.int .i64) .nil) x0.2.2.2.2.2.2.2.2.1), .val (.int .i64 x0.2.2.2.2.2.2.2.2.2.1), .val (.sl (.cons (.int .i64) .nil) x0.2.2.2.2.2.2.2.2.2.2.1), .val (.int .i64 x0.2.2.2.2.2.2.2.2.2.2.2.1), .val (.int .i64 x0.2.2.2.2.2.2.2.2.2.2.2.2.1), .val (.sl (.cons (.int .i64) .nil) x0.2.2.2.2.2.2.2.2.2.2.2.2.2.1), .val (.int .i64 x0.2.2.2.2.2.2.2.2.2.2.2.2.2.2.1), .val (.bool x0.2.2.2.2.2.2.2.2.2.2.2.2.2.2.2)])], []⟩
theorem zq11.v0 (x0 : THead) : V.evBody zq11.E zq11.con Tryz.f210 (V.fl2 x0) = V.evC zq11.E Tryz.f210.ntmps (V.codeOf Tryz.f210) (zq11.kt x0) (zq11.s x0) := by kernel_rfl
theorem zq11.v (x0 : THead) : V.evC zq11.E Tryz.f210.ntmps (V.codeOf Tryz.f210) (zq11.kt x0) (zq11.s x0) = zq11 x0 := by kernel_rfl
theorem zq11.eq (x0 : THead) : V.evBody zq11.E zq11.con Tryz.f210 (V.fl2 x0) = zq11 x0 := (zq11.v0 x0).trans (zq11.v x0)
theorem zq11.ok : V.Valid Tryz.prog 210 zq11.con :=
  V.fo (V.tab_cons zq128.ok (V.tab_cons zq27.ok (V.tab_cons zq48.ok V.tab_nil))) Tryz.func210 (by kernel_rfl) (fun x y h => (show V.evBody zq11.E zq11.con Tryz.f210 x = _ from zq11.eq (V.p2_0 x)).trans (V.cfl (by kernel_rfl) h))
noncomputable abbrev zq26.con : V.Con := ⟨(.cons (.int .i64) (.cons (.sl (.cons (.int .i64) .nil)) .nil)), (.cons (.int .i64) .nil), fun (x : Int × List Int) => zq26 x.1 x.2, [], [(false, 1), (false, 1)], [(false, 1)], [false], []⟩
noncomputable abbrev zq26.E : V.Env := V.mkE V.tys [(260, zq9.con), (270, zq128.con)] [] [] [128320] [] []
theorem zq26.eq (x0 : Int) (x1 : List Int) : V.evBody zq26.E zq26.con Tryz.f222 ((x0, x1) : Int × List Int) = zq26 x0 x1 := by kernel_rfl
theorem zq26.ok : V.Valid Tryz.prog 222 zq26.con :=
  V.fo (V.tab_cons zq9.ok (V.tab_cons zq128.ok V.tab_nil)) Tryz.func222 (by kernel_rfl) (fun x y h => (show V.evBody zq26.E zq26.con Tryz.f222 x = _ from zq26.eq x.1 x.2).trans (V.cfl (by kernel_rfl) h))
noncomputable abbrev zq42.con : V.Con := ⟨(.cons (.int .i64) (.cons (.sl (.cons (.int .i64) .nil)) .nil)), (.cons (.int .i64) .nil), fun (x : Int × List Int) => zq42 x.1 x.2, [], [(false, 1), (false, 1)], [(false, 1)], [false], []⟩
noncomputable abbrev zq42.E : V.Env := V.mkE V.tys [(222, zq26.con)] [] [] [] [] []
theorem zq42.eq (x0 : Int) (x1 : List Int) : V.evBody zq42.E zq42.con Tryz.f128 ((x0, x1) : Int × List Int) = zq42 x0 x1 := by kernel_rfl
theorem zq42.ok : V.Valid Tryz.prog 128 zq42.con :=
  V.fo (V.tab_cons zq26.ok V.tab_nil) Tryz.func128 (by kernel_rfl) (fun x y h => (show V.evBody zq42.E zq42.con Tryz.f128 x = _ from zq42.eq x.1 x.2).trans (V.cfl (by kernel_rfl) h))
noncomputable abbrev zq23.con : V.Con := ⟨(.cons (.int .i64) (.cons (.int .i64) (.cons (.sl (.cons (.int .i64) .nil)) .nil))), (.cons .bool .nil), fun (x : Int × Int × List Int) => zq23 (x.1, x.2.1) x.2.2, [], [(true, 2), (false, 1)], [(false, 1)], [false], []⟩
noncomputable abbrev zq23.E : V.Env := V.mkE V.tys [(128, zq42.con), (218, zq60.con)] [] [(1, 10)] [] [] []
theorem zq23.eq (x0 : TSig) (x1 : List Int) : V.evBody zq23.E zq23.con Tryz.f322 ((x0.1, x0.2, x1) : Int × Int × List Int) = zq23 x0 x1 := by kernel_rfl
theorem zq23.ok : V.Valid Tryz.prog 322 zq23.con :=
  V.fo (V.tab_cons zq42.ok (V.tab_cons zq60.ok V.tab_nil)) Tryz.func322 (by kernel_rfl) (fun x y h => (show V.evBody zq23.E zq23.con Tryz.f322 x = _ from zq23.eq (x.1, x.2.1) x.2.2).trans (V.cfl (by kernel_rfl) h))
noncomputable abbrev zq5.con : V.Con := ⟨(.cons (.int .i64) (.cons (.int .i64) (.cons (.ptr (.cons (.int .i64) .nil)) (.cons (.ptr (.cons (.sl (.cons (.int .i64) .nil)) .nil)) .nil)))), (.cons .bool .nil), fun (x : Int × Int × Int × List Int) => zq5 (x.1, x.2.1) x.2.2.1 x.2.2.2, [], [(true, 2), (false, 1), (false, 1)], [(false, 1)], [false], []⟩
noncomputable abbrev zq5.E : V.Env := V.mkE V.tys [(322, zq23.con)] [] [] [] [] []
theorem zq5.eq (x0 : TSig) (x1 : Int) (x2 : List Int) : V.evBody zq5.E zq5.con Tryz.f321 ((x0.1, x0.2, x1, x2) : Int × Int × Int × List Int) = zq5 x0 x1 x2 := by kernel_rfl
theorem zq5.ok : V.Valid Tryz.prog 321 zq5.con :=
  V.fo (V.tab_cons zq23.ok V.tab_nil) Tryz.func321 (by kernel_rfl) (fun x y h => (show V.evBody zq5.E zq5.con Tryz.f321 x = _ from zq5.eq (x.1, x.2.1) x.2.2.1 x.2.2.2).trans (V.cfl (by kernel_rfl) h))
noncomputable abbrev zq134.con : V.Con := ⟨(.cons (.sl (.cons (.int .i64) (.cons (.int .i64) .nil))) (.cons (.fn 321 false .nil (.cons (.ptr (.cons (.int .i64) .nil)) (.cons (.ptr (.cons (.sl (.cons (.int .i64) .nil)) .nil)) .nil))) .nil)), (.cons (.int .i64) .nil), fun (x : List TSig × (Unit) × (Int × List Int)) => zq134 x.1 x.2, [], [(false, 1), (false, 1)], [(false, 1)], [false], []⟩
noncomputable abbrev zq134.E : V.Env := V.mkE V.tys [(321, zq5.con)] [(4, [0, 1, 7, 8], [])] [] [] [] []
noncomputable abbrev zq134.kt (x0 : List TSig) (x1 : (Unit) × (Int × List Int)) : V.Kt Int := V.ktOf zq134.E zq134.con Tryz.f323 ((x0, x1) : List TSig × (Unit) × (Int × List Int))
noncomputable abbrev zq134.s4 (x0 : List TSig) (x1 : (Unit) × (Int × List Int)) (v4_2 : Int) (v4_3 : Int) : V.St := ⟨[(0, .v false [.val (.sl (.cons (.int .i64) (.cons (.int .i64) .nil)) x0)]), (1, .v false [.val (.fn 321 false .nil (.cons (.ptr (.cons (.int .i64) .nil)) (.cons (.ptr (.cons (.sl (.cons (.int .i64) .nil)) .nil)) .nil)) () x1.2)]), (7, .v false [.val (.int .i64 v4_2)]), (8, .v false [.val (.int .i64 v4_3)])], []⟩
theorem zq134.r4 (x0 : List TSig) (x1 : (Unit) × (Int × List Int)) (R : V.St → Option Int) (v4_2 : Int) (v4_3 : Int) : V.loopF zq134.E Tryz.f323.ntmps [1, 0, 1, 0] [] (V.codeOf Tryz.f323) (zq134.kt x0 x1) R (zq134.s4 x0 x1 v4_2 v4_3) = zq134.g4 x0 x1 (fun v4_2 v4_3 => R (zq134.s4 x0 x1 v4_2 v4_3)) v4_2 v4_3 := by kernel_rfl
theorem zq134.e4 (x0 : List TSig) (x1 : (Unit) × (Int × List Int)) : ∀ (n : Nat) (v4_2 : Int) (v4_3 : Int), V.loopN (V.loopF zq134.E Tryz.f323.ntmps [1, 0, 1, 0] [] (V.codeOf Tryz.f323) (zq134.kt x0 x1)) n (zq134.s4 x0 x1 v4_2 v4_3) = zq134.l4 x0 x1 n v4_2 v4_3 := by
  intro n
  induction n with
  | zero => intros; rw [V.loopN_z]; rfl
  | succ n ih =>
    intro v4_2 v4_3
    rw [V.loopN_s, zq134.r4]
    simp only [ih]
    first | exact (zq134.u4 ..).symm | rfl
theorem zq134.v (x0 : List TSig) (x1 : (Unit) × (Int × List Int)) : V.evBody zq134.E zq134.con Tryz.f323 ((x0, x1) : List TSig × (Unit) × (Int × List Int)) = zq134.b x0 x1 (fun v4_2 v4_3 => V.loopN (V.loopF zq134.E Tryz.f323.ntmps [1, 0, 1, 0] [] (V.codeOf Tryz.f323) (zq134.kt x0 x1)) V.KK (zq134.s4 x0 x1 v4_2 v4_3)) := by kernel_rfl
theorem zq134.eq (x0 : List TSig) (x1 : (Unit) × (Int × List Int)) : V.evBody zq134.E zq134.con Tryz.f323 ((x0, x1) : List TSig × (Unit) × (Int × List Int)) = zq134 x0 x1 := by
  rw [zq134.v]
  simp only [zq134.e4]
  rfl
theorem zq134.ok : V.Valid Tryz.prog 323 zq134.con :=
  V.fo (V.tab_cons zq5.ok V.tab_nil) Tryz.func323 (by kernel_rfl) (fun x y h => (show V.evBody zq134.E zq134.con Tryz.f323 x = _ from zq134.eq x.1 x.2).trans (V.cfl (by kernel_rfl) h))
noncomputable abbrev zq129.con : V.Con := ⟨(.cons (.sl (.cons (.int .i64) (.cons (.int .i64) .nil))) (.cons (.fn 321 false .nil (.cons (.ptr (.cons (.int .i64) .nil)) (.cons (.ptr (.cons (.sl (.cons (.int .i64) .nil)) .nil)) .nil))) .nil)), (.cons .bool .nil), fun (x : List TSig × (Unit) × (Int × List Int)) => zq129 x.1 x.2, [], [(false, 1), (false, 1)], [(false, 1)], [false], []⟩
noncomputable abbrev zq129.E : V.Env := V.mkE V.tys [(323, zq134.con)] [] [] [] [] []
theorem zq129.eq (x0 : List TSig) (x1 : (Unit) × (Int × List Int)) : V.evBody zq129.E zq129.con Tryz.f320 ((x0, x1) : List TSig × (Unit) × (Int × List Int)) = zq129 x0 x1 := by kernel_rfl
theorem zq129.ok : V.Valid Tryz.prog 320 zq129.con :=
  V.fo (V.tab_cons zq134.ok V.tab_nil) Tryz.func320 (by kernel_rfl) (fun x y h => (show V.evBody zq129.E zq129.con Tryz.f320 x = _ from zq129.eq x.1 x.2).trans (V.cfl (by kernel_rfl) h))
noncomputable abbrev zq4.con : V.Con := ⟨(.cons (.sl (.cons (.int .i64) .nil)) (.cons (.int .i64) (.cons (.sl (.cons (.int .i64) .nil)) (.cons (.sl (.cons (.int .i64) (.cons (.int .i64) .nil))) .nil)))), (.cons (.int .i64) .nil), fun (x : List Int × Int × List Int × List TSig) => zq4 (x.1, x.2.1) x.2.2.1 x.2.2.2, [], [(true, 2), (false, 1), (false, 1)], [(false, 1)], [false], []⟩
noncomputable abbrev zq4.E : V.Env := V.mkE V.tys [(320, zq129.con)] [(6, [2, 4, 7, 11, 12, 13], [])] [] [] [] []
noncomputable abbrev zq4.kt (x0 : TKeys) (x1 : List Int) (x2 : List TSig) : V.Kt Int := V.ktOf zq4.E zq4.con Tryz.f319 ((x0.1, x0.2, x1, x2) : List Int × Int × List Int × List TSig)
noncomputable abbrev zq4.s6 (x0 : TKeys) (x1 : List Int) (x2 : List TSig) (v6_1 : Int) (v6_3 : Int) (v6_4 : Int) : V.St := ⟨[(2, .v false [.val (.sl (.cons (.int .i64) (.cons (.int .i64) .nil)) x2)]), (4, .v false [.ptr 64064 0]), (7, .v false [.val (.int .i64 v6_1)]), (11, .v false [.val (.sl (.cons (.int .i64) .nil) x0.1)]), (12, .v false [.val (.int .i64 v6_3)]), (13, .v false [.val (.int .i64 v6_4)])], [(64064, .box [.val (.sl (.cons (.int .i64) .nil) x1)])]⟩
theorem zq4.r6 (x0 : TKeys) (x1 : List Int) (x2 : List TSig) (R : V.St → Option Int) (v6_1 : Int) (v6_3 : Int) (v6_4 : Int) : V.loopF zq4.E Tryz.f319.ntmps [1, 1, 0, 1, 0] [] (V.codeOf Tryz.f319) (zq4.kt x0 x1 x2) R (zq4.s6 x0 x1 x2 v6_1 v6_3 v6_4) = zq4.g6 x0 x1 x2 (fun v6_1 v6_3 v6_4 => R (zq4.s6 x0 x1 x2 v6_1 v6_3 v6_4)) v6_1 v6_3 v6_4 := by kernel_rfl
theorem zq4.e6 (x0 : TKeys) (x1 : List Int) (x2 : List TSig) : ∀ (n : Nat) (v6_1 : Int) (v6_3 : Int) (v6_4 : Int), V.loopN (V.loopF zq4.E Tryz.f319.ntmps [1, 1, 0, 1, 0] [] (V.codeOf Tryz.f319) (zq4.kt x0 x1 x2)) n (zq4.s6 x0 x1 x2 v6_1 v6_3 v6_4) = zq4.l6 x0 x1 x2 n v6_1 v6_3 v6_4 := by
  intro n
  induction n with
  | zero => intros; rw [V.loopN_z]; rfl
  | succ n ih =>
    intro v6_1 v6_3 v6_4
    rw [V.loopN_s, zq4.r6]
    simp only [ih]
    first | exact (zq4.u6 ..).symm | rfl
theorem zq4.v (x0 : TKeys) (x1 : List Int) (x2 : List TSig) : V.evBody zq4.E zq4.con Tryz.f319 ((x0.1, x0.2, x1, x2) : List Int × Int × List Int × List TSig) = zq4.b x0 x1 x2 (fun v6_1 v6_3 v6_4 => V.loopN (V.loopF zq4.E Tryz.f319.ntmps [1, 1, 0, 1, 0] [] (V.codeOf Tryz.f319) (zq4.kt x0 x1 x2)) V.KK (zq4.s6 x0 x1 x2 v6_1 v6_3 v6_4)) := by kernel_rfl
theorem zq4.eq (x0 : TKeys) (x1 : List Int) (x2 : List TSig) : V.evBody zq4.E zq4.con Tryz.f319 ((x0.1, x0.2, x1, x2) : List Int × Int × List Int × List TSig) = zq4 x0 x1 x2 := by
  rw [zq4.v]
  simp only [zq4.e6]
  rfl
theorem zq4.ok : V.Valid Tryz.prog 319 zq4.con :=
  V.fo (V.tab_cons zq129.ok V.tab_nil) Tryz.func319 (by kernel_rfl) (fun x y h => (show V.evBody zq4.E zq4.con Tryz.f319 x = _ from zq4.eq (x.1, x.2.1) x.2.2.1 x.2.2.2).trans (V.cfl (by kernel_rfl) h))
noncomputable abbrev zq24.con : V.Con := ⟨(.cons (.sl (.cons (.int .i64) .nil)) (.cons (.int .i64) (.cons (.sl (.cons (.int .i64) .nil)) (.cons (.sl (.cons (.int .i64) (.cons (.int .i64) .nil))) .nil)))), (.cons .bool .nil), fun (x : List Int × Int × List Int × List TSig) => zq24 (x.1, x.2.1) x.2.2.1 x.2.2.2, [], [(true, 2), (false, 1), (false, 1)], [(false, 1)], [false], []⟩
noncomputable abbrev zq24.E : V.Env := V.mkE V.tys [(256, zq17.con), (319, zq4.con)] [] [(1, 9)] [] [] []
theorem zq24.eq (x0 : TKeys) (x1 : List Int) (x2 : List TSig) : V.evBody zq24.E zq24.con Tryz.f315 ((x0.1, x0.2, x1, x2) : List Int × Int × List Int × List TSig) = zq24 x0 x1 x2 := by kernel_rfl
theorem zq24.ok : V.Valid Tryz.prog 315 zq24.con :=
  V.fo (V.tab_cons zq17.ok (V.tab_cons zq4.ok V.tab_nil)) Tryz.func315 (by kernel_rfl) (fun x y h => (show V.evBody zq24.E zq24.con Tryz.f315 x = _ from zq24.eq (x.1, x.2.1) x.2.2.1 x.2.2.2).trans (V.cfl (by kernel_rfl) h))
noncomputable abbrev zq40.con : V.Con := ⟨V.A6, (.cons .bool .nil), fun (x : V.D6) => zq40 (V.p6_0 x) (V.p6_1 x), [], [(true, 17), (true, 2)], [(false, 1)], [false], []⟩
noncomputable abbrev zq40.E : V.Env := V.mkE V.tys [(210, zq11.con), (315, zq24.con)] [] [(1, 6)] [] [] []
noncomputable abbrev zq40.kt (x0 : TSigned) (x1 : TKeys) : V.Kt Bool := V.ktOf zq40.E zq40.con Tryz.f302 (V.fl6 x0 x1)
noncomputable abbrev zq40.s (x0 : TSigned) (x1 : TKeys) : V.St := ⟨[(0, .v true [.val (.int .i64 x0.1), .val (.int .i64 x0.2.1), .val (.int .i64 x0.2.2.1), .val (.int .i64 x0.2.2.2.1), .val (.int .i64 x0.2.2.2.2.1), .val (.int .i64 x0.2.2.2.2.2.1), .val (.int .i64 x0.2.2.2.2.2.2.1), .val (.int .i64 x0.2.2.2.2.2.2.2.1), .val (.sl (.cons (.int .i64) .nil) x0.2.2.2.2.2.2.2.2.1), .val (.int .i64 x0.2.2.2.2.2.2.2.2.2.1), .val (.sl (.cons (.int .i64) .nil) x0.2.2.2.2.2.2.2.2.2.2.1), .val (.int .i64 x0.2.2.2.2.2.2.2.2.2.2.2.1), .val (.int .i64 x0.2.2.2.2.2.2.2.2.2.2.2.2.1), .val (.sl (.cons (.int .i64) .nil) x0.2.2.2.2.2.2.2.2.2.2.2.2.2.1), .val (.int .i64 x0.2.2.2.2.2.2.2.2.2.2.2.2.2.2.1), .val (.bool x0.2.2.2.2.2.2.2.2.2.2.2.2.2.2.2.1), .val (.sl (.cons (.int .i64) (.cons (.int .i64) .nil)) x0.2.2.2.2.2.2.2.2.2.2.2.2.2.2.2.2)]), (1, .v true [.val (.sl (.cons (.int .i64) .nil) x1.1), .val (.int .i64 x1.2)])], []⟩
theorem zq40.v0 (x0 : TSigned) (x1 : TKeys) : V.evBody zq40.E zq40.con Tryz.f302 (V.fl6 x0 x1) = V.evC zq40.E Tryz.f302.ntmps (V.codeOf Tryz.f302) (zq40.kt x0 x1) (zq40.s x0 x1) := by kernel_rfl
theorem zq40.v (x0 : TSigned) (x1 : TKeys) : V.evC zq40.E Tryz.f302.ntmps (V.codeOf Tryz.f302) (zq40.kt x0 x1) (zq40.s x0 x1) = zq40 x0 x1 := by kernel_rfl
theorem zq40.eq (x0 : TSigned) (x1 : TKeys) : V.evBody zq40.E zq40.con Tryz.f302 (V.fl6 x0 x1) = zq40 x0 x1 := (zq40.v0 x0 x1).trans (zq40.v x0 x1)
theorem zq40.ok : V.Valid Tryz.prog 302 zq40.con :=
  V.fo (V.tab_cons zq11.ok (V.tab_cons zq24.ok V.tab_nil)) Tryz.func302 (by kernel_rfl) (fun x y h => (show V.evBody zq40.E zq40.con Tryz.f302 x = _ from zq40.eq (V.p6_0 x) (V.p6_1 x)).trans (V.cfl (by kernel_rfl) h))
noncomputable abbrev zq15.con : V.Con := ⟨V.A3, (.cons .bool .nil), fun (x : V.D3) => zq15 (V.p3_0 x), [], [(true, 17)], [(false, 1)], [false], []⟩
noncomputable abbrev zq15.E : V.Env := V.mkE V.tys [(194, zq16.con), (227, zq45.con), (302, zq40.con)] [] [(2, 31)] [] [] []
noncomputable abbrev zq15.kt (x0 : TSigned) : V.Kt Bool := V.ktOf zq15.E zq15.con Tryz.f268 (V.fl3 x0)
noncomputable abbrev zq15.s (x0 : TSigned) : V.St := ⟨[(0, .v true [.val (.int .i64 x0.1), .val (.int .i64 x0.2.1), .val (.int .i64 x0.2.2.1), .val (.int .i64 x0.2.2.2.1), .val (.int .i64 x0.2.2.2.2.1), .val (.int .i64 x0.2.2.2.2.2.1), .val (.int .i64 x0.2.2.2.2.2.2.1), .val (.int .i64 x0.2.2.2.2.2.2.2.1), .val (.sl (.cons (.int .i64) .nil) x0.2.2.2.2.2.2.2.2.1), .val (.int .i64 x0.2.2.2.2.2.2.2.2.2.1), .val (.sl (.cons (.int .i64) .nil) x0.2.2.2.2.2.2.2.2.2.2.1), .val (.int .i64 x0.2.2.2.2.2.2.2.2.2.2.2.1), .val (.int .i64 x0.2.2.2.2.2.2.2.2.2.2.2.2.1), .val (.sl (.cons (.int .i64) .nil) x0.2.2.2.2.2.2.2.2.2.2.2.2.2.1), .val (.int .i64 x0.2.2.2.2.2.2.2.2.2.2.2.2.2.2.1), .val (.bool x0.2.2.2.2.2.2.2.2.2.2.2.2.2.2.2.1), .val (.sl (.cons (.int .i64) (.cons (.int .i64) .nil)) x0.2.2.2.2.2.2.2.2.2.2.2.2.2.2.2.2)])], []⟩
theorem zq15.v0 (x0 : TSigned) : V.evBody zq15.E zq15.con Tryz.f268 (V.fl3 x0) = V.evC zq15.E Tryz.f268.ntmps (V.codeOf Tryz.f268) (zq15.kt x0) (zq15.s x0) := by kernel_rfl
theorem zq15.v (x0 : TSigned) : V.evC zq15.E Tryz.f268.ntmps (V.codeOf Tryz.f268) (zq15.kt x0) (zq15.s x0) = zq15 x0 := by kernel_rfl
theorem zq15.eq (x0 : TSigned) : V.evBody zq15.E zq15.con Tryz.f268 (V.fl3 x0) = zq15 x0 := (zq15.v0 x0).trans (zq15.v x0)
theorem zq15.ok : V.Valid Tryz.prog 268 zq15.con :=
  V.fo (V.tab_cons zq16.ok (V.tab_cons zq45.ok (V.tab_cons zq40.ok V.tab_nil))) Tryz.func268 (by kernel_rfl) (fun x y h => (show V.evBody zq15.E zq15.con Tryz.f268 x = _ from zq15.eq (V.p3_0 x)).trans (V.cfl (by kernel_rfl) h))
noncomputable abbrev zq10.con : V.Con := ⟨V.A2, (.cons (.int .i64) .nil), fun (x : V.D2) => zq10 (V.p2_0 x), [], [(true, 16)], [(false, 1)], [false], []⟩
noncomputable abbrev zq10.E : V.Env := V.mkE V.tys [(210, zq11.con), (260, zq9.con)] [] [] [] [] []
noncomputable abbrev zq10.kt (x0 : THead) : V.Kt Int := V.ktOf zq10.E zq10.con Tryz.f197 (V.fl2 x0)
noncomputable abbrev zq10.s (x0 : THead) : V.St := ⟨[(0, .v true [.val (.int .i64 x0.1), .val (.int .i64 x0.2.1), .val (.int .i64 x0.2.2.1), .val (.int .i64 x0.2.2.2.1), .val (.int .i64 x0.2.2.2.2.1), .val (.int .i64 x0.2.2.2.2.2.1), .val (.int .i64 x0.2.2.2.2.2.2.1), .val (.int .i64 x0.2.2.2.2.2.2.2.1), .val (.sl (.cons (.int .i64) .nil) x0.2.2.2.2.2.2.2.2.1), .val (.int .i64 x0.2.2.2.2.2.2.2.2.2.1), .val (.sl (.cons (.int .i64) .nil) x0.2.2.2.2.2.2.2.2.2.2.1), .val (.int .i64 x0.2.2.2.2.2.2.2.2.2.2.2.1), .val (.int .i64 x0.2.2.2.2.2.2.2.2.2.2.2.2.1), .val (.sl (.cons (.int .i64) .nil) x0.2.2.2.2.2.2.2.2.2.2.2.2.2.1), .val (.int .i64 x0.2.2.2.2.2.2.2.2.2.2.2.2.2.2.1), .val (.bool x0.2.2.2.2.2.2.2.2.2.2.2.2.2.2.2)])], []⟩
theorem zq10.v0 (x0 : THead) : V.evBody zq10.E zq10.con Tryz.f197 (V.fl2 x0) = V.evC zq10.E Tryz.f197.ntmps (V.codeOf Tryz.f197) (zq10.kt x0) (zq10.s x0) := by kernel_rfl
theorem zq10.v (x0 : THead) : V.evC zq10.E Tryz.f197.ntmps (V.codeOf Tryz.f197) (zq10.kt x0) (zq10.s x0) = zq10 x0 := by kernel_rfl
theorem zq10.eq (x0 : THead) : V.evBody zq10.E zq10.con Tryz.f197 (V.fl2 x0) = zq10 x0 := (zq10.v0 x0).trans (zq10.v x0)
theorem zq10.ok : V.Valid Tryz.prog 197 zq10.con :=
  V.fo (V.tab_cons zq11.ok (V.tab_cons zq9.ok V.tab_nil)) Tryz.func197 (by kernel_rfl) (fun x y h => (show V.evBody zq10.E zq10.con Tryz.f197 x = _ from zq10.eq (V.p2_0 x)).trans (V.cfl (by kernel_rfl) h))
noncomputable abbrev zq62.con : V.Con := ⟨V.A4, (.cons .bool .nil), fun (x : V.D4) => zq62 (V.p4_0 x) (V.p4_1 x), [], [(true, 16), (true, 16)], [(false, 1)], [false], []⟩
noncomputable abbrev zq62.E : V.Env := V.mkE V.tys [(197, zq10.con)] [] [(1, 25)] [] [] []
noncomputable abbrev zq62.kt (x0 : THead) (x1 : THead) : V.Kt Bool := V.ktOf zq62.E zq62.con Tryz.f288 (V.fl4 x0 x1)
noncomputable abbrev zq62.s (x0 : THead) (x1 : THead) : V.St := ⟨[(0, .v true [.val (.int .i64 x0.1), .val (.int .i64 x0.2.1), .val (.int .i64 x0.2.2.1), .val (.int .i64 x0.2.2.2.1), .val (.int .i64 x0.2.2.2.2.1), .val (.int .i64 x0.2.2.2.2.2.1), .val (.int .i64 x0.2.2.2.2.2.2.1), .val (.int .i64 x0.2.2.2.2.2.2.2.1), .val (.sl (.cons (.int .i64) .nil) x0.2.2.2.2.2.2.2.2.1), .val (.int .i64 x0.2.2.2.2.2.2.2.2.2.1), .val (.sl (.cons (.int .i64) .nil) x0.2.2.2.2.2.2.2.2.2.2.1), .val (.int .i64 x0.2.2.2.2.2.2.2.2.2.2.2.1), .val (.int .i64 x0.2.2.2.2.2.2.2.2.2.2.2.2.1), .val (.sl (.cons (.int .i64) .nil) x0.2.2.2.2.2.2.2.2.2.2.2.2.2.1), .val (.int .i64 x0.2.2.2.2.2.2.2.2.2.2.2.2.2.2.1), .val (.bool x0.2.2.2.2.2.2.2.2.2.2.2.2.2.2.2)]), (1, .v true [.val (.int .i64 x1.1), .val (.int .i64 x1.2.1), .val (.int .i64 x1.2.2.1), .val (.int .i64 x1.2.2.2.1), .val (.int .i64 x1.2.2.2.2.1), .val (.int .i64 x1.2.2.2.2.2.1), .val (.int .i64 x1.2.2.2.2.2.2.1), .val (.int .i64 x1.2.2.2.2.2.2.2.1), .val (.sl (.cons (.int .i64) .nil) x1.2.2.2.2.2.2.2.2.1), .val (.int .i64 x1.2.2.2.2.2.2.2.2.2.1), .val (.sl (.cons (.int .i64) .nil) x1.2.2.2.2.2.2.2.2.2.2.1), .val (.int .i64 x1.2.2.2.2.2.2.2.2.2.2.2.1), .val (.int .i64 x1.2.2.2.2.2.2.2.2.2.2.2.2.1), .val (.sl (.cons (.int .i64) .nil) x1.2.2.2.2.2.2.2.2.2.2.2.2.2.1), .val (.int .i64 x1.2.2.2.2.2.2.2.2.2.2.2.2.2.2.1), .val (.bool x1.2.2.2.2.2.2.2.2.2.2.2.2.2.2.2)])], []⟩
theorem zq62.v0 (x0 : THead) (x1 : THead) : V.evBody zq62.E zq62.con Tryz.f288 (V.fl4 x0 x1) = V.evC zq62.E Tryz.f288.ntmps (V.codeOf Tryz.f288) (zq62.kt x0 x1) (zq62.s x0 x1) := by kernel_rfl
theorem zq62.v (x0 : THead) (x1 : THead) : V.evC zq62.E Tryz.f288.ntmps (V.codeOf Tryz.f288) (zq62.kt x0 x1) (zq62.s x0 x1) = zq62 x0 x1 := by kernel_rfl
theorem zq62.eq (x0 : THead) (x1 : THead) : V.evBody zq62.E zq62.con Tryz.f288 (V.fl4 x0 x1) = zq62 x0 x1 := (zq62.v0 x0 x1).trans (zq62.v x0 x1)
theorem zq62.ok : V.Valid Tryz.prog 288 zq62.con :=
  V.fo (V.tab_cons zq10.ok V.tab_nil) Tryz.func288 (by kernel_rfl) (fun x y h => (show V.evBody zq62.E zq62.con Tryz.f288 x = _ from zq62.eq (V.p4_0 x) (V.p4_1 x)).trans (V.cfl (by kernel_rfl) h))
noncomputable abbrev zq67.con : V.Con := ⟨V.A5, (.cons (.int .i64) .nil), fun (x : V.D5) => zq67 (V.p5_0 x) (V.p5_1 x), [], [(true, 16), (true, 17)], [(false, 1)], [false], []⟩
noncomputable abbrev zq67.E : V.Env := V.mkE V.tys [(302, zq40.con)] [] [] [] [] []
noncomputable abbrev zq67.kt (x0 : THead) (x1 : TSigned) : V.Kt Int := V.ktOf zq67.E zq67.con Tryz.f289 (V.fl5 x0 x1)
noncomputable abbrev zq67.s (x0 : THead) (x1 : TSigned) : V.St := ⟨[(0, .v true [.val (.int .i64 x0.1), .val (.int .i64 x0.2.1), .val (.int .i64 x0.2.2.1), .val (.int .i64 x0.2.2.2.1), .val (.int .i64 x0.2.2.2.2.1), .val (.int .i64 x0.2.2.2.2.2.1), .val (.int .i64 x0.2.2.2.2.2.2.1), .val (.int .i64 x0.2.2.2.2.2.2.2.1), .val (.sl (.cons (.int .i64) .nil) x0.2.2.2.2.2.2.2.2.1), .val (.int .i64 x0.2.2.2.2.2.2.2.2.2.1), .val (.sl (.cons (.int .i64) .nil) x0.2.2.2.2.2.2.2.2.2.2.1), .val (.int .i64 x0.2.2.2.2.2.2.2.2.2.2.2.1), .val (.int .i64 x0.2.2.2.2.2.2.2.2.2.2.2.2.1), .val (.sl (.cons (.int .i64) .nil) x0.2.2.2.2.2.2.2.2.2.2.2.2.2.1), .val (.int .i64 x0.2.2.2.2.2.2.2.2.2.2.2.2.2.2.1), .val (.bool x0.2.2.2.2.2.2.2.2.2.2.2.2.2.2.2)]), (1, .v true [.val (.int .i64 x1.1), .val (.int .i64 x1.2.1), .val (.int .i64 x1.2.2.1), .val (.int .i64 x1.2.2.2.1), .val (.int .i64 x1.2.2.2.2.1), .val (.int .i64 x1.2.2.2.2.2.1), .val (.int .i64 x1.2.2.2.2.2.2.1), .val (.int .i64 x1.2.2.2.2.2.2.2.1), .val (.sl (.cons (.int .i64) .nil) x1.2.2.2.2.2.2.2.2.1), .val (.int .i64 x1.2.2.2.2.2.2.2.2.2.1), .val (.sl (.cons (.int .i64) .nil) x1.2.2.2.2.2.2.2.2.2.2.1), .val (.int .i64 x1.2.2.2.2.2.2.2.2.2.2.2.1), .val (.int .i64 x1.2.2.2.2.2.2.2.2.2.2.2.2.1), .val (.sl (.cons (.int .i64) .nil) x1.2.2.2.2.2.2.2.2.2.2.2.2.2.1), .val (.int .i64 x1.2.2.2.2.2.2.2.2.2.2.2.2.2.2.1), .val (.bool x1.2.2.2.2.2.2.2.2.2.2.2.2.2.2.2.1), .val (.sl (.cons (.int .i64) (.cons (.int .i64) .nil)) x1.2.2.2.2.2.2.2.2.2.2.2.2.2.2.2.2)])], []⟩
theorem zq67.v0 (x0 : THead) (x1 : TSigned) : V.evBody zq67.E zq67.con Tryz.f289 (V.fl5 x0 x1) = V.evC zq67.E Tryz.f289.ntmps (V.codeOf Tryz.f289) (zq67.kt x0 x1) (zq67.s x0 x1) := by kernel_rfl
theorem zq67.v (x0 : THead) (x1 : TSigned) : V.evC zq67.E Tryz.f289.ntmps (V.codeOf Tryz.f289) (zq67.kt x0 x1) (zq67.s x0 x1) = zq67 x0 x1 := by kernel_rfl
theorem zq67.eq (x0 : THead) (x1 : TSigned) : V.evBody zq67.E zq67.con Tryz.f289 (V.fl5 x0 x1) = zq67 x0 x1 := (zq67.v0 x0 x1).trans (zq67.v x0 x1)
theorem zq67.ok : V.Valid Tryz.prog 289 zq67.con :=
  V.fo (V.tab_cons zq40.ok V.tab_nil) Tryz.func289 (by kernel_rfl) (fun x y h => (show V.evBody zq67.E zq67.con Tryz.f289 x = _ from zq67.eq (V.p5_0 x) (V.p5_1 x)).trans (V.cfl (by kernel_rfl) h))
noncomputable abbrev zq132.con : V.Con := ⟨(.cons (.sl (.cons (.int .i64) .nil)) (.cons (.sl (.cons (.int .i64) .nil)) .nil)), (.cons .bool .nil), fun (x : List Int × List Int) => zq132 x.1 x.2, [], [(false, 1), (false, 1)], [(false, 1)], [false], []⟩
noncomputable abbrev zq132.E : V.Env := V.mkE V.tys [] [(8, [0, 1, 12, 13], [])] [(6, 8)] [] [] []
noncomputable abbrev zq132.kt (x0 : List Int) (x1 : List Int) : V.Kt Bool := V.ktOf zq132.E zq132.con Tryz.f209 ((x0, x1) : List Int × List Int)
noncomputable abbrev zq132.s8 (x0 : List Int) (x1 : List Int) (v8_2 : Int) (v8_3 : Int) : V.St := ⟨[(0, .v false [.val (.sl (.cons (.int .i64) .nil) x0)]), (1, .v false [.val (.sl (.cons (.int .i64) .nil) x1)]), (12, .v false [.val (.int .i64 v8_2)]), (13, .v false [.val (.int .i64 v8_3)])], []⟩
theorem zq132.r8 (x0 : List Int) (x1 : List Int) (R : V.St → Option Bool) (v8_2 : Int) (v8_3 : Int) : V.loopF zq132.E Tryz.f209.ntmps [1, 1, 0, 1, 0] [] (V.codeOf Tryz.f209) (zq132.kt x0 x1) R (zq132.s8 x0 x1 v8_2 v8_3) = zq132.g8 x0 x1 (fun v8_2 v8_3 => R (zq132.s8 x0 x1 v8_2 v8_3)) v8_2 v8_3 := by kernel_rfl
theorem zq132.e8 (x0 : List Int) (x1 : List Int) : ∀ (n : Nat) (v8_2 : Int) (v8_3 : Int), V.loopN (V.loopF zq132.E Tryz.f209.ntmps [1, 1, 0, 1, 0] [] (V.codeOf Tryz.f209) (zq132.kt x0 x1)) n (zq132.s8 x0 x1 v8_2 v8_3) = zq132.l8 x0 x1 n v8_2 v8_3 := by
  intro n
  induction n with
  | zero => intros; rw [V.loopN_z]; rfl
  | succ n ih =>
    intro v8_2 v8_3
    rw [V.loopN_s, zq132.r8]
    simp only [ih]
    first | exact (zq132.u8 ..).symm | rfl
theorem zq132.v (x0 : List Int) (x1 : List Int) : V.evBody zq132.E zq132.con Tryz.f209 ((x0, x1) : List Int × List Int) = zq132.b x0 x1 (fun v8_2 v8_3 => V.loopN (V.loopF zq132.E Tryz.f209.ntmps [1, 1, 0, 1, 0] [] (V.codeOf Tryz.f209) (zq132.kt x0 x1)) V.KK (zq132.s8 x0 x1 v8_2 v8_3)) := by kernel_rfl
theorem zq132.eq (x0 : List Int) (x1 : List Int) : V.evBody zq132.E zq132.con Tryz.f209 ((x0, x1) : List Int × List Int) = zq132 x0 x1 := by
  rw [zq132.v]
  simp only [zq132.e8]
  rfl
theorem zq132.ok : V.Valid Tryz.prog 209 zq132.con :=
  V.fo V.tab_nil Tryz.func209 (by kernel_rfl) (fun x y h => (show V.evBody zq132.E zq132.con Tryz.f209 x = _ from zq132.eq x.1 x.2).trans (V.cfl (by kernel_rfl) h))
noncomputable abbrev zq7.con : V.Con := ⟨(.cons (.sl (.cons (.int .i64) .nil)) (.cons (.int .i64) (.cons (.sl (.cons (.int .i64) .nil)) (.cons (.int .i64) .nil)))), (.cons .bool .nil), fun (x : List Int × Int × List Int × Int) => zq7 (x.1, x.2.1) x.2.2, [], [(true, 2), (true, 2)], [(false, 1)], [false], []⟩
noncomputable abbrev zq7.E : V.Env := V.mkE V.tys [(209, zq132.con)] [] [] [] [] []
theorem zq7.eq (x0 : TKeys) (x1 : TKeys) : V.evBody zq7.E zq7.con Tryz.f208 ((x0.1, x0.2, x1.1, x1.2) : List Int × Int × List Int × Int) = zq7 x0 x1 := by kernel_rfl
theorem zq7.ok : V.Valid Tryz.prog 208 zq7.con :=
  V.fo (V.tab_cons zq132.ok V.tab_nil) Tryz.func208 (by kernel_rfl) (fun x y h => (show V.evBody zq7.E zq7.con Tryz.f208 x = _ from zq7.eq (x.1, x.2.1) x.2.2).trans (V.cfl (by kernel_rfl) h))
noncomputable abbrev zq37.con : V.Con := ⟨V.A4, (.cons .bool .nil), fun (x : V.D4) => zq37 (V.p4_0 x) (V.p4_1 x), [], [(true, 16), (true, 16)], [(false, 1)], [false], []⟩
noncomputable abbrev zq37.E : V.Env := V.mkE V.tys [] [] [] [] [] []
noncomputable abbrev zq37.kt (x0 : THead) (x1 : THead) : V.Kt Bool := V.ktOf zq37.E zq37.con Tryz.f310 (V.fl4 x0 x1)
noncomputable abbrev zq37.s (x0 : THead) (x1 : THead) : V.St := ⟨[(0, .v true [.val (.int .i64 x0.1), .val (.int .i64 x0.2.1), .val (.int .i64 x0.2.2.1), .val (.int .i64 x0.2.2.2.1), .val (.int .i64 x0.2.2.2.2.1), .val (.int .i64 x0.2.2.2.2.2.1), .val (.int .i64 x0.2.2.2.2.2.2.1), .val (.int .i64 x0.2.2.2.2.2.2.2.1), .val (.sl (.cons (.int .i64) .nil) x0.2.2.2.2.2.2.2.2.1), .val (.int .i64 x0.2.2.2.2.2.2.2.2.2.1), .val (.sl (.cons (.int .i64) .nil) x0.2.2.2.2.2.2.2.2.2.2.1), .val (.int .i64 x0.2.2.2.2.2.2.2.2.2.2.2.1), .val (.int .i64 x0.2.2.2.2.2.2.2.2.2.2.2.2.1), .val (.sl (.cons (.int .i64) .nil) x0.2.2.2.2.2.2.2.2.2.2.2.2.2.1), .val (.int .i64 x0.2.2.2.2.2.2.2.2.2.2.2.2.2.2.1), .val (.bool x0.2.2.2.2.2.2.2.2.2.2.2.2.2.2.2)]), (1, .v true [.val (.int .i64 x1.1), .val (.int .i64 x1.2.1), .val (.int .i64 x1.2.2.1), .val (.int .i64 x1.2.2.2.1), .val (.int .i64 x1.2.2.2.2.1), .val (.int .i64 x1.2.2.2.2.2.1), .val (.int .i64 x1.2.2.2.2.2.2.1), .val (.int .i64 x1.2.2.2.2.2.2.2.1), .val (.sl (.cons (.int .i64) .nil) x1.2.2.2.2.2.2.2.2.1), .val (.int .i64 x1.2.2.2.2.2.2.2.2.2.1), .val (.sl (.cons (.int .i64) .nil) x1.2.2.2.2.2.2.2.2.2.2.1), .val (.int .i64 x1.2.2.2.2.2.2.2.2.2.2.2.1), .val (.int .i64 x1.2.2.2.2.2.2.2.2.2.2.2.2.1), .val (.sl (.cons (.int .i64) .nil) x1.2.2.2.2.2.2.2.2.2.2.2.2.2.1), .val (.int .i64 x1.2.2.2.2.2.2.2.2.2.2.2.2.2.2.1), .val (.bool x1.2.2.2.2.2.2.2.2.2.2.2.2.2.2.2)])], []⟩
theorem zq37.v0 (x0 : THead) (x1 : THead) : V.evBody zq37.E zq37.con Tryz.f310 (V.fl4 x0 x1) = V.evC zq37.E Tryz.f310.ntmps (V.codeOf Tryz.f310) (zq37.kt x0 x1) (zq37.s x0 x1) := by kernel_rfl
theorem zq37.v (x0 : THead) (x1 : THead) : V.evC zq37.E Tryz.f310.ntmps (V.codeOf Tryz.f310) (zq37.kt x0 x1) (zq37.s x0 x1) = zq37 x0 x1 := by kernel_rfl
theorem zq37.eq (x0 : THead) (x1 : THead) : V.evBody zq37.E zq37.con Tryz.f310 (V.fl4 x0 x1) = zq37 x0 x1 := (zq37.v0 x0 x1).trans (zq37.v x0 x1)
theorem zq37.ok : V.Valid Tryz.prog 310 zq37.con :=
  V.fo V.tab_nil Tryz.func310 (by kernel_rfl) (fun x y h => (show V.evBody zq37.E zq37.con Tryz.f310 x = _ from zq37.eq (V.p4_0 x) (V.p4_1 x)).trans (V.cfl (by kernel_rfl) h))
noncomputable abbrev zq58.con : V.Con := ⟨V.A5, (.cons (.int .i64) .nil), fun (x : V.D5) => zq58 (V.p5_0 x) (V.p5_1 x), [], [(true, 16), (true, 17)], [(false, 1)], [false], []⟩
noncomputable abbrev zq58.E : V.Env := V.mkE V.tys [(208, zq7.con), (259, zq34.con), (302, zq40.con), (310, zq37.con)] [(11, [2, 3, 5, 11], []), (15, [2, 3, 25], [])] [] [] [] []
noncomputable abbrev zq58.kt (x0 : THead) (x1 : TSigned) : V.Kt Int := V.ktOf zq58.E zq58.con Tryz.f290 (V.fl5 x0 x1)
noncomputable abbrev zq58.s15 (x0 : THead) (x1 : TSigned) (v15_0 : Bool) : V.St := ⟨[(2, .v false [.ptr 64000 0]), (3, .v false [.ptr 64064 0]), (25, .v false [.val (.bool v15_0)])], [(64000, .box [.val (.int .i64 x0.1), .val (.int .i64 x0.2.1), .val (.int .i64 x0.2.2.1), .val (.int .i64 x0.2.2.2.1), .val (.int .i64 x0.2.2.2.2.1), .val (.int .i64 x0.2.2.2.2.2.1), .val (.int .i64 x0.2.2.2.2.2.2.1), .val (.int .i64 x0.2.2.2.2.2.2.2.1), .val (.sl (.cons (.int .i64) .nil) x0.2.2.2.2.2.2.2.2.1), .val (.int .i64 x0.2.2.2.2.2.2.2.2.2.1), .val (.sl (.cons (.int .i64) .nil) x0.2.2.2.2.2.2.2.2.2.2.1), .val (.int .i64 x0.2.2.2.2.2.2.2.2.2.2.2.1), .val (.int .i64 x0.2.2.2.2.2.2.2.2.2.2.2.2.1), .val (.sl (.cons (.int .i64) .nil) x0.2.2.2.2.2.2.2.2.2.2.2.2.2.1), .val (.int .i64 x0.2.2.2.2.2.2.2.2.2.2.2.2.2.2.1), .val (.bool x0.2.2.2.2.2.2.2.2.2.2.2.2.2.2.2)]), (64064, .box [.val (.int .i64 x1.1), .val (.int .i64 x1.2.1), .val (.int .i64 x1.2.2.1), .val (.int .i64 x1.2.2.2.1), .val (.int .i64 x1.2.2.2.2.1), .val (.int .i64 x1.2.2.2.2.2.1), .val (.int .i64 x1.2.2.2.2.2.2.1), .val (.int .i64 x1.2.2.2.2.2.2.2.1), .val (.sl (.cons (.int .i64) .nil) x1.2.2.2.2.2.2.2.2.1), .val (.int .i64 x1.2.2.2.2.2.2.2.2.2.1), .val (.sl (.cons (.int .i64) .nil) x1.2.2.2.2.2.2.2.2.2.2.1), .val (.int .i64 x1.2.2.2.2.2.2.2.2.2.2.2.1), .val (.int .i64 x1.2.2.2.2.2.2.2.2.2.2.2.2.1), .val (.sl (.cons (.int .i64) .nil) x1.2.2.2.2.2.2.2.2.2.2.2.2.2.1), .val (.int .i64 x1.2.2.2.2.2.2.2.2.2.2.2.2.2.2.1), .val (.bool x1.2.2.2.2.2.2.2.2.2.2.2.2.2.2.2.1), .val (.sl (.cons (.int .i64) (.cons (.int .i64) .nil)) x1.2.2.2.2.2.2.2.2.2.2.2.2.2.2.2.2)])]⟩
noncomputable abbrev zq58.s11 (x0 : THead) (x1 : TSigned) (v11_0 : Bool) : V.St := ⟨[(2, .v false [.ptr 64000 0]), (3, .v false [.ptr 64064 0]), (5, .v false [.ptr 128128 0]), (11, .v false [.val (.bool v11_0)])], [(64000, .box [.val (.int .i64 x0.1), .val (.int .i64 x0.2.1), .val (.int .i64 x0.2.2.1), .val (.int .i64 x0.2.2.2.1), .val (.int .i64 x0.2.2.2.2.1), .val (.int .i64 x0.2.2.2.2.2.1), .val (.int .i64 x0.2.2.2.2.2.2.1), .val (.int .i64 x0.2.2.2.2.2.2.2.1), .val (.sl (.cons (.int .i64) .nil) x0.2.2.2.2.2.2.2.2.1), .val (.int .i64 x0.2.2.2.2.2.2.2.2.2.1), .val (.sl (.cons (.int .i64) .nil) x0.2.2.2.2.2.2.2.2.2.2.1), .val (.int .i64 x0.2.2.2.2.2.2.2.2.2.2.2.1), .val (.int .i64 x0.2.2.2.2.2.2.2.2.2.2.2.2.1), .val (.sl (.cons (.int .i64) .nil) x0.2.2.2.2.2.2.2.2.2.2.2.2.2.1), .val (.int .i64 x0.2.2.2.2.2.2.2.2.2.2.2.2.2.2.1), .val (.bool x0.2.2.2.2.2.2.2.2.2.2.2.2.2.2.2)]), (64064, .box [.val (.int .i64 x1.1), .val (.int .i64 x1.2.1), .val (.int .i64 x1.2.2.1), .val (.int .i64 x1.2.2.2.1), .val (.int .i64 x1.2.2.2.2.1), .val (.int .i64 x1.2.2.2.2.2.1), .val (.int .i64 x1.2.2.2.2.2.2.1), .val (.int .i64 x1.2.2.2.2.2.2.2.1), .val (.sl (.cons (.int .i64) .nil) x1.2.2.2.2.2.2.2.2.1), .val (.int .i64 x1.2.2.2.2.2.2.2.2.2.1), .val (.sl (.cons (.int .i64) .nil) x1.2.2.2.2.2.2.2.2.2.2.1), .val (.int .i64 x1.2.2.2.2.2.2.2.2.2.2.2.1), .val (.int .i64 x1.2.2.2.2.2.2.2.2.2.2.2.2.1), .val (.sl (.cons (.int .i64) .nil) x1.2.2.2.2.2.2.2.2.2.2.2.2.2.1), .val (.int .i64 x1.2.2.2.2.2.2.2.2.2.2.2.2.2.2.1), .val (.bool x1.2.2.2.2.2.2.2.2.2.2.2.2.2.2.2.1), .val (.sl (.cons (.int .i64) (.cons (.int .i64) .nil)) x1.2.2.2.2.2.2.2.2.2.2.2.2.2.2.2.2)]), (128128, .box [.val (.int .i64 x1.1), .val (.int .i64 x1.2.1), .val (.int .i64 x1.2.2.1), .val (.int .i64 x1.2.2.2.1), .val (.int .i64 x1.2.2.2.2.1), .val (.int .i64 x1.2.2.2.2.2.1), .val (.int .i64 x1.2.2.2.2.2.2.1), .val (.int .i64 x1.2.2.2.2.2.2.2.1), .val (.sl (.cons (.int .i64) .nil) x1.2.2.2.2.2.2.2.2.1), .val (.int .i64 x1.2.2.2.2.2.2.2.2.2.1), .val (.sl (.cons (.int .i64) .nil) x1.2.2.2.2.2.2.2.2.2.2.1), .val (.int .i64 x1.2.2.2.2.2.2.2.2.2.2.2.1), .val (.int .i64 x1.2.2.2.2.2.2.2.2.2.2.2.2.1), .val (.sl (.cons (.int .i64) .nil) x1.2.2.2.2.2.2.2.2.2.2.2.2.2.1), .val (.int .i64 x1.2.2.2.2.2.2.2.2.2.2.2.2.2.2.1), .val (.bool x1.2.2.2.2.2.2.2.2.2.2.2.2.2.2.2.1)])]⟩
theorem zq58.r15 (x0 : THead) (x1 : TSigned) (v15_0 : Bool) : V.joinF zq58.E Tryz.f290.ntmps [1, 1, 0, 0, 1, 1, 1, 1] [] (V.codeOf Tryz.f290) (zq58.kt x0 x1) (zq58.s15 x0 x1 v15_0) = zq58.g15 x0 x1 v15_0 := by kernel_rfl
theorem zq58.e15 (x0 : THead) (x1 : TSigned) (v15_0 : Bool) : V.jn (V.joinF zq58.E Tryz.f290.ntmps [1, 1, 0, 0, 1, 1, 1, 1] [] (V.codeOf Tryz.f290) (zq58.kt x0 x1)) (zq58.s15 x0 x1 v15_0) = zq58.l15 x0 x1 v15_0 := by
  rw [V.jn_eq, zq58.r15]
  rfl
theorem zq58.r11 (x0 : THead) (x1 : TSigned) (v11_0 : Bool) : V.joinF zq58.E Tryz.f290.ntmps [1, 1, 0, 0, 1, 1] [] (V.codeOf Tryz.f290) (zq58.kt x0 x1) (zq58.s11 x0 x1 v11_0) = zq58.g11 x0 x1 (fun v15_0 => V.jn (V.joinF zq58.E Tryz.f290.ntmps [1, 1, 0, 0, 1, 1, 1, 1] [] (V.codeOf Tryz.f290) (zq58.kt x0 x1)) (zq58.s15 x0 x1 v15_0)) v11_0 := by kernel_rfl
theorem zq58.e11 (x0 : THead) (x1 : TSigned) (v11_0 : Bool) : V.jn (V.joinF zq58.E Tryz.f290.ntmps [1, 1, 0, 0, 1, 1] [] (V.codeOf Tryz.f290) (zq58.kt x0 x1)) (zq58.s11 x0 x1 v11_0) = zq58.l11 x0 x1 v11_0 := by
  rw [V.jn_eq, zq58.r11]
  simp only [zq58.e15]
  rfl
noncomputable abbrev zq58.s (x0 : THead) (x1 : TSigned) : V.St := ⟨[(0, .v true [.val (.int .i64 x0.1), .val (.int .i64 x0.2.1), .val (.int .i64 x0.2.2.1), .val (.int .i64 x0.2.2.2.1), .val (.int .i64 x0.2.2.2.2.1), .val (.int .i64 x0.2.2.2.2.2.1), .val (.int .i64 x0.2.2.2.2.2.2.1), .val (.int .i64 x0.2.2.2.2.2.2.2.1), .val (.sl (.cons (.int .i64) .nil) x0.2.2.2.2.2.2.2.2.1), .val (.int .i64 x0.2.2.2.2.2.2.2.2.2.1), .val (.sl (.cons (.int .i64) .nil) x0.2.2.2.2.2.2.2.2.2.2.1), .val (.int .i64 x0.2.2.2.2.2.2.2.2.2.2.2.1), .val (.int .i64 x0.2.2.2.2.2.2.2.2.2.2.2.2.1), .val (.sl (.cons (.int .i64) .nil) x0.2.2.2.2.2.2.2.2.2.2.2.2.2.1), .val (.int .i64 x0.2.2.2.2.2.2.2.2.2.2.2.2.2.2.1), .val (.bool x0.2.2.2.2.2.2.2.2.2.2.2.2.2.2.2)]), (1, .v true [.val (.int .i64 x1.1), .val (.int .i64 x1.2.1), .val (.int .i64 x1.2.2.1), .val (.int .i64 x1.2.2.2.1), .val (.int .i64 x1.2.2.2.2.1), .val (.int .i64 x1.2.2.2.2.2.1), .val (.int .i64 x1.2.2.2.2.2.2.1), .val (.int .i64 x1.2.2.2.2.2.2.2.1), .val (.sl (.cons (.int .i64) .nil) x1.2.2.2.2.2.2.2.2.1), .val (.int .i64 x1.2.2.2.2.2.2.2.2.2.1), .val (.sl (.cons (.int .i64) .nil) x1.2.2.2.2.2.2.2.2.2.2.1), .val (.int .i64 x1.2.2.2.2.2.2.2.2.2.2.2.1), .val (.int .i64 x1.2.2.2.2.2.2.2.2.2.2.2.2.1), .val (.sl (.cons (.int .i64) .nil) x1.2.2.2.2.2.2.2.2.2.2.2.2.2.1), .val (.int .i64 x1.2.2.2.2.2.2.2.2.2.2.2.2.2.2.1), .val (.bool x1.2.2.2.2.2.2.2.2.2.2.2.2.2.2.2.1), .val (.sl (.cons (.int .i64) (.cons (.int .i64) .nil)) x1.2.2.2.2.2.2.2.2.2.2.2.2.2.2.2.2)])], []⟩
theorem zq58.v0 (x0 : THead) (x1 : TSigned) : V.evBody zq58.E zq58.con Tryz.f290 (V.fl5 x0 x1) = V.evC zq58.E Tryz.f290.ntmps (V.codeOf Tryz.f290) (zq58.kt x0 x1) (zq58.s x0 x1) := by kernel_rfl
theorem zq58.v (x0 : THead) (x1 : TSigned) : V.evC zq58.E Tryz.f290.ntmps (V.codeOf Tryz.f290) (zq58.kt x0 x1) (zq58.s x0 x1) = zq58.b x0 x1 (fun v11_0 => V.jn (V.joinF zq58.E Tryz.f290.ntmps [1, 1, 0, 0, 1, 1] [] (V.codeOf Tryz.f290) (zq58.kt x0 x1)) (zq58.s11 x0 x1 v11_0)) := by kernel_rfl
theorem zq58.eq (x0 : THead) (x1 : TSigned) : V.evBody zq58.E zq58.con Tryz.f290 (V.fl5 x0 x1) = zq58 x0 x1 := by
  rw [zq58.v0, zq58.v]
  simp only [zq58.e11]
  rfl
theorem zq58.ok : V.Valid Tryz.prog 290 zq58.con :=
  V.fo (V.tab_cons zq7.ok (V.tab_cons zq34.ok (V.tab_cons zq40.ok (V.tab_cons zq37.ok V.tab_nil)))) Tryz.func290 (by kernel_rfl) (fun x y h => (show V.evBody zq58.E zq58.con Tryz.f290 x = _ from zq58.eq (V.p5_0 x) (V.p5_1 x)).trans (V.cfl (by kernel_rfl) h))
noncomputable abbrev zq65.con : V.Con := ⟨V.A5, (.cons (.int .i64) .nil), fun (x : V.D5) => zq65 (V.p5_0 x) (V.p5_1 x), [], [(true, 16), (true, 17)], [(false, 1)], [false], []⟩
noncomputable abbrev zq65.E : V.Env := V.mkE V.tys [(208, zq7.con), (259, zq34.con), (302, zq40.con), (310, zq37.con)] [(7, [2, 3, 5, 6], []), (13, [2, 3, 37], [])] [] [] [] []
noncomputable abbrev zq65.kt (x0 : THead) (x1 : TSigned) : V.Kt Int := V.ktOf zq65.E zq65.con Tryz.f291 (V.fl5 x0 x1)
noncomputable abbrev zq65.s13 (x0 : THead) (x1 : TSigned) (v13_0 : Bool) : V.St := ⟨[(2, .v false [.ptr 64000 0]), (3, .v false [.ptr 64064 0]), (37, .v false [.val (.bool v13_0)])], [(64000, .box [.val (.int .i64 x0.1), .val (.int .i64 x0.2.1), .val (.int .i64 x0.2.2.1), .val (.int .i64 x0.2.2.2.1), .val (.int .i64 x0.2.2.2.2.1), .val (.int .i64 x0.2.2.2.2.2.1), .val (.int .i64 x0.2.2.2.2.2.2.1), .val (.int .i64 x0.2.2.2.2.2.2.2.1), .val (.sl (.cons (.int .i64) .nil) x0.2.2.2.2.2.2.2.2.1), .val (.int .i64 x0.2.2.2.2.2.2.2.2.2.1), .val (.sl (.cons (.int .i64) .nil) x0.2.2.2.2.2.2.2.2.2.2.1), .val (.int .i64 x0.2.2.2.2.2.2.2.2.2.2.2.1), .val (.int .i64 x0.2.2.2.2.2.2.2.2.2.2.2.2.1), .val (.sl (.cons (.int .i64) .nil) x0.2.2.2.2.2.2.2.2.2.2.2.2.2.1), .val (.int .i64 x0.2.2.2.2.2.2.2.2.2.2.2.2.2.2.1), .val (.bool x0.2.2.2.2.2.2.2.2.2.2.2.2.2.2.2)]), (64064, .box [.val (.int .i64 x1.1), .val (.int .i64 x1.2.1), .val (.int .i64 x1.2.2.1), .val (.int .i64 x1.2.2.2.1), .val (.int .i64 x1.2.2.2.2.1), .val (.int .i64 x1.2.2.2.2.2.1), .val (.int .i64 x1.2.2.2.2.2.2.1), .val (.int .i64 x1.2.2.2.2.2.2.2.1), .val (.sl (.cons (.int .i64) .nil) x1.2.2.2.2.2.2.2.2.1), .val (.int .i64 x1.2.2.2.2.2.2.2.2.2.1), .val (.sl (.cons (.int .i64) .nil) x1.2.2.2.2.2.2.2.2.2.2.1), .val (.int .i64 x1.2.2.2.2.2.2.2.2.2.2.2.1), .val (.int .i64 x1.2.2.2.2.2.2.2.2.2.2.2.2.1), .val (.sl (.cons (.int .i64) .nil) x1.2.2.2.2.2.2.2.2.2.2.2.2.2.1), .val (.int .i64 x1.2.2.2.2.2.2.2.2.2.2.2.2.2.2.1), .val (.bool x1.2.2.2.2.2.2.2.2.2.2.2.2.2.2.2.1), .val (.sl (.cons (.int .i64) (.cons (.int .i64) .nil)) x1.2.2.2.2.2.2.2.2.2.2.2.2.2.2.2.2)])]⟩
noncomputable abbrev zq65.s7 (x0 : THead) (x1 : TSigned) (v7_0 : Bool) : V.St := ⟨[(2, .v false [.ptr 64000 0]), (3, .v false [.ptr 64064 0]), (5, .v false [.ptr 128128 0]), (6, .v false [.val (.bool v7_0)])], [(64000, .box [.val (.int .i64 x0.1), .val (.int .i64 x0.2.1), .val (.int .i64 x0.2.2.1), .val (.int .i64 x0.2.2.2.1), .val (.int .i64 x0.2.2.2.2.1), .val (.int .i64 x0.2.2.2.2.2.1), .val (.int .i64 x0.2.2.2.2.2.2.1), .val (.int .i64 x0.2.2.2.2.2.2.2.1), .val (.sl (.cons (.int .i64) .nil) x0.2.2.2.2.2.2.2.2.1), .val (.int .i64 x0.2.2.2.2.2.2.2.2.2.1), .val (.sl (.cons (.int .i64) .nil) x0.2.2.2.2.2.2.2.2.2.2.1), .val (.int .i64 x0.2.2.2.2.2.2.2.2.2.2.2.1), .val (.int .i64 x0.2.2.2.2.2.2.2.2.2.2.2.2.1), .val (.sl (.cons (.int .i64) .nil) x0.2.2.2.2.2.2.2.2.2.2.2.2.2.1), .val (.int .i64 x0.2.2.2.2.2.2.2.2.2.2.2.2.2.2.1), .val (.bool x0.2.2.2.2.2.2.2.2.2.2.2.2.2.2.2)]), (64064, .box [.val (.int .i64 x1.1), .val (.int .i64 x1.2.1), .val (.int .i64 x1.2.2.1), .val (.int .i64 x1.2.2.2.1), .val (.int .i64 x1.2.2.2.2.1), .val (.int .i64 x1.2.2.2.2.2.1), .val (.int .i64 x1.2.2.2.2.2.2.1), .val (.int .i64 x1.2.2.2.2.2.2.2.1), .val (.sl (.cons (.int .i64) .nil) x1.2.2.2.2.2.2.2.2.1), .val (.int .i64 x1.2.2.2.2.2.2.2.2.2.1), .val (.sl (.cons (.int .i64) .nil) x1.2.2.2.2.2.2.2.2.2.2.1), .val (.int .i64 x1.2.2.2.2.2.2.2.2.2.2.2.1), .val (.int .i64 x1.2.2.2.2.2.2.2.2.2.2.2.2.1), .val (.sl (.cons (.int .i64) .nil) x1.2.2.2.2.2.2.2.2.2.2.2.2.2.1), .val (.int .i64 x1.2.2.2.2.2.2.2.2.2.2.2.2.2.2.1), .val (.bool x1.2.2.2.2.2.2.2.2.2.2.2.2.2.2.2.1), .val (.sl (.cons (.int .i64) (.cons (.int .i64) .nil)) x1.2.2.2.2.2.2.2.2.2.2.2.2.2.2.2.2)]), (128128, .box [.val (.int .i64 x1.1), .val (.int .i64 x1.2.1), .val (.int .i64 x1.2.2.1), .val (.int .i64 x1.2.2.2.1), .val (.int .i64 x1.2.2.2.2.1), .val (.int .i64 x1.2.2.2.2.2.1), .val (.int .i64 x1.2.2.2.2.2.2.1), .val (.int .i64 x1.2.2.2.2.2.2.2.1), .val (.sl (.cons (.int .i64) .nil) x1.2.2.2.2.2.2.2.2.1), .val (.int .i64 x1.2.2.2.2.2.2.2.2.2.1), .val (.sl (.cons (.int .i64) .nil) x1.2.2.2.2.2.2.2.2.2.2.1), .val (.int .i64 x1.2.2.2.2.2.2.2.2.2.2.2.1), .val (.int .i64 x1.2.2.2.2.2.2.2.2.2.2.2.2.1), .val (.sl (.cons (.int .i64) .nil) x1.2.2.2.2.2.2.2.2.2.2.2.2.2.1), .val (.int .i64 x1.2.2.2.2.2.2.2.2.2.2.2.2.2.2.1), .val (.bool x1.2.2.2.2.2.2.2.2.2.2.2.2.2.2.2.1)])]⟩
theorem zq65.r13 (x0 : THead) (x1 : TSigned) (v13_0 : Bool) : V.joinF zq65.E Tryz.f291.ntmps [1, 1, 1, 0, 0, 1, 1] [] (V.codeOf Tryz.f291) (zq65.kt x0 x1) (zq65.s13 x0 x1 v13_0) = zq65.g13 x0 x1 v13_0 := by kernel_rfl
theorem zq65.e13 (x0 : THead) (x1 : TSigned) (v13_0 : Bool) : V.jn (V.joinF zq65.E Tryz.f291.ntmps [1, 1, 1, 0, 0, 1, 1] [] (V.codeOf Tryz.f291) (zq65.kt x0 x1)) (zq65.s13 x0 x1 v13_0) = zq65.l13 x0 x1 v13_0 := by
  rw [V.jn_eq, zq65.r13]
  rfl
theorem zq65.r7 (x0 : THead) (x1 : TSigned) (v7_0 : Bool) : V.joinF zq65.E Tryz.f291.ntmps [1, 1] [] (V.codeOf Tryz.f291) (zq65.kt x0 x1) (zq65.s7 x0 x1 v7_0) = zq65.g7 x0 x1 (fun v13_0 => V.jn (V.joinF zq65.E Tryz.f291.ntmps [1, 1, 1, 0, 0, 1, 1] [] (V.codeOf Tryz.f291) (zq65.kt x0 x1)) (zq65.s13 x0 x1 v13_0)) v7_0 := by kernel_rfl
theorem zq65.e7 (x0 : THead) (x1 : TSigned) (v7_0 : Bool) : V.jn (V.joinF zq65.E Tryz.f291.ntmps [1, 1] [] (V.codeOf Tryz.f291) (zq65.kt x0 x1)) (zq65.s7 x0 x1 v7_0) = zq65.l7 x0 x1 v7_0 := by
  rw [V.jn_eq, zq65.r7]
  simp only [zq65.e13]
  rfl
noncomputable abbrev zq65.s (x0 : THead) (x1 : TSigned) : V.St := ⟨[(0, .v true [.val (.int .i64 x0.1), .val (.int .i64 x0.2.1), .val (.int .i64 x0.2.2.1), .val (.int .i64 x0.2.2.2.1), .val (.int .i64 x0.2.2.2.2.1), .val (.int .i64 x0.2.2.2.2.2.1), .val (.int .i64 x0.2.2.2.2.2.2.1), .val (.int .i64 x0.2.2.2.2.2.2.2.1), .val (.sl (.cons (.int .i64) .nil) x0.2.2.2.2.2.2.2.2.1), .val (.int .i64 x0.2.2.2.2.2.2.2.2.2.1), .val (.sl (.cons (.int .i64) .nil) x0.2.2.2.2.2.2.2.2.2.2.1), .val (.int .i64 x0.2.2.2.2.2.2.2.2.2.2.2.1), .val (.int .i64 x0.2.2.2.2.2.2.2.2.2.2.2.2.1), .val (.sl (.cons (.int .i64) .nil) x0.2.2.2.2.2.2.2.2.2.2.2.2.2.1), .val (.int .i64 x0.2.2.2.2.2.2.2.2.2.2.2.2.2.2.1), .val (.bool x0.2.2.2.2.2.2.2.2.2.2.2.2.2.2.2)]), (1, .v true [.val (.int .i64 x1.1), .val (.int .i64 x1.2.1), .val (.int .i64 x1.2.2.1), .val (.int .i64 x1.2.2.2.1), .val (.int .i64 x1.2.2.2.2.1), .val (.int .i64 x1.2.2.2.2.2.1), .val (.int .i64 x1.2.2.2.2.2.2.1), .val (.int .i64 x1.2.2.2.2.2.2.2.1), .val (.sl (.cons (.int .i64) .nil) x1.2.2.2.2.2.2.2.2.1), .val (.int .i64 x1.2.2.2.2.2.2.2.2.2.1), .val (.sl (.cons (.int .i64) .nil) x1.2.2.2.2.2.2.2.2.2.2.1), .val (.int .i64 x1.2.2.2.2.2.2.2.2.2.2.2.1), .val (.int .i64 x1.2.2.2.2.2.2.2.2.2.2.2.2.1), .val (.sl (.cons (.int .i64) .nil) x1.2.2.2.2.2.2.2.2.2.2.2.2.2.1), .val (.int .i64 x1.2.2.2.2.2.2.2.2.2.2.2.2.2.2.1), .val (.bool x1.2.2.2.2.2.2.2.2.2.2.2.2.2.2.2.1), .val (.sl (.cons (.int .i64) (.cons (.int .i64) .nil)) x1.2.2.2.2.2.2.2.2.2.2.2.2.2.2.2.2)])], []⟩
theorem zq65.v0 (x0 : THead) (x1 : TSigned) : V.evBody zq65.E zq65.con Tryz.f291 (V.fl5 x0 x1) = V.evC zq65.E Tryz.f291.ntmps (V.codeOf Tryz.f291) (zq65.kt x0 x1) (zq65.s x0 x1) := by kernel_rfl
theorem zq65.v (x0 : THead) (x1 : TSigned) : V.evC zq65.E Tryz.f291.ntmps (V.codeOf Tryz.f291) (zq65.kt x0 x1) (zq65.s x0 x1) = zq65.b x0 x1 (fun v7_0 => V.jn (V.joinF zq65.E Tryz.f291.ntmps [1, 1] [] (V.codeOf Tryz.f291) (zq65.kt x0 x1)) (zq65.s7 x0 x1 v7_0)) := by kernel_rfl
theorem zq65.eq (x0 : THead) (x1 : TSigned) : V.evBody zq65.E zq65.con Tryz.f291 (V.fl5 x0 x1) = zq65 x0 x1 := by
  rw [zq65.v0, zq65.v]
  simp only [zq65.e7]
  rfl
theorem zq65.ok : V.Valid Tryz.prog 291 zq65.con :=
  V.fo (V.tab_cons zq7.ok (V.tab_cons zq34.ok (V.tab_cons zq40.ok (V.tab_cons zq37.ok V.tab_nil)))) Tryz.func291 (by kernel_rfl) (fun x y h => (show V.evBody zq65.E zq65.con Tryz.f291 x = _ from zq65.eq (V.p5_0 x) (V.p5_1 x)).trans (V.cfl (by kernel_rfl) h))
end Go.Proofs.YtpioofmdambjoaaGreat
