/- That the functions compute it. -/
import Derived.Test.YtpioofmdambjoaaGreatXConfirmPure0
import Derived.Test.YtpioofmdambjoaaGreatProg
namespace Go.Proofs.YtpioofmdambjoaaGreat
set_option linter.unusedVariables false
set_option maxRecDepth 100000
namespace V
abbrev eHead : ETy := (.cons (.int .i64) (.cons (.int .i64) (.cons (.int .i64) (.cons (.int .i64) (.cons (.int .i64) (.cons (.int .i64) (.cons (.int .i64) (.cons (.int .i64) (.cons (.sl (.cons (.int .i64) .nil)) (.cons (.int .i64) (.cons (.sl (.cons (.int .i64) .nil)) (.cons (.int .i64) (.cons (.int .i64) (.cons (.sl (.cons (.int .i64) .nil)) (.cons (.int .i64) (.cons .bool .nil))))))))))))))))
abbrev eRWitnessSigBool : ETy := (.cons (.int .i64) (.cons (.sl (.cons (.int .i64) (.cons (.int .i64) (.cons (.int .i64) .nil)))) (.cons (.int .i64) (.cons (.int .i64) (.cons .bool .nil)))))
abbrev eSigned : ETy := (.cons (.int .i64) (.cons (.int .i64) (.cons (.int .i64) (.cons (.int .i64) (.cons (.int .i64) (.cons (.int .i64) (.cons (.int .i64) (.cons (.int .i64) (.cons (.sl (.cons (.int .i64) .nil)) (.cons (.int .i64) (.cons (.sl (.cons (.int .i64) .nil)) (.cons (.int .i64) (.cons (.int .i64) (.cons (.sl (.cons (.int .i64) .nil)) (.cons (.int .i64) (.cons .bool (.cons (.sl (.cons (.int .i64) (.cons (.int .i64) .nil))) .nil)))))))))))))))))
abbrev D0 : Type := Int × Int × Int × Int × Int × Int × Int × Int × List Int × Int × List Int × Int × Int × List Int × Int × Bool × Int
abbrev A0 : ETy := (.cons (.int .i64) (.cons (.int .i64) (.cons (.int .i64) (.cons (.int .i64) (.cons (.int .i64) (.cons (.int .i64) (.cons (.int .i64) (.cons (.int .i64) (.cons (.sl (.cons (.int .i64) .nil)) (.cons (.int .i64) (.cons (.sl (.cons (.int .i64) .nil)) (.cons (.int .i64) (.cons (.int .i64) (.cons (.sl (.cons (.int .i64) .nil)) (.cons (.int .i64) (.cons .bool (.cons (.int .i64) .nil)))))))))))))))))
abbrev fl0 (x0 : THead) (x1 : Int) : D0 := (x0.1, x0.2.1, x0.2.2.1, x0.2.2.2.1, x0.2.2.2.2.1, x0.2.2.2.2.2.1, x0.2.2.2.2.2.2.1, x0.2.2.2.2.2.2.2.1, x0.2.2.2.2.2.2.2.2.1, x0.2.2.2.2.2.2.2.2.2.1, x0.2.2.2.2.2.2.2.2.2.2.1, x0.2.2.2.2.2.2.2.2.2.2.2.1, x0.2.2.2.2.2.2.2.2.2.2.2.2.1, x0.2.2.2.2.2.2.2.2.2.2.2.2.2.1, x0.2.2.2.2.2.2.2.2.2.2.2.2.2.2.1, x0.2.2.2.2.2.2.2.2.2.2.2.2.2.2.2, x1)
abbrev p0_0 (x : D0) : THead := (x.1, x.2.1, x.2.2.1, x.2.2.2.1, x.2.2.2.2.1, x.2.2.2.2.2.1, x.2.2.2.2.2.2.1, x.2.2.2.2.2.2.2.1, x.2.2.2.2.2.2.2.2.1, x.2.2.2.2.2.2.2.2.2.1, x.2.2.2.2.2.2.2.2.2.2.1, x.2.2.2.2.2.2.2.2.2.2.2.1, x.2.2.2.2.2.2.2.2.2.2.2.2.1, x.2.2.2.2.2.2.2.2.2.2.2.2.2.1, x.2.2.2.2.2.2.2.2.2.2.2.2.2.2.1, x.2.2.2.2.2.2.2.2.2.2.2.2.2.2.2.1)
abbrev p0_1 (x : D0) : Int := x.2.2.2.2.2.2.2.2.2.2.2.2.2.2.2.2
abbrev D1 : Type := Int × Int × Int × Int × Int × Int × Int × Int × List Int × Int × List Int × Int × Int × List Int × Int × Bool × List TSig × Int
abbrev A1 : ETy := (.cons (.int .i64) (.cons (.int .i64) (.cons (.int .i64) (.cons (.int .i64) (.cons (.int .i64) (.cons (.int .i64) (.cons (.int .i64) (.cons (.int .i64) (.cons (.sl (.cons (.int .i64) .nil)) (.cons (.int .i64) (.cons (.sl (.cons (.int .i64) .nil)) (.cons (.int .i64) (.cons (.int .i64) (.cons (.sl (.cons (.int .i64) .nil)) (.cons (.int .i64) (.cons .bool (.cons (.sl (.cons (.int .i64) (.cons (.int .i64) .nil))) (.cons (.int .i64) .nil))))))))))))))))))
abbrev fl1 (x0 : TSigned) (x1 : Int) : D1 := (x0.1, x0.2.1, x0.2.2.1, x0.2.2.2.1, x0.2.2.2.2.1, x0.2.2.2.2.2.1, x0.2.2.2.2.2.2.1, x0.2.2.2.2.2.2.2.1, x0.2.2.2.2.2.2.2.2.1, x0.2.2.2.2.2.2.2.2.2.1, x0.2.2.2.2.2.2.2.2.2.2.1, x0.2.2.2.2.2.2.2.2.2.2.2.1, x0.2.2.2.2.2.2.2.2.2.2.2.2.1, x0.2.2.2.2.2.2.2.2.2.2.2.2.2.1, x0.2.2.2.2.2.2.2.2.2.2.2.2.2.2.1, x0.2.2.2.2.2.2.2.2.2.2.2.2.2.2.2.1, x0.2.2.2.2.2.2.2.2.2.2.2.2.2.2.2.2, x1)
abbrev p1_0 (x : D1) : TSigned := (x.1, x.2.1, x.2.2.1, x.2.2.2.1, x.2.2.2.2.1, x.2.2.2.2.2.1, x.2.2.2.2.2.2.1, x.2.2.2.2.2.2.2.1, x.2.2.2.2.2.2.2.2.1, x.2.2.2.2.2.2.2.2.2.1, x.2.2.2.2.2.2.2.2.2.2.1, x.2.2.2.2.2.2.2.2.2.2.2.1, x.2.2.2.2.2.2.2.2.2.2.2.2.1, x.2.2.2.2.2.2.2.2.2.2.2.2.2.1, x.2.2.2.2.2.2.2.2.2.2.2.2.2.2.1, x.2.2.2.2.2.2.2.2.2.2.2.2.2.2.2.1, x.2.2.2.2.2.2.2.2.2.2.2.2.2.2.2.2.1)
abbrev p1_1 (x : D1) : Int := x.2.2.2.2.2.2.2.2.2.2.2.2.2.2.2.2.2
abbrev D2 : Type := Int × Int × Int × Int × Int × Int × Int × Int × List Int × Int × List Int × Int × Int × List Int × Int × Bool
abbrev A2 : ETy := eHead
abbrev fl2 (x0 : THead) : D2 := (x0.1, x0.2.1, x0.2.2.1, x0.2.2.2.1, x0.2.2.2.2.1, x0.2.2.2.2.2.1, x0.2.2.2.2.2.2.1, x0.2.2.2.2.2.2.2.1, x0.2.2.2.2.2.2.2.2.1, x0.2.2.2.2.2.2.2.2.2.1, x0.2.2.2.2.2.2.2.2.2.2.1, x0.2.2.2.2.2.2.2.2.2.2.2.1, x0.2.2.2.2.2.2.2.2.2.2.2.2.1, x0.2.2.2.2.2.2.2.2.2.2.2.2.2.1, x0.2.2.2.2.2.2.2.2.2.2.2.2.2.2.1, x0.2.2.2.2.2.2.2.2.2.2.2.2.2.2.2)
abbrev p2_0 (x : D2) : THead := x
abbrev D3 : Type := Int × Int × Int × Int × Int × Int × Int × Int × List Int × Int × List Int × Int × Int × List Int × Int × Bool × List TSig
abbrev A3 : ETy := eSigned
abbrev fl3 (x0 : TSigned) : D3 := (x0.1, x0.2.1, x0.2.2.1, x0.2.2.2.1, x0.2.2.2.2.1, x0.2.2.2.2.2.1, x0.2.2.2.2.2.2.1, x0.2.2.2.2.2.2.2.1, x0.2.2.2.2.2.2.2.2.1, x0.2.2.2.2.2.2.2.2.2.1, x0.2.2.2.2.2.2.2.2.2.2.1, x0.2.2.2.2.2.2.2.2.2.2.2.1, x0.2.2.2.2.2.2.2.2.2.2.2.2.1, x0.2.2.2.2.2.2.2.2.2.2.2.2.2.1, x0.2.2.2.2.2.2.2.2.2.2.2.2.2.2.1, x0.2.2.2.2.2.2.2.2.2.2.2.2.2.2.2.1, x0.2.2.2.2.2.2.2.2.2.2.2.2.2.2.2.2)
abbrev p3_0 (x : D3) : TSigned := x
abbrev D4 : Type := Int × Int × Int × Int × Int × Int × Int × Int × List Int × Int × List Int × Int × Int × List Int × Int × Bool × Int × Int × Int × Int × Int × Int × Int × Int × List Int × Int × List Int × Int × Int × List Int × Int × Bool
abbrev A4 : ETy := (.cons (.int .i64) (.cons (.int .i64) (.cons (.int .i64) (.cons (.int .i64) (.cons (.int .i64) (.cons (.int .i64) (.cons (.int .i64) (.cons (.int .i64) (.cons (.sl (.cons (.int .i64) .nil)) (.cons (.int .i64) (.cons (.sl (.cons (.int .i64) .nil)) (.cons (.int .i64) (.cons (.int .i64) (.cons (.sl (.cons (.int .i64) .nil)) (.cons (.int .i64) (.cons .bool (.cons (.int .i64) (.cons (.int .i64) (.cons (.int .i64) (.cons (.int .i64) (.cons (.int .i64) (.cons (.int .i64) (.cons (.int .i64) (.cons (.int .i64) (.cons (.sl (.cons (.int .i64) .nil)) (.cons (.int .i64) (.cons (.sl (.cons (.int .i64) .nil)) (.cons (.int .i64) (.cons (.int .i64) (.cons (.sl (.cons (.int .i64) .nil)) (.cons (.int .i64) (.cons .bool .nil))))))))))))))))))))))))))))))))
abbrev fl4 (x0 : THead) (x1 : THead) : D4 := (x0.1, x0.2.1, x0.2.2.1, x0.2.2.2.1, x0.2.2.2.2.1, x0.2.2.2.2.2.1, x0.2.2.2.2.2.2.1, x0.2.2.2.2.2.2.2.1, x0.2.2.2.2.2.2.2.2.1, x0.2.2.2.2.2.2.2.2.2.1, x0.2.2.2.2.2.2.2.2.2.2.1, x0.2.2.2.2.2.2.2.2.2.2.2.1, x0.2.2.2.2.2.2.2.2.2.2.2.2.1, x0.2.2.2.2.2.2.2.2.2.2.2.2.2.1, x0.2.2.2.2.2.2.2.2.2.2.2.2.2.2.1, x0.2.2.2.2.2.2.2.2.2.2.2.2.2.2.2, x1.1, x1.2.1, x1.2.2.1, x1.2.2.2.1, x1.2.2.2.2.1, x1.2.2.2.2.2.1, x1.2.2.2.2.2.2.1, x1.2.2.2.2.2.2.2.1, x1.2.2.2.2.2.2.2.2.1, x1.2.2.2.2.2.2.2.2.2.1, x1.2.2.2.2.2.2.2.2.2.2.1, x1.2.2.2.2.2.2.2.2.2.2.2.1, x1.2.2.2.2.2.2.2.2.2.2.2.2.1, x1.2.2.2.2.2.2.2.2.2.2.2.2.2.1, x1.2.2.2.2.2.2.2.2.2.2.2.2.2.2.1, x1.2.2.2.2.2.2.2.2.2.2.2.2.2.2.2)
abbrev p4_0 (x : D4) : THead := (x.1, x.2.1, x.2.2.1, x.2.2.2.1, x.2.2.2.2.1, x.2.2.2.2.2.1, x.2.2.2.2.2.2.1, x.2.2.2.2.2.2.2.1, x.2.2.2.2.2.2.2.2.1, x.2.2.2.2.2.2.2.2.2.1, x.2.2.2.2.2.2.2.2.2.2.1, x.2.2.2.2.2.2.2.2.2.2.2.1, x.2.2.2.2.2.2.2.2.2.2.2.2.1, x.2.2.2.2.2.2.2.2.2.2.2.2.2.1, x.2.2.2.2.2.2.2.2.2.2.2.2.2.2.1, x.2.2.2.2.2.2.2.2.2.2.2.2.2.2.2.1)
abbrev p4_1 (x : D4) : THead := x.2.2.2.2.2.2.2.2.2.2.2.2.2.2.2.2
abbrev D5 : Type := Int × Int × Int × Int × Int × Int × Int × Int × List Int × Int × List Int × Int × Int × List Int × Int × Bool × Int × Int × Int × Int × Int × Int × Int × Int × List Int × Int × List Int × Int × Int × List Int × Int × Bool × List TSig
abbrev A5 : ETy := (.cons (.int .i64) (.cons (.int .i64) (.cons (.int .i64) (.cons (.int .i64) (.cons (.int .i64) (.cons (.int .i64) (.cons (.int .i64) (.cons (.int .i64) (.cons (.sl (.cons (.int .i64) .nil)) (.cons (.int .i64) (.cons (.sl (.cons (.int .i64) .nil)) (.cons (.int .i64) (.cons (.int .i64) (.cons (.sl (.cons (.int .i64) .nil)) (.cons (.int .i64) (.cons .bool (.cons (.int .i64) (.cons (.int .i64) (.cons (.int .i64) (.cons (.int .i64) (.cons (.int .i64) (.cons (.int .i64) (.cons (.int .i64) (.cons (.int .i64) (.cons (.sl (.cons (.int .i64) .nil)) (.cons (.int .i64) (.cons (.sl (.cons (.int .i64) .nil)) (.cons (.int .i64) (.cons (.int .i64) (.cons (.sl (.cons (.int .i64) .nil)) (.cons (.int .i64) (.cons .bool (.cons (.sl (.cons (.int .i64) (.cons (.int .i64) .nil))) .nil)))))))))))))))))))))))))))))))))
abbrev fl5 (x0 : THead) (x1 : TSigned) : D5 := (x0.1, x0.2.1, x0.2.2.1, x0.2.2.2.1, x0.2.2.2.2.1, x0.2.2.2.2.2.1, x0.2.2.2.2.2.2.1, x0.2.2.2.2.2.2.2.1, x0.2.2.2.2.2.2.2.2.1, x0.2.2.2.2.2.2.2.2.2.1, x0.2.2.2.2.2.2.2.2.2.2.1, x0.2.2.2.2.2.2.2.2.2.2.2.1, x0.2.2.2.2.2.2.2.2.2.2.2.2.1, x0.2.2.2.2.2.2.2.2.2.2.2.2.2.1, x0.2.2.2.2.2.2.2.2.2.2.2.2.2.2.1, x0.2.2.2.2.2.2.2.2.2.2.2.2.2.2.2, x1.1, x1.2.1, x1.2.2.1, x1.2.2.2.1, x1.2.2.2.2.1, x1.2.2.2.2.2.1, x1.2.2.2.2.2.2.1, x1.2.2.2.2.2.2.2.1, x1.2.2.2.2.2.2.2.2.1, x1.2.2.2.2.2.2.2.2.2.1, x1.2.2.2.2.2.2.2.2.2.2.1, x1.2.2.2.2.2.2.2.2.2.2.2.1, x1.2.2.2.2.2.2.2.2.2.2.2.2.1, x1.2.2.2.2.2.2.2.2.2.2.2.2.2.1, x1.2.2.2.2.2.2.2.2.2.2.2.2.2.2.1, x1.2.2.2.2.2.2.2.2.2.2.2.2.2.2.2.1, x1.2.2.2.2.2.2.2.2.2.2.2.2.2.2.2.2)
abbrev p5_0 (x : D5) : THead := (x.1, x.2.1, x.2.2.1, x.2.2.2.1, x.2.2.2.2.1, x.2.2.2.2.2.1, x.2.2.2.2.2.2.1, x.2.2.2.2.2.2.2.1, x.2.2.2.2.2.2.2.2.1, x.2.2.2.2.2.2.2.2.2.1, x.2.2.2.2.2.2.2.2.2.2.1, x.2.2.2.2.2.2.2.2.2.2.2.1, x.2.2.2.2.2.2.2.2.2.2.2.2.1, x.2.2.2.2.2.2.2.2.2.2.2.2.2.1, x.2.2.2.2.2.2.2.2.2.2.2.2.2.2.1, x.2.2.2.2.2.2.2.2.2.2.2.2.2.2.2.1)
abbrev p5_1 (x : D5) : TSigned := x.2.2.2.2.2.2.2.2.2.2.2.2.2.2.2.2
abbrev D6 : Type := Int × Int × Int × Int × Int × Int × Int × Int × List Int × Int × List Int × Int × Int × List Int × Int × Bool × List TSig × List Int × Int
abbrev A6 : ETy := (.cons (.int .i64) (.cons (.int .i64) (.cons (.int .i64) (.cons (.int .i64) (.cons (.int .i64) (.cons (.int .i64) (.cons (.int .i64) (.cons (.int .i64) (.cons (.sl (.cons (.int .i64) .nil)) (.cons (.int .i64) (.cons (.sl (.cons (.int .i64) .nil)) (.cons (.int .i64) (.cons (.int .i64) (.cons (.sl (.cons (.int .i64) .nil)) (.cons (.int .i64) (.cons .bool (.cons (.sl (.cons (.int .i64) (.cons (.int .i64) .nil))) (.cons (.sl (.cons (.int .i64) .nil)) (.cons (.int .i64) .nil)))))))))))))))))))
abbrev fl6 (x0 : TSigned) (x1 : TKeys) : D6 := (x0.1, x0.2.1, x0.2.2.1, x0.2.2.2.1, x0.2.2.2.2.1, x0.2.2.2.2.2.1, x0.2.2.2.2.2.2.1, x0.2.2.2.2.2.2.2.1, x0.2.2.2.2.2.2.2.2.1, x0.2.2.2.2.2.2.2.2.2.1, x0.2.2.2.2.2.2.2.2.2.2.1, x0.2.2.2.2.2.2.2.2.2.2.2.1, x0.2.2.2.2.2.2.2.2.2.2.2.2.1, x0.2.2.2.2.2.2.2.2.2.2.2.2.2.1, x0.2.2.2.2.2.2.2.2.2.2.2.2.2.2.1, x0.2.2.2.2.2.2.2.2.2.2.2.2.2.2.2.1, x0.2.2.2.2.2.2.2.2.2.2.2.2.2.2.2.2, x1.1, x1.2)
abbrev p6_0 (x : D6) : TSigned := (x.1, x.2.1, x.2.2.1, x.2.2.2.1, x.2.2.2.2.1, x.2.2.2.2.2.1, x.2.2.2.2.2.2.1, x.2.2.2.2.2.2.2.1, x.2.2.2.2.2.2.2.2.1, x.2.2.2.2.2.2.2.2.2.1, x.2.2.2.2.2.2.2.2.2.2.1, x.2.2.2.2.2.2.2.2.2.2.2.1, x.2.2.2.2.2.2.2.2.2.2.2.2.1, x.2.2.2.2.2.2.2.2.2.2.2.2.2.1, x.2.2.2.2.2.2.2.2.2.2.2.2.2.2.1, x.2.2.2.2.2.2.2.2.2.2.2.2.2.2.2.1, x.2.2.2.2.2.2.2.2.2.2.2.2.2.2.2.2.1)
abbrev p6_1 (x : D6) : TKeys := x.2.2.2.2.2.2.2.2.2.2.2.2.2.2.2.2.2
abbrev D7 : Type := Int × Int × Int × Int × Int × Int × Int × Int × List Int × Int × List Int × Int × Int × List Int × Int × Bool × List TSig × (TMark)
abbrev A7 : ETy := (.cons (.int .i64) (.cons (.int .i64) (.cons (.int .i64) (.cons (.int .i64) (.cons (.int .i64) (.cons (.int .i64) (.cons (.int .i64) (.cons (.int .i64) (.cons (.sl (.cons (.int .i64) .nil)) (.cons (.int .i64) (.cons (.sl (.cons (.int .i64) .nil)) (.cons (.int .i64) (.cons (.int .i64) (.cons (.sl (.cons (.int .i64) .nil)) (.cons (.int .i64) (.cons .bool (.cons (.sl (.cons (.int .i64) (.cons (.int .i64) .nil))) (.cons (.ptr (.cons (.int .i64) (.cons (.int .i64) (.cons (.int .i64) .nil)))) .nil))))))))))))))))))
abbrev fl7 (x0 : TSigned) (x1 : (TMark)) : D7 := (x0.1, x0.2.1, x0.2.2.1, x0.2.2.2.1, x0.2.2.2.2.1, x0.2.2.2.2.2.1, x0.2.2.2.2.2.2.1, x0.2.2.2.2.2.2.2.1, x0.2.2.2.2.2.2.2.2.1, x0.2.2.2.2.2.2.2.2.2.1, x0.2.2.2.2.2.2.2.2.2.2.1, x0.2.2.2.2.2.2.2.2.2.2.2.1, x0.2.2.2.2.2.2.2.2.2.2.2.2.1, x0.2.2.2.2.2.2.2.2.2.2.2.2.2.1, x0.2.2.2.2.2.2.2.2.2.2.2.2.2.2.1, x0.2.2.2.2.2.2.2.2.2.2.2.2.2.2.2.1, x0.2.2.2.2.2.2.2.2.2.2.2.2.2.2.2.2, x1)
abbrev p7_0 (x : D7) : TSigned := (x.1, x.2.1, x.2.2.1, x.2.2.2.1, x.2.2.2.2.1, x.2.2.2.2.2.1, x.2.2.2.2.2.2.1, x.2.2.2.2.2.2.2.1, x.2.2.2.2.2.2.2.2.1, x.2.2.2.2.2.2.2.2.2.1, x.2.2.2.2.2.2.2.2.2.2.1, x.2.2.2.2.2.2.2.2.2.2.2.1, x.2.2.2.2.2.2.2.2.2.2.2.2.1, x.2.2.2.2.2.2.2.2.2.2.2.2.2.1, x.2.2.2.2.2.2.2.2.2.2.2.2.2.2.1, x.2.2.2.2.2.2.2.2.2.2.2.2.2.2.2.1, x.2.2.2.2.2.2.2.2.2.2.2.2.2.2.2.2.1)
abbrev p7_1 (x : D7) : (TMark) := x.2.2.2.2.2.2.2.2.2.2.2.2.2.2.2.2.2
abbrev D8 : Type := Int × Int × Int × Int × Int × Int × Int × Int × List Int × Int × List Int × Int × Int × List Int × Int × Bool × List TSig × Int × Int × Int × Int × Int × Int × Int × Int × List Int × Int × List Int × Int × Int × List Int × Int × Bool × List TSig
abbrev A8 : ETy := (.cons (.int .i64) (.cons (.int .i64) (.cons (.int .i64) (.cons (.int .i64) (.cons (.int .i64) (.cons (.int .i64) (.cons (.int .i64) (.cons (.int .i64) (.cons (.sl (.cons (.int .i64) .nil)) (.cons (.int .i64) (.cons (.sl (.cons (.int .i64) .nil)) (.cons (.int .i64) (.cons (.int .i64) (.cons (.sl (.cons (.int .i64) .nil)) (.cons (.int .i64) (.cons .bool (.cons (.sl (.cons (.int .i64) (.cons (.int .i64) .nil))) (.cons (.int .i64) (.cons (.int .i64) (.cons (.int .i64) (.cons (.int .i64) (.cons (.int .i64) (.cons (.int .i64) (.cons (.int .i64) (.cons (.int .i64) (.cons (.sl (.cons (.int .i64) .nil)) (.cons (.int .i64) (.cons (.sl (.cons (.int .i64) .nil)) (.cons (.int .i64) (.cons (.int .i64) (.cons (.sl (.cons (.int .i64) .nil)) (.cons (.int .i64) (.cons .bool (.cons (.sl (.cons (.int .i64) (.cons (.int .i64) .nil))) .nil))))))))))))))))))))))))))))))))))
abbrev fl8 (x0 : TSigned) (x1 : TSigned) : D8 := (x0.1, x0.2.1, x0.2.2.1, x0.2.2.2.1, x0.2.2.2.2.1, x0.2.2.2.2.2.1, x0.2.2.2.2.2.2.1, x0.2.2.2.2.2.2.2.1, x0.2.2.2.2.2.2.2.2.1, x0.2.2.2.2.2.2.2.2.2.1, x0.2.2.2.2.2.2.2.2.2.2.1, x0.2.2.2.2.2.2.2.2.2.2.2.1, x0.2.2.2.2.2.2.2.2.2.2.2.2.1, x0.2.2.2.2.2.2.2.2.2.2.2.2.2.1, x0.2.2.2.2.2.2.2.2.2.2.2.2.2.2.1, x0.2.2.2.2.2.2.2.2.2.2.2.2.2.2.2.1, x0.2.2.2.2.2.2.2.2.2.2.2.2.2.2.2.2, x1.1, x1.2.1, x1.2.2.1, x1.2.2.2.1, x1.2.2.2.2.1, x1.2.2.2.2.2.1, x1.2.2.2.2.2.2.1, x1.2.2.2.2.2.2.2.1, x1.2.2.2.2.2.2.2.2.1, x1.2.2.2.2.2.2.2.2.2.1, x1.2.2.2.2.2.2.2.2.2.2.1, x1.2.2.2.2.2.2.2.2.2.2.2.1, x1.2.2.2.2.2.2.2.2.2.2.2.2.1, x1.2.2.2.2.2.2.2.2.2.2.2.2.2.1, x1.2.2.2.2.2.2.2.2.2.2.2.2.2.2.1, x1.2.2.2.2.2.2.2.2.2.2.2.2.2.2.2.1, x1.2.2.2.2.2.2.2.2.2.2.2.2.2.2.2.2)
abbrev p8_0 (x : D8) : TSigned := (x.1, x.2.1, x.2.2.1, x.2.2.2.1, x.2.2.2.2.1, x.2.2.2.2.2.1, x.2.2.2.2.2.2.1, x.2.2.2.2.2.2.2.1, x.2.2.2.2.2.2.2.2.1, x.2.2.2.2.2.2.2.2.2.1, x.2.2.2.2.2.2.2.2.2.2.1, x.2.2.2.2.2.2.2.2.2.2.2.1, x.2.2.2.2.2.2.2.2.2.2.2.2.1, x.2.2.2.2.2.2.2.2.2.2.2.2.2.1, x.2.2.2.2.2.2.2.2.2.2.2.2.2.2.1, x.2.2.2.2.2.2.2.2.2.2.2.2.2.2.2.1, x.2.2.2.2.2.2.2.2.2.2.2.2.2.2.2.2.1)
abbrev p8_1 (x : D8) : TSigned := x.2.2.2.2.2.2.2.2.2.2.2.2.2.2.2.2.2
abbrev tys : List (Nat × TI) := [(3, ⟨.int .i64, false, [.val (.int .i64 (0 : Int))], 8, [], (.cons (.int .i64) .nil)⟩),
  (4, ⟨.bool, false, [.val (.bool false)], 1, [], (.cons .bool .nil)⟩),
  (22, ⟨.sl 3, false, [.nil0], 24, [], (.cons (.sl (.cons (.int .i64) .nil)) .nil)⟩),
  (24, ⟨.st, false, [.nil0, .val (.int .i64 (0 : Int))], 32, [(0, 1, false), (1, 1, false)], (.cons (.sl (.cons (.int .i64) .nil)) (.cons (.int .i64) .nil))⟩),
  (26, ⟨.st, false, [.val (.int .i64 (0 : Int)), .val (.int .i64 (0 : Int)), .val (.int .i64 (0 : Int)), .val (.int .i64 (0 : Int)), .val (.int .i64 (0 : Int)), .val (.int .i64 (0 : Int)), .val (.int .i64 (0 : Int)), .val (.int .i64 (0 : Int)), .nil0, .val (.int .i64 (0 : Int)), .nil0, .val (.int .i64 (0 : Int)), .val (.int .i64 (0 : Int)), .nil0, .val (.int .i64 (0 : Int)), .val (.bool false)], 176, [(0, 1, false), (1, 1, false), (2, 1, false), (3, 1, false), (4, 1, false), (5, 1, false), (6, 1, false), (7, 1, false), (8, 2, true), (10, 2, true), (12, 1, false), (13, 2, true), (15, 1, false)], V.eHead⟩),
  (30, ⟨.st, false, [.nil0, .val (.int .i64 (0 : Int))], 32, [(0, 1, false), (1, 1, false)], (.cons (.sl (.cons (.int .i64) .nil)) (.cons (.int .i64) .nil))⟩),
  (32, ⟨.st, false, [.val (.int .i64 (0 : Int)), .val (.int .i64 (0 : Int)), .val (.int .i64 (0 : Int)), .val (.int .i64 (0 : Int)), .val (.int .i64 (0 : Int)), .val (.int .i64 (0 : Int)), .val (.int .i64 (0 : Int)), .val (.int .i64 (0 : Int)), .nil0, .val (.int .i64 (0 : Int)), .nil0, .val (.int .i64 (0 : Int)), .val (.int .i64 (0 : Int)), .nil0, .val (.int .i64 (0 : Int)), .val (.bool false)], 176, [(0, 1, false), (1, 1, false), (2, 1, false), (3, 1, false), (4, 1, false), (5, 1, false), (6, 1, false), (7, 1, false), (8, 2, true), (10, 2, true), (12, 1, false), (13, 2, true), (15, 1, false)], V.eHead⟩),
  (43, ⟨.sl 154, false, [.nil0], 24, [], (.cons (.sl V.eSigned) .nil)⟩),
  (45, ⟨.sl 67, false, [.nil0], 24, [], (.cons (.sl (.cons (.int .i64) (.cons (.int .i64) .nil))) .nil)⟩),
  (47, ⟨.st, false, [.val (.int .i64 (0 : Int)), .val (.int .i64 (0 : Int)), .val (.int .i64 (0 : Int)), .val (.int .i64 (0 : Int)), .val (.int .i64 (0 : Int)), .val (.int .i64 (0 : Int)), .val (.int .i64 (0 : Int)), .val (.int .i64 (0 : Int)), .nil0, .val (.int .i64 (0 : Int)), .nil0, .val (.int .i64 (0 : Int)), .val (.int .i64 (0 : Int)), .nil0, .val (.int .i64 (0 : Int)), .val (.bool false), .nil0], 200, [(0, 16, true), (16, 1, false)], V.eSigned⟩),
  (52, ⟨.sl 47, false, [.nil0], 24, [], (.cons (.sl V.eSigned) .nil)⟩),
  (59, ⟨.sl 224, false, [.nil0], 24, [], (.cons (.sl (.cons (.int .i64) (.cons (.int .i64) (.cons (.int .i64) .nil)))) .nil)⟩),
  (61, ⟨.st, false, [.val (.int .i64 (0 : Int)), .nil0], 32, [(0, 1, false), (1, 1, false)], (.cons (.int .i64) (.cons (.sl (.cons (.int .i64) (.cons (.int .i64) (.cons (.int .i64) .nil)))) .nil))⟩),
  (63, ⟨.sl 166, false, [.nil0], 24, [], (.cons (.sl (.cons (.int .i64) (.cons (.int .i64) (.cons (.int .i64) .nil)))) .nil)⟩),
  (65, ⟨.st, false, [.val (.int .i64 (0 : Int)), .nil0], 32, [(0, 1, false), (1, 1, false)], (.cons (.int .i64) (.cons (.sl (.cons (.int .i64) (.cons (.int .i64) (.cons (.int .i64) .nil)))) .nil))⟩),
  (67, ⟨.st, true, [.val (.int .i64 (0 : Int)), .val (.int .i64 (0 : Int))], 16, [(0, 1, false), (1, 1, false)], (.cons (.int .i64) (.cons (.int .i64) .nil))⟩),
  (152, ⟨.sl 248, false, [.nil0], 24, [], (.cons (.sl (.cons (.int .i64) (.cons (.int .i64) .nil))) .nil)⟩),
  (154, ⟨.st, false, [.val (.int .i64 (0 : Int)), .val (.int .i64 (0 : Int)), .val (.int .i64 (0 : Int)), .val (.int .i64 (0 : Int)), .val (.int .i64 (0 : Int)), .val (.int .i64 (0 : Int)), .val (.int .i64 (0 : Int)), .val (.int .i64 (0 : Int)), .nil0, .val (.int .i64 (0 : Int)), .nil0, .val (.int .i64 (0 : Int)), .val (.int .i64 (0 : Int)), .nil0, .val (.int .i64 (0 : Int)), .val (.bool false), .nil0], 200, [(0, 16, true), (16, 1, false)], V.eSigned⟩),
  (166, ⟨.st, true, [.val (.int .i64 (0 : Int)), .val (.int .i64 (0 : Int)), .val (.int .i64 (0 : Int))], 24, [(0, 1, false), (1, 1, false), (2, 1, false)], (.cons (.int .i64) (.cons (.int .i64) (.cons (.int .i64) .nil)))⟩),
  (224, ⟨.st, true, [.val (.int .i64 (0 : Int)), .val (.int .i64 (0 : Int)), .val (.int .i64 (0 : Int))], 24, [(0, 1, false), (1, 1, false), (2, 1, false)], (.cons (.int .i64) (.cons (.int .i64) (.cons (.int .i64) .nil)))⟩),
  (248, ⟨.st, true, [.val (.int .i64 (0 : Int)), .val (.int .i64 (0 : Int))], 16, [(0, 1, false), (1, 1, false)], (.cons (.int .i64) (.cons (.int .i64) .nil))⟩),
  (261, ⟨.sl 22, false, [.nil0], 24, [], (.cons (.sl (.cons (.sl (.cons (.int .i64) .nil)) .nil)) .nil)⟩)]
theorem tysOk : tyAll Tryz.prog tys = true := by kernel_rfl
theorem mixed : Tryz.prog.follows .mixedOrders = true := by kernel_rfl
theorem cfl {α : Type} {a b c : α} (e : a = b) (h : a = c) : b = c := e.symm.trans h
theorem fo {g : Nat} {fn : Func} {con : Con} {tab : List (Nat × Con)} {heads : List (Nat × List Nat × Cv)} {pre : List (Nat × Nat)} {shallow : List Nat} {movs flts : List (Nat × List Nat)} (h : TabOk Tryz.prog tab) (hf : Tryz.prog.funcs[g]? = some fn) (hq : (!(fn.name == "runtime.NumGoroutine") && (!fn.body.isNone && conOk con fn.ntmps)) = true) (hev : ∀ x y, con.f x = some y → evBody (mkE tys tab heads pre shallow movs flts) con fn x = some y) : Valid Tryz.prog g con := by
  simp only [Bool.and_eq_true, Bool.not_eq_true'] at hq
  exact body_ok (env_ok mixed tysOk h) hf hq.1 hq.2.1 hq.2.2 hev
theorem fo2 {g : Nat} {fn : Func} {con : Con} {tab tab2 : List (Nat × Con)} {sites : List Nat} {heads : List (Nat × List Nat × Cv)} {pre : List (Nat × Nat)} {shallow : List Nat} {movs flts : List (Nat × List Nat)} (h : TabOk Tryz.prog tab) (h2 : TabOk Tryz.prog tab2) (hf : Tryz.prog.funcs[g]? = some fn) (hq : (!(fn.name == "runtime.NumGoroutine") && (!fn.body.isNone && conOk con fn.ntmps)) = true) (hev : ∀ x y, con.f x = some y → evBody (mkE2 tys tab sites tab2 heads pre shallow movs flts) con fn x = some y) : Valid Tryz.prog g con := by
  simp only [Bool.and_eq_true, Bool.not_eq_true'] at hq
  exact body_ok (env_ok2 mixed tysOk h h2) hf hq.1 hq.2.1 hq.2.2 hev
end V
noncomputable abbrev laws_szMarkS.con : V.Con := ⟨(.cons (.sl (.cons (.int .i64) (.cons (.int .i64) (.cons (.int .i64) .nil)))) (.cons (.int .i64) .nil)), (.cons (.int .i64) .nil), fun (x : List TMark × Int) => laws_szMarkS x.1 x.2, [], [(false, 1), (false, 1)], [(false, 1)], [false], []⟩
noncomputable abbrev laws_szMarkS.E : V.Env := V.mkE V.tys [] [] [] [] [] []
theorem laws_szMarkS.eq (x0 : List TMark) (x1 : Int) : V.evBody laws_szMarkS.E laws_szMarkS.con Tryz.f112 ((x0, x1) : List TMark × Int) = laws_szMarkS x0 x1 := by kernel_rfl
theorem laws_szMarkS.ok : V.Valid Tryz.prog 112 laws_szMarkS.con :=
  V.fo V.tab_nil Tryz.func112 (by kernel_rfl) (fun x y h => (show V.evBody laws_szMarkS.E laws_szMarkS.con Tryz.f112 x = _ from laws_szMarkS.eq x.1 x.2).trans (V.cfl (by kernel_rfl) h))
noncomputable abbrev laws_szWitness.con : V.Con := ⟨(.cons (.int .i64) (.cons (.sl (.cons (.int .i64) (.cons (.int .i64) (.cons (.int .i64) .nil)))) (.cons (.int .i64) .nil))), (.cons (.int .i64) .nil), fun (x : Int × List TMark × Int) => laws_szWitness (x.1, x.2.1) x.2.2, [], [(true, 2), (false, 1)], [(false, 1)], [false], []⟩
noncomputable abbrev laws_szWitness.E : V.Env := V.mkE V.tys [(112, laws_szMarkS.con)] [] [] [] [] []
theorem laws_szWitness.eq (x0 : TWitness) (x1 : Int) : V.evBody laws_szWitness.E laws_szWitness.con Tryz.f35 ((x0.1, x0.2, x1) : Int × List TMark × Int) = laws_szWitness x0 x1 := by kernel_rfl
theorem laws_szWitness.ok : V.Valid Tryz.prog 35 laws_szWitness.con :=
  V.fo (V.tab_cons laws_szMarkS.ok V.tab_nil) Tryz.func35 (by kernel_rfl) (fun x y h => (show V.evBody laws_szWitness.E laws_szWitness.con Tryz.f35 x = _ from laws_szWitness.eq (x.1, x.2.1) x.2.2).trans (V.cfl (by kernel_rfl) h))
noncomputable abbrev laws_szIntS.con : V.Con := ⟨(.cons (.sl (.cons (.int .i64) .nil)) (.cons (.int .i64) .nil)), (.cons (.int .i64) .nil), fun (x : List Int × Int) => laws_szIntS x.1 x.2, [], [(false, 1), (false, 1)], [(false, 1)], [false], []⟩
noncomputable abbrev laws_szIntS.E : V.Env := V.mkE V.tys [] [] [] [] [] []
theorem laws_szIntS.eq (x0 : List Int) (x1 : Int) : V.evBody laws_szIntS.E laws_szIntS.con Tryz.f137 ((x0, x1) : List Int × Int) = laws_szIntS x0 x1 := by kernel_rfl
theorem laws_szIntS.ok : V.Valid Tryz.prog 137 laws_szIntS.con :=
  V.fo V.tab_nil Tryz.func137 (by kernel_rfl) (fun x y h => (show V.evBody laws_szIntS.E laws_szIntS.con Tryz.f137 x = _ from laws_szIntS.eq x.1 x.2).trans (V.cfl (by kernel_rfl) h))
noncomputable abbrev laws_szKeys.con : V.Con := ⟨(.cons (.sl (.cons (.int .i64) .nil)) (.cons (.int .i64) (.cons (.int .i64) .nil))), (.cons (.int .i64) .nil), fun (x : List Int × Int × Int) => laws_szKeys (x.1, x.2.1) x.2.2, [], [(true, 2), (false, 1)], [(false, 1)], [false], []⟩
noncomputable abbrev laws_szKeys.E : V.Env := V.mkE V.tys [(137, laws_szIntS.con)] [] [] [] [] []
theorem laws_szKeys.eq (x0 : TKeys) (x1 : Int) : V.evBody laws_szKeys.E laws_szKeys.con Tryz.f50 ((x0.1, x0.2, x1) : List Int × Int × Int) = laws_szKeys x0 x1 := by kernel_rfl
theorem laws_szKeys.ok : V.Valid Tryz.prog 50 laws_szKeys.con :=
  V.fo (V.tab_cons laws_szIntS.ok V.tab_nil) Tryz.func50 (by kernel_rfl) (fun x y h => (show V.evBody laws_szKeys.E laws_szKeys.con Tryz.f50 x = _ from laws_szKeys.eq (x.1, x.2.1) x.2.2).trans (V.cfl (by kernel_rfl) h))
noncomputable abbrev laws_szHead.con : V.Con := ⟨V.A0, (.cons (.int .i64) .nil), fun (x : V.D0) => laws_szHead (V.p0_0 x) (V.p0_1 x), [], [(true, 16), (false, 1)], [(false, 1)], [false], []⟩
noncomputable abbrev laws_szHead.E : V.Env := V.mkE V.tys [(50, laws_szKeys.con)] [] [] [] [] []
noncomputable abbrev laws_szHead.kt (x0 : THead) (x1 : Int) : V.Kt Int := V.ktOf laws_szHead.E laws_szHead.con Tryz.f15 (V.fl0 x0 x1)
noncomputable abbrev laws_szHead.s (x0 : THead) (x1 : Int) : V.St := ⟨[(0, .v true [.val (.int .i64 x0.1), .val (.int .i64 x0.2.1), .val (.int .i64 x0.2.2.1), .val (.int .i64 x0.2.2.2.1), .val (.int .i64 x0.2.2.2.2.1), .val (.int .i64 x0.2.2.2.2.2.1), .val (.int .i64 x0.2.2.2.2.2.2.1), .val (.int .i64 x0.2.2.2.2.2.2.2.1), .val (.sl (.cons (.int .i64) .nil) x0.2.2.2.2.2.2.2.2.1), .val (.int .i64 x0.2.2.2.2.2.2.2.2.2.1), .val (.sl (.cons (.int .i64) .nil) x0.2.2.2.2.2.2.2.2.2.2.1), .val (.int .i64 x0.2.2.2.2.2.2.2.2.2.2.2.1), .val (.int .i64 x0.2.2.2.2.2.2.2.2.2.2.2.2.1), .val (.sl (.cons (.int .i64) .nil) x0.2.2.2.2.2.2.2.2.2.2.2.2.2.1), .val (.int .i64 x0.2.2.2.2.2.2.2.2.2.2.2.2.2.2.1), .val (.bool x0.2.2.2.2.2.2.2.2.2.2.2.2.2.2.2)]), (1, .v false [.val (.int .i64 x1)])], []⟩
theorem laws_szHead.v0 (x0 : THead) (x1 : Int) : V.evBody laws_szHead.E laws_szHead.con Tryz.f15 (V.fl0 x0 x1) = V.evC laws_szHead.E Tryz.f15.ntmps (V.codeOf Tryz.f15) (laws_szHead.kt x0 x1) (laws_szHead.s x0 x1) := by kernel_rfl
theorem laws_szHead.v (x0 : THead) (x1 : Int) : V.evC laws_szHead.E Tryz.f15.ntmps (V.codeOf Tryz.f15) (laws_szHead.kt x0 x1) (laws_szHead.s x0 x1) = laws_szHead x0 x1 := by kernel_rfl
theorem laws_szHead.eq (x0 : THead) (x1 : Int) : V.evBody laws_szHead.E laws_szHead.con Tryz.f15 (V.fl0 x0 x1) = laws_szHead x0 x1 := (laws_szHead.v0 x0 x1).trans (laws_szHead.v x0 x1)
theorem laws_szHead.ok : V.Valid Tryz.prog 15 laws_szHead.con :=
  V.fo (V.tab_cons laws_szKeys.ok V.tab_nil) Tryz.func15 (by kernel_rfl) (fun x y h => (show V.evBody laws_szHead.E laws_szHead.con Tryz.f15 x = _ from laws_szHead.eq (V.p0_0 x) (V.p0_1 x)).trans (V.cfl (by kernel_rfl) h))
noncomputable abbrev laws_szSigS.con : V.Con := ⟨(.cons (.sl (.cons (.int .i64) (.cons (.int .i64) .nil))) (.cons (.int .i64) .nil)), (.cons (.int .i64) .nil), fun (x : List TSig × Int) => laws_szSigS x.1 x.2, [], [(false, 1), (false, 1)], [(false, 1)], [false], []⟩
noncomputable abbrev laws_szSigS.E : V.Env := V.mkE V.tys [] [] [] [] [] []
theorem laws_szSigS.eq (x0 : List TSig) (x1 : Int) : V.evBody laws_szSigS.E laws_szSigS.con Tryz.f202 ((x0, x1) : List TSig × Int) = laws_szSigS x0 x1 := by kernel_rfl
theorem laws_szSigS.ok : V.Valid Tryz.prog 202 laws_szSigS.con :=
  V.fo V.tab_nil Tryz.func202 (by kernel_rfl) (fun x y h => (show V.evBody laws_szSigS.E laws_szSigS.con Tryz.f202 x = _ from laws_szSigS.eq x.1 x.2).trans (V.cfl (by kernel_rfl) h))
noncomputable abbrev laws_szSigned.con : V.Con := ⟨V.A1, (.cons (.int .i64) .nil), fun (x : V.D1) => laws_szSigned (V.p1_0 x) (V.p1_1 x), [], [(true, 17), (false, 1)], [(false, 1)], [false], []⟩
noncomputable abbrev laws_szSigned.E : V.Env := V.mkE V.tys [(15, laws_szHead.con), (202, laws_szSigS.con)] [] [] [] [] []
noncomputable abbrev laws_szSigned.kt (x0 : TSigned) (x1 : Int) : V.Kt Int := V.ktOf laws_szSigned.E laws_szSigned.con Tryz.f98 (V.fl1 x0 x1)
noncomputable abbrev laws_szSigned.s (x0 : TSigned) (x1 : Int) : V.St := ⟨[(0, .v true [.val (.int .i64 x0.1), .val (.int .i64 x0.2.1), .val (.int .i64 x0.2.2.1), .val (.int .i64 x0.2.2.2.1), .val (.int .i64 x0.2.2.2.2.1), .val (.int .i64 x0.2.2.2.2.2.1), .val (.int .i64 x0.2.2.2.2.2.2.1), .val (.int .i64 x0.2.2.2.2.2.2.2.1), .val (.sl (.cons (.int .i64) .nil) x0.2.2.2.2.2.2.2.2.1), .val (.int .i64 x0.2.2.2.2.2.2.2.2.2.1), .val (.sl (.cons (.int .i64) .nil) x0.2.2.2.2.2.2.2.2.2.2.1), .val (.int .i64 x0.2.2.2.2.2.2.2.2.2.2.2.1), .val (.int .i64 x0.2.2.2.2.2.2.2.2.2.2.2.2.1), .val (.sl (.cons (.int .i64) .nil) x0.2.2.2.2.2.2.2.2.2.2.2.2.2.1), .val (.int .i64 x0.2.2.2.2.2.2.2.2.2.2.2.2.2.2.1), .val (.bool x0.2.2.2.2.2.2.2.2.2.2.2.2.2.2.2.1), .val (.sl (.cons (.int .i64) (.cons (.int .i64) .nil)) x0.2.2.2.2.2.2.2.2.2.2.2.2.2.2.2.2)]), (1, .v false [.val (.int .i64 x1)])], []⟩
theorem laws_szSigned.v0 (x0 : TSigned) (x1 : Int) : V.evBody laws_szSigned.E laws_szSigned.con Tryz.f98 (V.fl1 x0 x1) = V.evC laws_szSigned.E Tryz.f98.ntmps (V.codeOf Tryz.f98) (laws_szSigned.kt x0 x1) (laws_szSigned.s x0 x1) := by kernel_rfl
theorem laws_szSigned.v (x0 : TSigned) (x1 : Int) : V.evC laws_szSigned.E Tryz.f98.ntmps (V.codeOf Tryz.f98) (laws_szSigned.kt x0 x1) (laws_szSigned.s x0 x1) = laws_szSigned x0 x1 := by kernel_rfl
theorem laws_szSigned.eq (x0 : TSigned) (x1 : Int) : V.evBody laws_szSigned.E laws_szSigned.con Tryz.f98 (V.fl1 x0 x1) = laws_szSigned x0 x1 := (laws_szSigned.v0 x0 x1).trans (laws_szSigned.v x0 x1)
theorem laws_szSigned.ok : V.Valid Tryz.prog 98 laws_szSigned.con :=
  V.fo (V.tab_cons laws_szHead.ok (V.tab_cons laws_szSigS.ok V.tab_nil)) Tryz.func98 (by kernel_rfl) (fun x y h => (show V.evBody laws_szSigned.E laws_szSigned.con Tryz.f98 x = _ from laws_szSigned.eq (V.p1_0 x) (V.p1_1 x)).trans (V.cfl (by kernel_rfl) h))
noncomputable abbrev laws_szSignedS.con : V.Con := ⟨(.cons (.sl V.eSigned) (.cons (.int .i64) .nil)), (.cons (.int .i64) .nil), fun (x : List TSigned × Int) => laws_szSignedS x.1 x.2, [], [(false, 1), (false, 1)], [(false, 1)], [false], []⟩
noncomputable abbrev laws_szSignedS.E : V.Env := V.mkE V.tys [(98, laws_szSigned.con)] [(10, [0, 1, 5], [])] [] [] [] []
noncomputable abbrev laws_szSignedS.kt (x0 : List TSigned) (x1 : Int) : V.Kt Int := V.ktOf laws_szSignedS.E laws_szSignedS.con Tryz.f26 ((x0, x1) : List TSigned × Int)
noncomputable abbrev laws_szSignedS.s10 (x0 : List TSigned) (v10_1 : Int) (v10_2 : Int) : V.St := ⟨[(0, .v false [.val (.sl V.eSigned x0)]), (1, .v false [.val (.int .i64 v10_1)]), (5, .v false [.val (.int .i64 v10_2)])], []⟩
theorem laws_szSignedS.r10 (x0 : List TSigned) (x1 : Int) (R : V.St → Option Int) (v10_1 : Int) (v10_2 : Int) : V.loopF laws_szSignedS.E Tryz.f26.ntmps [1, 1, 1, 0, 1, 0] [] (V.codeOf Tryz.f26) (laws_szSignedS.kt x0 x1) R (laws_szSignedS.s10 x0 v10_1 v10_2) = laws_szSignedS.g10 x0 (fun v10_1 v10_2 => R (laws_szSignedS.s10 x0 v10_1 v10_2)) v10_1 v10_2 := by kernel_rfl
theorem laws_szSignedS.e10 (x0 : List TSigned) (x1 : Int) : ∀ (n : Nat) (v10_1 : Int) (v10_2 : Int), V.loopN (V.loopF laws_szSignedS.E Tryz.f26.ntmps [1, 1, 1, 0, 1, 0] [] (V.codeOf Tryz.f26) (laws_szSignedS.kt x0 x1)) n (laws_szSignedS.s10 x0 v10_1 v10_2) = laws_szSignedS.l10 x0 n v10_1 v10_2 := by
  intro n
  induction n with
  | zero => intros; rw [V.loopN_z]; rfl
  | succ n ih =>
    intro v10_1 v10_2
    rw [V.loopN_s, laws_szSignedS.r10]
    simp only [ih]
    first | exact (laws_szSignedS.u10 ..).symm | rfl
theorem laws_szSignedS.v (x0 : List TSigned) (x1 : Int) : V.evBody laws_szSignedS.E laws_szSignedS.con Tryz.f26 ((x0, x1) : List TSigned × Int) = laws_szSignedS.b x0 x1 (fun v10_1 v10_2 => V.loopN (V.loopF laws_szSignedS.E Tryz.f26.ntmps [1, 1, 1, 0, 1, 0] [] (V.codeOf Tryz.f26) (laws_szSignedS.kt x0 x1)) V.KK (laws_szSignedS.s10 x0 v10_1 v10_2)) := by kernel_rfl
theorem laws_szSignedS.eq (x0 : List TSigned) (x1 : Int) : V.evBody laws_szSignedS.E laws_szSignedS.con Tryz.f26 ((x0, x1) : List TSigned × Int) = laws_szSignedS x0 x1 := by
  rw [laws_szSignedS.v]
  simp only [laws_szSignedS.e10]
  rfl
theorem laws_szSignedS.ok : V.Valid Tryz.prog 26 laws_szSignedS.con :=
  V.fo (V.tab_cons laws_szSigned.ok V.tab_nil) Tryz.func26 (by kernel_rfl) (fun x y h => (show V.evBody laws_szSignedS.E laws_szSignedS.con Tryz.f26 x = _ from laws_szSignedS.eq x.1 x.2).trans (V.cfl (by kernel_rfl) h))
noncomputable abbrev laws_toMark.con : V.Con := ⟨(.cons (.int .i64) (.cons (.int .i64) (.cons (.int .i64) .nil))), (.cons (.int .i64) (.cons (.int .i64) (.cons (.int .i64) .nil))), fun (x : Int × Int × Int) => laws_toMark x, [], [(true, 3)], [(true, 3)], [false, false, false], []⟩
noncomputable abbrev laws_toMark.E : V.Env := V.mkE V.tys [] [] [] [] [] []
theorem laws_toMark.eq (x0 : TMark) : V.evBody laws_toMark.E laws_toMark.con Tryz.f215 ((x0.1, x0.2.1, x0.2.2) : Int × Int × Int) = laws_toMark x0 := by kernel_rfl
theorem laws_toMark.ok : V.Valid Tryz.prog 215 laws_toMark.con :=
  V.fo V.tab_nil Tryz.func215 (by kernel_rfl) (fun x y h => (show V.evBody laws_toMark.E laws_toMark.con Tryz.f215 x = _ from laws_toMark.eq x).trans (V.cfl (by kernel_rfl) h))
noncomputable abbrev laws_toMarkS.con : V.Con := ⟨(.cons (.sl (.cons (.int .i64) (.cons (.int .i64) (.cons (.int .i64) .nil)))) .nil), (.cons (.sl (.cons (.int .i64) (.cons (.int .i64) (.cons (.int .i64) .nil)))) .nil), fun (x : List TMark) => laws_toMarkS x, [], [(false, 1)], [(false, 1)], [true], []⟩
noncomputable abbrev laws_toMarkS.E : V.Env := V.mkE V.tys [(215, laws_toMark.con)] [(6, [0, 3, 4], [])] [] [] [] []
noncomputable abbrev laws_toMarkS.kt (x0 : List TMark) : V.Kt (List TMark) := V.ktOf laws_toMarkS.E laws_toMarkS.con Tryz.f120 ((x0) : List TMark)
noncomputable abbrev laws_toMarkS.s6 (x0 : List TMark) (v6_1 : Int) (v6_2 : List TMark) : V.St := ⟨[(0, .v false [.val (.sl (.cons (.int .i64) (.cons (.int .i64) (.cons (.int .i64) .nil))) x0)]), (3, .v false [.ref 64000038400192]), (4, .v false [.val (.int .i64 v6_1)])], [(64000038400192, .row (.cons (.int .i64) (.cons (.int .i64) (.cons (.int .i64) .nil))) true v6_2)]⟩
theorem laws_toMarkS.r6 (x0 : List TMark) (R : V.St → Option (List TMark)) (v6_1 : Int) (v6_2 : List TMark) : V.loopF laws_toMarkS.E Tryz.f120.ntmps [1, 1, 0, 1, 0] [] (V.codeOf Tryz.f120) (laws_toMarkS.kt x0) R (laws_toMarkS.s6 x0 v6_1 v6_2) = laws_toMarkS.g6 x0 (fun v6_1 v6_2 => R (laws_toMarkS.s6 x0 v6_1 v6_2)) v6_1 v6_2 := by kernel_rfl
theorem laws_toMarkS.e6 (x0 : List TMark) : ∀ (n : Nat) (v6_1 : Int) (v6_2 : List TMark), V.loopN (V.loopF laws_toMarkS.E Tryz.f120.ntmps [1, 1, 0, 1, 0] [] (V.codeOf Tryz.f120) (laws_toMarkS.kt x0)) n (laws_toMarkS.s6 x0 v6_1 v6_2) = laws_toMarkS.l6 x0 n v6_1 v6_2 := by
  intro n
  induction n with
  | zero => intros; rw [V.loopN_z]; rfl
  | succ n ih =>
    intro v6_1 v6_2
    rw [V.loopN_s, laws_toMarkS.r6]
    simp only [ih]
    first | exact (laws_toMarkS.u6 ..).symm | rfl
theorem laws_toMarkS.v (x0 : List TMark) : V.evBody laws_toMarkS.E laws_toMarkS.con Tryz.f120 ((x0) : List TMark) = laws_toMarkS.b x0 (fun v6_1 v6_2 => V.loopN (V.loopF laws_toMarkS.E Tryz.f120.ntmps [1, 1, 0, 1, 0] [] (V.codeOf Tryz.f120) (laws_toMarkS.kt x0)) V.KK (laws_toMarkS.s6 x0 v6_1 v6_2)) := by kernel_rfl
theorem laws_toMarkS.eq (x0 : List TMark) : V.evBody laws_toMarkS.E laws_toMarkS.con Tryz.f120 ((x0) : List TMark) = laws_toMarkS x0 := by
  rw [laws_toMarkS.v]
  simp only [laws_toMarkS.e6]
  rfl
theorem laws_toMarkS.ok : V.Valid Tryz.prog 120 laws_toMarkS.con :=
  V.fo (V.tab_cons laws_toMark.ok V.tab_nil) Tryz.func120 (by kernel_rfl) (fun x y h => (show V.evBody laws_toMarkS.E laws_toMarkS.con Tryz.f120 x = _ from laws_toMarkS.eq x).trans (V.cfl (by kernel_rfl) h))
noncomputable abbrev laws_toWitness.con : V.Con := ⟨(.cons (.int .i64) (.cons (.sl (.cons (.int .i64) (.cons (.int .i64) (.cons (.int .i64) .nil)))) .nil)), (.cons (.int .i64) (.cons (.sl (.cons (.int .i64) (.cons (.int .i64) (.cons (.int .i64) .nil)))) .nil)), fun (x : Int × List TMark) => laws_toWitness x, [], [(true, 2)], [(true, 2)], [false, true], []⟩
noncomputable abbrev laws_toWitness.E : V.Env := V.mkE V.tys [(120, laws_toMarkS.con)] [] [] [] [] []
theorem laws_toWitness.eq (x0 : TWitness) : V.evBody laws_toWitness.E laws_toWitness.con Tryz.f37 ((x0.1, x0.2) : Int × List TMark) = laws_toWitness x0 := by kernel_rfl
theorem laws_toWitness.ok : V.Valid Tryz.prog 37 laws_toWitness.con :=
  V.fo (V.tab_cons laws_toMarkS.ok V.tab_nil) Tryz.func37 (by kernel_rfl) (fun x y h => (show V.evBody laws_toWitness.E laws_toWitness.con Tryz.f37 x = _ from laws_toWitness.eq x).trans (V.cfl (by kernel_rfl) h))
noncomputable abbrev laws_toIntS.con : V.Con := ⟨(.cons (.sl (.cons (.int .i64) .nil)) .nil), (.cons (.sl (.cons (.int .i64) .nil)) .nil), fun (x : List Int) => laws_toIntS x, [], [(false, 1)], [(false, 1)], [true], []⟩
noncomputable abbrev laws_toIntS.E : V.Env := V.mkE V.tys [] [(6, [0, 3, 4], [])] [] [] [] []
noncomputable abbrev laws_toIntS.kt (x0 : List Int) : V.Kt (List Int) := V.ktOf laws_toIntS.E laws_toIntS.con Tryz.f77 ((x0) : List Int)
noncomputable abbrev laws_toIntS.s6 (x0 : List Int) (v6_1 : Int) (v6_2 : List Int) : V.St := ⟨[(0, .v false [.val (.sl (.cons (.int .i64) .nil) x0)]), (3, .v false [.ref 64000038400192]), (4, .v false [.val (.int .i64 v6_1)])], [(64000038400192, .row (.cons (.int .i64) .nil) true v6_2)]⟩
theorem laws_toIntS.r6 (x0 : List Int) (R : V.St → Option (List Int)) (v6_1 : Int) (v6_2 : List Int) : V.loopF laws_toIntS.E Tryz.f77.ntmps [1, 1, 0, 1, 0] [] (V.codeOf Tryz.f77) (laws_toIntS.kt x0) R (laws_toIntS.s6 x0 v6_1 v6_2) = laws_toIntS.g6 x0 (fun v6_1 v6_2 => R (laws_toIntS.s6 x0 v6_1 v6_2)) v6_1 v6_2 := by kernel_rfl
theorem laws_toIntS.e6 (x0 : List Int) : ∀ (n : Nat) (v6_1 : Int) (v6_2 : List Int), V.loopN (V.loopF laws_toIntS.E Tryz.f77.ntmps [1, 1, 0, 1, 0] [] (V.codeOf Tryz.f77) (laws_toIntS.kt x0)) n (laws_toIntS.s6 x0 v6_1 v6_2) = laws_toIntS.l6 x0 n v6_1 v6_2 := by
  intro n
  induction n with
  | zero => intros; rw [V.loopN_z]; rfl
  | succ n ih =>
    intro v6_1 v6_2
    rw [V.loopN_s, laws_toIntS.r6]
    simp only [ih]
    first | exact (laws_toIntS.u6 ..).symm | rfl
theorem laws_toIntS.v (x0 : List Int) : V.evBody laws_toIntS.E laws_toIntS.con Tryz.f77 ((x0) : List Int) = laws_toIntS.b x0 (fun v6_1 v6_2 => V.loopN (V.loopF laws_toIntS.E Tryz.f77.ntmps [1, 1, 0, 1, 0] [] (V.codeOf Tryz.f77) (laws_toIntS.kt x0)) V.KK (laws_toIntS.s6 x0 v6_1 v6_2)) := by kernel_rfl
theorem laws_toIntS.eq (x0 : List Int) : V.evBody laws_toIntS.E laws_toIntS.con Tryz.f77 ((x0) : List Int) = laws_toIntS x0 := by
  rw [laws_toIntS.v]
  simp only [laws_toIntS.e6]
  rfl
theorem laws_toIntS.ok : V.Valid Tryz.prog 77 laws_toIntS.con :=
  V.fo V.tab_nil Tryz.func77 (by kernel_rfl) (fun x y h => (show V.evBody laws_toIntS.E laws_toIntS.con Tryz.f77 x = _ from laws_toIntS.eq x).trans (V.cfl (by kernel_rfl) h))
noncomputable abbrev laws_toKeys.con : V.Con := ⟨(.cons (.sl (.cons (.int .i64) .nil)) (.cons (.int .i64) .nil)), (.cons (.sl (.cons (.int .i64) .nil)) (.cons (.int .i64) .nil)), fun (x : List Int × Int) => laws_toKeys x, [], [(true, 2)], [(true, 2)], [true, false], []⟩
noncomputable abbrev laws_toKeys.E : V.Env := V.mkE V.tys [(77, laws_toIntS.con)] [] [] [] [] []
theorem laws_toKeys.eq (x0 : TKeys) : V.evBody laws_toKeys.E laws_toKeys.con Tryz.f52 ((x0.1, x0.2) : List Int × Int) = laws_toKeys x0 := by kernel_rfl
theorem laws_toKeys.ok : V.Valid Tryz.prog 52 laws_toKeys.con :=
  V.fo (V.tab_cons laws_toIntS.ok V.tab_nil) Tryz.func52 (by kernel_rfl) (fun x y h => (show V.evBody laws_toKeys.E laws_toKeys.con Tryz.f52 x = _ from laws_toKeys.eq x).trans (V.cfl (by kernel_rfl) h))
noncomputable abbrev laws_toHead.con : V.Con := ⟨V.A2, V.eHead, fun (x : V.D2) => laws_toHead (V.p2_0 x), [], [(true, 16)], [(true, 16)], [false, false, false, false, false, false, false, false, true, false, true, false, false, true, false, false], []⟩
noncomputable abbrev laws_toHead.E : V.Env := V.mkE V.tys [(52, laws_toKeys.con)] [] [] [] [] []
noncomputable abbrev laws_toHead.kt (x0 : THead) : V.Kt THead := V.ktOf laws_toHead.E laws_toHead.con Tryz.f18 (V.fl2 x0)
noncomputable abbrev laws_toHead.s (x0 : THead) : V.St := ⟨[(0, .v true [.val (.int .i64 x0.1), .val (.int .i64 x0.2.1), .val (.int .i64 x0.2.2.1), .val (.int .i64 x0.2.2.2.1), .val (.int .i64 x0.2.2.2.2.1), .val (.int .i64 x0.2.2.2.2.2.1), .val (.int .i64 x0.2.2.2.2.2.2.1), .val (.int .i64 x0.2.2.2.2.2.2.2.1), .val (.sl (.cons (.int .i64) .nil) x0.2.2.2.2.2.2.2.2.1), .val (.int .i64 x0.2.2.2.2.2.2.2.2.2.1), .val (.sl (.cons (.int .i64) .nil) x0.2.2.2.2.2.2.2.2.2.2.1), .val (.int .i64 x0.2.2.2.2.2.2.2.2.2.2.2.1), .val (.int .i64 x0.2.2.2.2.2.2.2.2.2.2.2.2.1), .val (.sl (.cons (.int .i64) .nil) x0.2.2.2.2.2.2.2.2.2.2.2.2.2.1), .val (.int .i64 x0.2.2.2.2.2.2.2.2.2.2.2.2.2.2.1), .val (.bool x0.2.2.2.2.2.2.2.2.2.2.2.2.2.2.2)])], []⟩
theorem laws_toHead.v0 (x0 : THead) : V.evBody laws_toHead.E laws_toHead.con Tryz.f18 (V.fl2 x0) = V.evC laws_toHead.E Tryz.f18.ntmps (V.codeOf Tryz.f18) (laws_toHead.kt x0) (laws_toHead.s x0) := by kernel_rfl
theorem laws_toHead.v (x0 : THead) : V.evC laws_toHead.E Tryz.f18.ntmps (V.codeOf Tryz.f18) (laws_toHead.kt x0) (laws_toHead.s x0) = laws_toHead x0 := by kernel_rfl
theorem laws_toHead.eq (x0 : THead) : V.evBody laws_toHead.E laws_toHead.con Tryz.f18 (V.fl2 x0) = laws_toHead x0 := (laws_toHead.v0 x0).trans (laws_toHead.v x0)
theorem laws_toHead.ok : V.Valid Tryz.prog 18 laws_toHead.con :=
  V.fo (V.tab_cons laws_toKeys.ok V.tab_nil) Tryz.func18 (by kernel_rfl) (fun x y h => (show V.evBody laws_toHead.E laws_toHead.con Tryz.f18 x = _ from laws_toHead.eq (V.p2_0 x)).trans (V.cfl (by kernel_rfl) h))
noncomputable abbrev laws_toSig.con : V.Con := ⟨(.cons (.int .i64) (.cons (.int .i64) .nil)), (.cons (.int .i64) (.cons (.int .i64) .nil)), fun (x : Int × Int) => laws_toSig x, [], [(true, 2)], [(true, 2)], [false, false], []⟩
noncomputable abbrev laws_toSig.E : V.Env := V.mkE V.tys [] [] [] [] [] []
theorem laws_toSig.eq (x0 : TSig) : V.evBody laws_toSig.E laws_toSig.con Tryz.f267 ((x0.1, x0.2) : Int × Int) = laws_toSig x0 := by kernel_rfl
theorem laws_toSig.ok : V.Valid Tryz.prog 267 laws_toSig.con :=
  V.fo V.tab_nil Tryz.func267 (by kernel_rfl) (fun x y h => (show V.evBody laws_toSig.E laws_toSig.con Tryz.f267 x = _ from laws_toSig.eq x).trans (V.cfl (by kernel_rfl) h))
noncomputable abbrev laws_toSigS.con : V.Con := ⟨(.cons (.sl (.cons (.int .i64) (.cons (.int .i64) .nil))) .nil), (.cons (.sl (.cons (.int .i64) (.cons (.int .i64) .nil))) .nil), fun (x : List TSig) => laws_toSigS x, [], [(false, 1)], [(false, 1)], [true], []⟩
noncomputable abbrev laws_toSigS.E : V.Env := V.mkE V.tys [(267, laws_toSig.con)] [(6, [0, 3, 4], [])] [] [] [] []
noncomputable abbrev laws_toSigS.kt (x0 : List TSig) : V.Kt (List TSig) := V.ktOf laws_toSigS.E laws_toSigS.con Tryz.f206 ((x0) : List TSig)
noncomputable abbrev laws_toSigS.s6 (x0 : List TSig) (v6_1 : Int) (v6_2 : List TSig) : V.St := ⟨[(0, .v false [.val (.sl (.cons (.int .i64) (.cons (.int .i64) .nil)) x0)]), (3, .v false [.ref 64000038400192]), (4, .v false [.val (.int .i64 v6_1)])], [(64000038400192, .row (.cons (.int .i64) (.cons (.int .i64) .nil)) true v6_2)]⟩
theorem laws_toSigS.r6 (x0 : List TSig) (R : V.St → Option (List TSig)) (v6_1 : Int) (v6_2 : List TSig) : V.loopF laws_toSigS.E Tryz.f206.ntmps [1, 1, 0, 1, 0] [] (V.codeOf Tryz.f206) (laws_toSigS.kt x0) R (laws_toSigS.s6 x0 v6_1 v6_2) = laws_toSigS.g6 x0 (fun v6_1 v6_2 => R (laws_toSigS.s6 x0 v6_1 v6_2)) v6_1 v6_2 := by kernel_rfl
theorem laws_toSigS.e6 (x0 : List TSig) : ∀ (n : Nat) (v6_1 : Int) (v6_2 : List TSig), V.loopN (V.loopF laws_toSigS.E Tryz.f206.ntmps [1, 1, 0, 1, 0] [] (V.codeOf Tryz.f206) (laws_toSigS.kt x0)) n (laws_toSigS.s6 x0 v6_1 v6_2) = laws_toSigS.l6 x0 n v6_1 v6_2 := by
  intro n
  induction n with
  | zero => intros; rw [V.loopN_z]; rfl
  | succ n ih =>
    intro v6_1 v6_2
    rw [V.loopN_s, laws_toSigS.r6]
    simp only [ih]
    first | exact (laws_toSigS.u6 ..).symm | rfl
theorem laws_toSigS.v (x0 : List TSig) : V.evBody laws_toSigS.E laws_toSigS.con Tryz.f206 ((x0) : List TSig) = laws_toSigS.b x0 (fun v6_1 v6_2 => V.loopN (V.loopF laws_toSigS.E Tryz.f206.ntmps [1, 1, 0, 1, 0] [] (V.codeOf Tryz.f206) (laws_toSigS.kt x0)) V.KK (laws_toSigS.s6 x0 v6_1 v6_2)) := by kernel_rfl
theorem laws_toSigS.eq (x0 : List TSig) : V.evBody laws_toSigS.E laws_toSigS.con Tryz.f206 ((x0) : List TSig) = laws_toSigS x0 := by
  rw [laws_toSigS.v]
  simp only [laws_toSigS.e6]
  rfl
theorem laws_toSigS.ok : V.Valid Tryz.prog 206 laws_toSigS.con :=
  V.fo (V.tab_cons laws_toSig.ok V.tab_nil) Tryz.func206 (by kernel_rfl) (fun x y h => (show V.evBody laws_toSigS.E laws_toSigS.con Tryz.f206 x = _ from laws_toSigS.eq x).trans (V.cfl (by kernel_rfl) h))
noncomputable abbrev laws_toSigned.con : V.Con := ⟨V.A3, V.eSigned, fun (x : V.D3) => laws_toSigned (V.p3_0 x), [], [(true, 17)], [(true, 17)], [false, false, false, false, false, false, false, false, true, false, true, false, false, true, false, false, true], []⟩
noncomputable abbrev laws_toSigned.E : V.Env := V.mkE V.tys [(18, laws_toHead.con), (206, laws_toSigS.con)] [] [] [] [] []
noncomputable abbrev laws_toSigned.kt (x0 : TSigned) : V.Kt TSigned := V.ktOf laws_toSigned.E laws_toSigned.con Tryz.f103 (V.fl3 x0)
noncomputable abbrev laws_toSigned.s (x0 : TSigned) : V.St := ⟨[(0, .v true [.val (.int .i64 x0.1), .val (.int .i64 x0.2.1), .val (.int .i64 x0.2.2.1), .val (.int .i64 x0.2.2.2.1), .val (.int .i64 x0.2.2.2.2.1), .val (.int .i64 x0.2.2.2.2.2.1), .val (.int .i64 x0.2.2.2.2.2.2.1), .val (.int .i64 x0.2.2.2.2.2.2.2.1), .val (.sl (.cons (.int .i64) .nil) x0.2.2.2.2.2.2.2.2.1), .val (.int .i64 x0.2.2.2.2.2.2.2.2.2.1), .val (.sl (.cons (.int .i64) .nil) x0.2.2.2.2.2.2.2.2.2.2.1), .val (.int .i64 x0.2.2.2.2.2.2.2.2.2.2.2.1), .val (.int .i64 x0.2.2.2.2.2.2.2.2.2.2.2.2.1), .val (.sl (.cons (.int .i64) .nil) x0.2.2.2.2.2.2.2.2.2.2.2.2.2.1), .val (.int .i64 x0.2.2.2.2.2.2.2.2.2.2.2.2.2.2.1), .val (.bool x0.2.2.2.2.2.2.2.2.2.2.2.2.2.2.2.1), .val (.sl (.cons (.int .i64) (.cons (.int .i64) .nil)) x0.2.2.2.2.2.2.2.2.2.2.2.2.2.2.2.2)])], []⟩
theorem laws_toSigned.v0 (x0 : TSigned) : V.evBody laws_toSigned.E laws_toSigned.con Tryz.f103 (V.fl3 x0) = V.evC laws_toSigned.E Tryz.f103.ntmps (V.codeOf Tryz.f103) (laws_toSigned.kt x0) (laws_toSigned.s x0) := by kernel_rfl
theorem laws_toSigned.v (x0 : TSigned) : V.evC laws_toSigned.E Tryz.f103.ntmps (V.codeOf Tryz.f103) (laws_toSigned.kt x0) (laws_toSigned.s x0) = laws_toSigned x0 := by kernel_rfl
theorem laws_toSigned.eq (x0 : TSigned) : V.evBody laws_toSigned.E laws_toSigned.con Tryz.f103 (V.fl3 x0) = laws_toSigned x0 := (laws_toSigned.v0 x0).trans (laws_toSigned.v x0)
theorem laws_toSigned.ok : V.Valid Tryz.prog 103 laws_toSigned.con :=
  V.fo (V.tab_cons laws_toHead.ok (V.tab_cons laws_toSigS.ok V.tab_nil)) Tryz.func103 (by kernel_rfl) (fun x y h => (show V.evBody laws_toSigned.E laws_toSigned.con Tryz.f103 x = _ from laws_toSigned.eq (V.p3_0 x)).trans (V.cfl (by kernel_rfl) h))
noncomputable abbrev laws_toSignedS.con : V.Con := ⟨(.cons (.sl V.eSigned) .nil), (.cons (.sl V.eSigned) .nil), fun (x : List TSigned) => laws_toSignedS x, [], [(false, 1)], [(false, 1)], [true], []⟩
noncomputable abbrev laws_toSignedS.E : V.Env := V.mkE V.tys [(103, laws_toSigned.con)] [(6, [0, 3, 4], [])] [] [] [] []
noncomputable abbrev laws_toSignedS.kt (x0 : List TSigned) : V.Kt (List TSigned) := V.ktOf laws_toSignedS.E laws_toSignedS.con Tryz.f28 ((x0) : List TSigned)
noncomputable abbrev laws_toSignedS.s6 (x0 : List TSigned) (v6_1 : Int) (v6_2 : List TSigned) : V.St := ⟨[(0, .v false [.val (.sl V.eSigned x0)]), (3, .v false [.ref 64000038400192]), (4, .v false [.val (.int .i64 v6_1)])], [(64000038400192, .row V.eSigned true v6_2)]⟩
theorem laws_toSignedS.r6 (x0 : List TSigned) (R : V.St → Option (List TSigned)) (v6_1 : Int) (v6_2 : List TSigned) : V.loopF laws_toSignedS.E Tryz.f28.ntmps [1, 1, 0, 1, 0] [] (V.codeOf Tryz.f28) (laws_toSignedS.kt x0) R (laws_toSignedS.s6 x0 v6_1 v6_2) = laws_toSignedS.g6 x0 (fun v6_1 v6_2 => R (laws_toSignedS.s6 x0 v6_1 v6_2)) v6_1 v6_2 := by kernel_rfl
theorem laws_toSignedS.e6 (x0 : List TSigned) : ∀ (n : Nat) (v6_1 : Int) (v6_2 : List TSigned), V.loopN (V.loopF laws_toSignedS.E Tryz.f28.ntmps [1, 1, 0, 1, 0] [] (V.codeOf Tryz.f28) (laws_toSignedS.kt x0)) n (laws_toSignedS.s6 x0 v6_1 v6_2) = laws_toSignedS.l6 x0 n v6_1 v6_2 := by
  intro n
  induction n with
  | zero => intros; rw [V.loopN_z]; rfl
  | succ n ih =>
    intro v6_1 v6_2
    rw [V.loopN_s, laws_toSignedS.r6]
    simp only [ih]
    first | exact (laws_toSignedS.u6 ..).symm | rfl
theorem laws_toSignedS.v (x0 : List TSigned) : V.evBody laws_toSignedS.E laws_toSignedS.con Tryz.f28 ((x0) : List TSigned) = laws_toSignedS.b x0 (fun v6_1 v6_2 => V.loopN (V.loopF laws_toSignedS.E Tryz.f28.ntmps [1, 1, 0, 1, 0] [] (V.codeOf Tryz.f28) (laws_toSignedS.kt x0)) V.KK (laws_toSignedS.s6 x0 v6_1 v6_2)) := by kernel_rfl
theorem laws_toSignedS.eq (x0 : List TSigned) : V.evBody laws_toSignedS.E laws_toSignedS.con Tryz.f28 ((x0) : List TSigned) = laws_toSignedS x0 := by
  rw [laws_toSignedS.v]
  simp only [laws_toSignedS.e6]
  rfl
theorem laws_toSignedS.ok : V.Valid Tryz.prog 28 laws_toSignedS.con :=
  V.fo (V.tab_cons laws_toSigned.ok V.tab_nil) Tryz.func28 (by kernel_rfl) (fun x y h => (show V.evBody laws_toSignedS.E laws_toSignedS.con Tryz.f28 x = _ from laws_toSignedS.eq x).trans (V.cfl (by kernel_rfl) h))
noncomputable abbrev spec_l19Copy.con : V.Con := ⟨(.cons (.int .i64) (.cons (.sl (.cons (.int .i64) (.cons (.int .i64) (.cons (.int .i64) .nil)))) .nil)), (.cons (.int .i64) (.cons (.sl (.cons (.int .i64) (.cons (.int .i64) (.cons (.int .i64) .nil)))) .nil)), fun (x : Int × List TMark) => spec_l19Copy x, [], [(true, 2)], [(true, 2)], [false, true], []⟩
noncomputable abbrev spec_l19Copy.E : V.Env := V.mkE V.tys [] [] [(1, 6)] [] [] []
theorem spec_l19Copy.eq (x0 : TWitness) : V.evBody spec_l19Copy.E spec_l19Copy.con Tryz.f113 ((x0.1, x0.2) : Int × List TMark) = spec_l19Copy x0 := by kernel_rfl
theorem spec_l19Copy.ok : V.Valid Tryz.prog 113 spec_l19Copy.con :=
  V.fo V.tab_nil Tryz.func113 (by kernel_rfl) (fun x y h => (show V.evBody spec_l19Copy.E spec_l19Copy.con Tryz.f113 x = _ from spec_l19Copy.eq x).trans (V.cfl (by kernel_rfl) h))
noncomputable abbrev spec_l1In.con : V.Con := ⟨(.cons (.int .i64) (.cons (.int .i64) (.cons (.int .i64) .nil))), (.cons .bool .nil), fun (x : Int × Int × Int) => spec_l1In x.1 x.2.1 x.2.2, [], [(false, 1), (false, 1), (false, 1)], [(false, 1)], [false], []⟩
noncomputable abbrev spec_l1In.E : V.Env := V.mkE V.tys [] [] [] [] [] []
theorem spec_l1In.eq (x0 : Int) (x1 : Int) (x2 : Int) : V.evBody spec_l1In.E spec_l1In.con Tryz.f147 ((x0, x1, x2) : Int × Int × Int) = spec_l1In x0 x1 x2 := by kernel_rfl
theorem spec_l1In.ok : V.Valid Tryz.prog 147 spec_l1In.con :=
  V.fo V.tab_nil Tryz.func147 (by kernel_rfl) (fun x y h => (show V.evBody spec_l1In.E spec_l1In.con Tryz.f147 x = _ from spec_l1In.eq x.1 x.2.1 x.2.2).trans (V.cfl (by kernel_rfl) h))
noncomputable abbrev spec_l19Find.con : V.Con := ⟨(.cons (.int .i64) (.cons (.sl (.cons (.int .i64) (.cons (.int .i64) (.cons (.int .i64) .nil)))) (.cons (.int .i64) (.cons (.int .i64) .nil)))), (.cons (.int .i64) .nil), fun (x : Int × List TMark × Int × Int) => spec_l19Find (x.1, x.2.1) x.2.2.1 x.2.2.2, [], [(true, 2), (false, 1), (false, 1)], [(false, 1)], [false], []⟩
noncomputable abbrev spec_l19Find.E : V.Env := V.mkE V.tys [] [(4, [1, 2, 3, 7], [])] [] [] [] []
noncomputable abbrev spec_l19Find.kt (x0 : TWitness) (x1 : Int) (x2 : Int) : V.Kt Int := V.ktOf spec_l19Find.E spec_l19Find.con Tryz.f117 ((x0.1, x0.2, x1, x2) : Int × List TMark × Int × Int)
noncomputable abbrev spec_l19Find.s4 (x0 : TWitness) (x1 : Int) (x2 : Int) (v4_2 : Int) : V.St := ⟨[(1, .v false [.val (.int .i64 x1)]), (2, .v false [.val (.int .i64 x2)]), (3, .v false [.ptr 64000 0]), (7, .v false [.val (.int .i64 v4_2)])], [(64000, .box [.val (.int .i64 x0.1), .val (.sl (.cons (.int .i64) (.cons (.int .i64) (.cons (.int .i64) .nil))) x0.2)])]⟩
theorem spec_l19Find.r4 (x0 : TWitness) (x1 : Int) (x2 : Int) (R : V.St → Option Int) (v4_2 : Int) : V.loopF spec_l19Find.E Tryz.f117.ntmps [1, 0, 1, 0] [] (V.codeOf Tryz.f117) (spec_l19Find.kt x0 x1 x2) R (spec_l19Find.s4 x0 x1 x2 v4_2) = spec_l19Find.g4 x0 x1 x2 (fun v4_2 => R (spec_l19Find.s4 x0 x1 x2 v4_2)) v4_2 := by kernel_rfl
theorem spec_l19Find.e4 (x0 : TWitness) (x1 : Int) (x2 : Int) : ∀ (n : Nat) (v4_2 : Int), V.loopN (V.loopF spec_l19Find.E Tryz.f117.ntmps [1, 0, 1, 0] [] (V.codeOf Tryz.f117) (spec_l19Find.kt x0 x1 x2)) n (spec_l19Find.s4 x0 x1 x2 v4_2) = spec_l19Find.l4 x0 x1 x2 n v4_2 := by
  intro n
  induction n with
  | zero => intros; rw [V.loopN_z]; rfl
  | succ n ih =>
    intro v4_2
    rw [V.loopN_s, spec_l19Find.r4]
    simp only [ih]
    first | exact (spec_l19Find.u4 ..).symm | rfl
theorem spec_l19Find.v (x0 : TWitness) (x1 : Int) (x2 : Int) : V.evBody spec_l19Find.E spec_l19Find.con Tryz.f117 ((x0.1, x0.2, x1, x2) : Int × List TMark × Int × Int) = spec_l19Find.b x0 x1 x2 (fun v4_2 => V.loopN (V.loopF spec_l19Find.E Tryz.f117.ntmps [1, 0, 1, 0] [] (V.codeOf Tryz.f117) (spec_l19Find.kt x0 x1 x2)) V.KK (spec_l19Find.s4 x0 x1 x2 v4_2)) := by kernel_rfl
theorem spec_l19Find.eq (x0 : TWitness) (x1 : Int) (x2 : Int) : V.evBody spec_l19Find.E spec_l19Find.con Tryz.f117 ((x0.1, x0.2, x1, x2) : Int × List TMark × Int × Int) = spec_l19Find x0 x1 x2 := by
  rw [spec_l19Find.v]
  simp only [spec_l19Find.e4]
  rfl
theorem spec_l19Find.ok : V.Valid Tryz.prog 117 spec_l19Find.con :=
  V.fo V.tab_nil Tryz.func117 (by kernel_rfl) (fun x y h => (show V.evBody spec_l19Find.E spec_l19Find.con Tryz.f117 x = _ from spec_l19Find.eq (x.1, x.2.1) x.2.2.1 x.2.2.2).trans (V.cfl (by kernel_rfl) h))
noncomputable abbrev spec_IsWitness.con : V.Con := ⟨(.cons (.int .i64) (.cons (.sl (.cons (.int .i64) (.cons (.int .i64) (.cons (.int .i64) .nil)))) .nil)), (.cons .bool .nil), fun (x : Int × List TMark) => spec_IsWitness x, [], [(true, 2)], [(false, 1)], [false], []⟩
noncomputable abbrev spec_IsWitness.E : V.Env := V.mkE V.tys [(117, spec_l19Find.con), (147, spec_l1In.con)] [(4, [1, 3], [])] [] [] [] []
noncomputable abbrev spec_IsWitness.kt (x0 : TWitness) : V.Kt Bool := V.ktOf spec_IsWitness.E spec_IsWitness.con Tryz.f114 ((x0.1, x0.2) : Int × List TMark)
noncomputable abbrev spec_IsWitness.s4 (x0 : TWitness) (v4_0 : Int) : V.St := ⟨[(1, .v false [.ptr 64000 0]), (3, .v false [.val (.int .i64 v4_0)])], [(64000, .box [.val (.int .i64 x0.1), .val (.sl (.cons (.int .i64) (.cons (.int .i64) (.cons (.int .i64) .nil))) x0.2)])]⟩
theorem spec_IsWitness.r4 (x0 : TWitness) (R : V.St → Option Bool) (v4_0 : Int) : V.loopF spec_IsWitness.E Tryz.f114.ntmps [1, 0, 1, 0] [] (V.codeOf Tryz.f114) (spec_IsWitness.kt x0) R (spec_IsWitness.s4 x0 v4_0) = spec_IsWitness.g4 x0 (fun v4_0 => R (spec_IsWitness.s4 x0 v4_0)) v4_0 := by kernel_rfl
theorem spec_IsWitness.e4 (x0 : TWitness) : ∀ (n : Nat) (v4_0 : Int), V.loopN (V.loopF spec_IsWitness.E Tryz.f114.ntmps [1, 0, 1, 0] [] (V.codeOf Tryz.f114) (spec_IsWitness.kt x0)) n (spec_IsWitness.s4 x0 v4_0) = spec_IsWitness.l4 x0 n v4_0 := by
  intro n
  induction n with
  | zero => intros; rw [V.loopN_z]; rfl
  | succ n ih =>
    intro v4_0
    rw [V.loopN_s, spec_IsWitness.r4]
    simp only [ih]
    first | exact (spec_IsWitness.u4 ..).symm | rfl
theorem spec_IsWitness.v (x0 : TWitness) : V.evBody spec_IsWitness.E spec_IsWitness.con Tryz.f114 ((x0.1, x0.2) : Int × List TMark) = spec_IsWitness.b x0 (fun v4_0 => V.loopN (V.loopF spec_IsWitness.E Tryz.f114.ntmps [1, 0, 1, 0] [] (V.codeOf Tryz.f114) (spec_IsWitness.kt x0)) V.KK (spec_IsWitness.s4 x0 v4_0)) := by kernel_rfl
theorem spec_IsWitness.eq (x0 : TWitness) : V.evBody spec_IsWitness.E spec_IsWitness.con Tryz.f114 ((x0.1, x0.2) : Int × List TMark) = spec_IsWitness x0 := by
  rw [spec_IsWitness.v]
  simp only [spec_IsWitness.e4]
  rfl
theorem spec_IsWitness.ok : V.Valid Tryz.prog 114 spec_IsWitness.con :=
  V.fo (V.tab_cons spec_l19Find.ok (V.tab_cons spec_l1In.ok V.tab_nil)) Tryz.func114 (by kernel_rfl) (fun x y h => (show V.evBody spec_IsWitness.E spec_IsWitness.con Tryz.f114 x = _ from spec_IsWitness.eq x).trans (V.cfl (by kernel_rfl) h))
noncomputable abbrev spec_IsKeys.con : V.Con := ⟨(.cons (.sl (.cons (.int .i64) .nil)) (.cons (.int .i64) .nil)), (.cons .bool .nil), fun (x : List Int × Int) => spec_IsKeys x, [], [(true, 2)], [(false, 1)], [false], []⟩
noncomputable abbrev spec_IsKeys.E : V.Env := V.mkE V.tys [(147, spec_l1In.con)] [(4, [1, 3], [])] [(4, 22)] [] [] []
noncomputable abbrev spec_IsKeys.kt (x0 : TKeys) : V.Kt Bool := V.ktOf spec_IsKeys.E spec_IsKeys.con Tryz.f245 ((x0.1, x0.2) : List Int × Int)
noncomputable abbrev spec_IsKeys.s4 (x0 : TKeys) (v4_0 : Int) : V.St := ⟨[(1, .v false [.ptr 64000 0]), (3, .v false [.val (.int .i64 v4_0)])], [(64000, .box [.val (.sl (.cons (.int .i64) .nil) x0.1), .val (.int .i64 x0.2)])]⟩
theorem spec_IsKeys.r4 (x0 : TKeys) (R : V.St → Option Bool) (v4_0 : Int) : V.loopF spec_IsKeys.E Tryz.f245.ntmps [1, 0, 1, 0] [] (V.codeOf Tryz.f245) (spec_IsKeys.kt x0) R (spec_IsKeys.s4 x0 v4_0) = spec_IsKeys.g4 x0 (fun v4_0 => R (spec_IsKeys.s4 x0 v4_0)) v4_0 := by kernel_rfl
theorem spec_IsKeys.e4 (x0 : TKeys) : ∀ (n : Nat) (v4_0 : Int), V.loopN (V.loopF spec_IsKeys.E Tryz.f245.ntmps [1, 0, 1, 0] [] (V.codeOf Tryz.f245) (spec_IsKeys.kt x0)) n (spec_IsKeys.s4 x0 v4_0) = spec_IsKeys.l4 x0 n v4_0 := by
  intro n
  induction n with
  | zero => intros; rw [V.loopN_z]; rfl
  | succ n ih =>
    intro v4_0
    rw [V.loopN_s, spec_IsKeys.r4]
    simp only [ih]
    first | exact (spec_IsKeys.u4 ..).symm | rfl
theorem spec_IsKeys.v (x0 : TKeys) : V.evBody spec_IsKeys.E spec_IsKeys.con Tryz.f245 ((x0.1, x0.2) : List Int × Int) = spec_IsKeys.b x0 (fun v4_0 => V.loopN (V.loopF spec_IsKeys.E Tryz.f245.ntmps [1, 0, 1, 0] [] (V.codeOf Tryz.f245) (spec_IsKeys.kt x0)) V.KK (spec_IsKeys.s4 x0 v4_0)) := by kernel_rfl
theorem spec_IsKeys.eq (x0 : TKeys) : V.evBody spec_IsKeys.E spec_IsKeys.con Tryz.f245 ((x0.1, x0.2) : List Int × Int) = spec_IsKeys x0 := by
  rw [spec_IsKeys.v]
  simp only [spec_IsKeys.e4]
  rfl
theorem spec_IsKeys.ok : V.Valid Tryz.prog 245 spec_IsKeys.con :=
  V.fo (V.tab_cons spec_l1In.ok V.tab_nil) Tryz.func245 (by kernel_rfl) (fun x y h => (show V.evBody spec_IsKeys.E spec_IsKeys.con Tryz.f245 x = _ from spec_IsKeys.eq x).trans (V.cfl (by kernel_rfl) h))
noncomputable abbrev spec_NoKeys.con : V.Con := ⟨(.cons (.sl (.cons (.int .i64) .nil)) (.cons (.int .i64) .nil)), (.cons .bool .nil), fun (x : List Int × Int) => spec_NoKeys x, [], [(true, 2)], [(false, 1)], [false], []⟩
noncomputable abbrev spec_NoKeys.E : V.Env := V.mkE V.tys [] [] [] [] [] []
theorem spec_NoKeys.eq (x0 : TKeys) : V.evBody spec_NoKeys.E spec_NoKeys.con Tryz.f246 ((x0.1, x0.2) : List Int × Int) = spec_NoKeys x0 := by kernel_rfl
theorem spec_NoKeys.ok : V.Valid Tryz.prog 246 spec_NoKeys.con :=
  V.fo V.tab_nil Tryz.func246 (by kernel_rfl) (fun x y h => (show V.evBody spec_NoKeys.E spec_NoKeys.con Tryz.f246 x = _ from spec_NoKeys.eq x).trans (V.cfl (by kernel_rfl) h))
noncomputable abbrev spec_IsHead.con : V.Con := ⟨V.A2, (.cons .bool .nil), fun (x : V.D2) => spec_IsHead (V.p2_0 x), [], [(true, 16)], [(false, 1)], [false], []⟩
noncomputable abbrev spec_IsHead.E : V.Env := V.mkE V.tys [(147, spec_l1In.con), (245, spec_IsKeys.con), (246, spec_NoKeys.con)] [(7, [1], []), (11, [1], []), (21, [1], [])] [] [] [] []
noncomputable abbrev spec_IsHead.kt (x0 : THead) : V.Kt Bool := V.ktOf spec_IsHead.E spec_IsHead.con Tryz.f183 (V.fl2 x0)
noncomputable abbrev spec_IsHead.s21 (x0 : THead) : V.St := ⟨[(1, .v false [.ptr 64000 0])], [(64000, .box [.val (.int .i64 x0.1), .val (.int .i64 x0.2.1), .val (.int .i64 x0.2.2.1), .val (.int .i64 x0.2.2.2.1), .val (.int .i64 x0.2.2.2.2.1), .val (.int .i64 x0.2.2.2.2.2.1), .val (.int .i64 x0.2.2.2.2.2.2.1), .val (.int .i64 x0.2.2.2.2.2.2.2.1), .val (.sl (.cons (.int .i64) .nil) x0.2.2.2.2.2.2.2.2.1), .val (.int .i64 x0.2.2.2.2.2.2.2.2.2.1), .val (.sl (.cons (.int .i64) .nil) x0.2.2.2.2.2.2.2.2.2.2.1), .val (.int .i64 x0.2.2.2.2.2.2.2.2.2.2.2.1), .val (.int .i64 x0.2.2.2.2.2.2.2.2.2.2.2.2.1), .val (.sl (.cons (.int .i64) .nil) x0.2.2.2.2.2.2.2.2.2.2.2.2.2.1), .val (.int .i64 x0.2.2.2.2.2.2.2.2.2.2.2.2.2.2.1), .val (.bool x0.2.2.2.2.2.2.2.2.2.2.2.2.2.2.2)])]⟩
noncomputable abbrev spec_IsHead.s11 (x0 : THead) : V.St := ⟨[(1, .v false [.ptr 64000 0])], [(64000, .box [.val (.int .i64 x0.1), .val (.int .i64 x0.2.1), .val (.int .i64 x0.2.2.1), .val (.int .i64 x0.2.2.2.1), .val (.int .i64 x0.2.2.2.2.1), .val (.int .i64 x0.2.2.2.2.2.1), .val (.int .i64 x0.2.2.2.2.2.2.1), .val (.int .i64 x0.2.2.2.2.2.2.2.1), .val (.sl (.cons (.int .i64) .nil) x0.2.2.2.2.2.2.2.2.1), .val (.int .i64 x0.2.2.2.2.2.2.2.2.2.1), .val (.sl (.cons (.int .i64) .nil) x0.2.2.2.2.2.2.2.2.2.2.1), .val (.int .i64 x0.2.2.2.2.2.2.2.2.2.2.2.1), .val (.int .i64 x0.2.2.2.2.2.2.2.2.2.2.2.2.1), .val (.sl (.cons (.int .i64) .nil) x0.2.2.2.2.2.2.2.2.2.2.2.2.2.1), .val (.int .i64 x0.2.2.2.2.2.2.2.2.2.2.2.2.2.2.1), .val (.bool x0.2.2.2.2.2.2.2.2.2.2.2.2.2.2.2)])]⟩
noncomputable abbrev spec_IsHead.s7 (x0 : THead) : V.St := ⟨[(1, .v false [.ptr 64000 0])], [(64000, .box [.val (.int .i64 x0.1), .val (.int .i64 x0.2.1), .val (.int .i64 x0.2.2.1), .val (.int .i64 x0.2.2.2.1), .val (.int .i64 x0.2.2.2.2.1), .val (.int .i64 x0.2.2.2.2.2.1), .val (.int .i64 x0.2.2.2.2.2.2.1), .val (.int .i64 x0.2.2.2.2.2.2.2.1), .val (.sl (.cons (.int .i64) .nil) x0.2.2.2.2.2.2.2.2.1), .val (.int .i64 x0.2.2.2.2.2.2.2.2.2.1), .val (.sl (.cons (.int .i64) .nil) x0.2.2.2.2.2.2.2.2.2.2.1), .val (.int .i64 x0.2.2.2.2.2.2.2.2.2.2.2.1), .val (.int .i64 x0.2.2.2.2.2.2.2.2.2.2.2.2.1), .val (.sl (.cons (.int .i64) .nil) x0.2.2.2.2.2.2.2.2.2.2.2.2.2.1), .val (.int .i64 x0.2.2.2.2.2.2.2.2.2.2.2.2.2.2.1), .val (.bool x0.2.2.2.2.2.2.2.2.2.2.2.2.2.2.2)])]⟩
theorem spec_IsHead.r21 (x0 : THead) : V.normK 21 ([1], []) (V.joinF spec_IsHead.E Tryz.f183.ntmps [1, 1, 1] [] (V.codeOf Tryz.f183) (spec_IsHead.kt x0)) (spec_IsHead.s21 x0) = spec_IsHead.g21 x0 := by kernel_rfl
theorem spec_IsHead.e21 (x0 : THead) : V.normK 21 ([1], []) (V.joinF spec_IsHead.E Tryz.f183.ntmps [1, 1, 1] [] (V.codeOf Tryz.f183) (spec_IsHead.kt x0)) (spec_IsHead.s21 x0) = spec_IsHead.l21 x0 := by
  rw [spec_IsHead.r21]
  rfl
theorem spec_IsHead.r11 (x0 : THead) : V.normK 11 ([1], []) (V.joinF spec_IsHead.E Tryz.f183.ntmps [1, 1] [] (V.codeOf Tryz.f183) (spec_IsHead.kt x0)) (spec_IsHead.s11 x0) = spec_IsHead.g11 x0 (V.normK 21 ([1], []) (V.joinF spec_IsHead.E Tryz.f183.ntmps [1, 1, 1] [] (V.codeOf Tryz.f183) (spec_IsHead.kt x0)) (spec_IsHead.s21 x0)) := by kernel_rfl
theorem spec_IsHead.e11 (x0 : THead) : V.normK 11 ([1], []) (V.joinF spec_IsHead.E Tryz.f183.ntmps [1, 1] [] (V.codeOf Tryz.f183) (spec_IsHead.kt x0)) (spec_IsHead.s11 x0) = spec_IsHead.l11 x0 := by
  rw [spec_IsHead.r11]
  simp only [spec_IsHead.e21]
  rfl
theorem spec_IsHead.r7 (x0 : THead) : V.normK 7 ([1], []) (V.joinF spec_IsHead.E Tryz.f183.ntmps [1] [] (V.codeOf Tryz.f183) (spec_IsHead.kt x0)) (spec_IsHead.s7 x0) = spec_IsHead.g7 x0 (V.normK 11 ([1], []) (V.joinF spec_IsHead.E Tryz.f183.ntmps [1, 1] [] (V.codeOf Tryz.f183) (spec_IsHead.kt x0)) (spec_IsHead.s11 x0)) := by kernel_rfl
theorem spec_IsHead.e7 (x0 : THead) : V.normK 7 ([1], []) (V.joinF spec_IsHead.E Tryz.f183.ntmps [1] [] (V.codeOf Tryz.f183) (spec_IsHead.kt x0)) (spec_IsHead.s7 x0) = spec_IsHead.l7 x0 := by
  rw [spec_IsHead.r7]
  simp only [spec_IsHead.e11]
  rfl
noncomputable abbrev spec_IsHead.s (x0 : THead) : V.St := ⟨[(0, .v true [.val (.int .i64 x0.1), .val (.int .i64 x0.2.1), .val (.int .i64 x0.2.2.1), .val (.int .i64 x0.2.2.2.1), .val (.int .i64 x0.2.2.2.2.1), .val (.int .i64 x0.2.2.2.2.2.1), .val (.int .i64 x0.2.2.2.2.2.2.1), .val (.int .i64 x0.2.2.2.2.2.2.2.1), .val (.sl (.cons (.int .i64) .nil) x0.2.2.2.2.2.2.2.2.1), .val (.int .i64 x0.2.2.2.2.2.2.2.2.2.1), .val (.sl (.cons (.int .i64) .nil) x0.2.2.2.2.2.2.2.2.2.2.1), .val (.int .i64 x0.2.2.2.2.2.2.2.2.2.2.2.1), .val (.int .i64 x0.2.2.2.2.2.2.2.2.2.2.2.2.1), .val (.sl (.cons (.int .i64) .nil) x0.2.2.2.2.2.2.2.2.2.2.2.2.2.1), .val (.int .i64 x0.2.2.2.2.2.2.2.2.2.2.2.2.2.2.1), .val (.bool x0.2.2.2.2.2.2.2.2.2.2.2.2.2.2.2)])], []⟩
theorem spec_IsHead.v0 (x0 : THead) : V.evBody spec_IsHead.E spec_IsHead.con Tryz.f183 (V.fl2 x0) = V.evC spec_IsHead.E Tryz.f183.ntmps (V.codeOf Tryz.f183) (spec_IsHead.kt x0) (spec_IsHead.s x0) := by kernel_rfl
theorem spec_IsHead.v (x0 : THead) : V.evC spec_IsHead.E Tryz.f183.ntmps (V.codeOf Tryz.f183) (spec_IsHead.kt x0) (spec_IsHead.s x0) = spec_IsHead.b x0 (V.normK 7 ([1], []) (V.joinF spec_IsHead.E Tryz.f183.ntmps [1] [] (V.codeOf Tryz.f183) (spec_IsHead.kt x0)) (spec_IsHead.s7 x0)) := by kernel_rfl
theorem spec_IsHead.eq (x0 : THead) : V.evBody spec_IsHead.E spec_IsHead.con Tryz.f183 (V.fl2 x0) = spec_IsHead x0 := by
  rw [spec_IsHead.v0, spec_IsHead.v]
  simp only [spec_IsHead.e7]
  rfl
theorem spec_IsHead.ok : V.Valid Tryz.prog 183 spec_IsHead.con :=
  V.fo (V.tab_cons spec_l1In.ok (V.tab_cons spec_IsKeys.ok (V.tab_cons spec_NoKeys.ok V.tab_nil))) Tryz.func183 (by kernel_rfl) (fun x y h => (show V.evBody spec_IsHead.E spec_IsHead.con Tryz.f183 x = _ from spec_IsHead.eq (V.p2_0 x)).trans (V.cfl (by kernel_rfl) h))
noncomputable abbrev spec_KeysInts.con : V.Con := ⟨(.cons (.sl (.cons (.int .i64) .nil)) (.cons (.int .i64) .nil)), (.cons (.sl (.cons (.int .i64) .nil)) .nil), fun (x : List Int × Int) => spec_KeysInts x, [], [(true, 2)], [(false, 1)], [true], []⟩
noncomputable abbrev spec_KeysInts.E : V.Env := V.mkE V.tys [] [] [] [] [] []
theorem spec_KeysInts.eq (x0 : TKeys) : V.evBody spec_KeysInts.E spec_KeysInts.con Tryz.f266 ((x0.1, x0.2) : List Int × Int) = spec_KeysInts x0 := by kernel_rfl
theorem spec_KeysInts.ok : V.Valid Tryz.prog 266 spec_KeysInts.con :=
  V.fo V.tab_nil Tryz.func266 (by kernel_rfl) (fun x y h => (show V.evBody spec_KeysInts.E spec_KeysInts.con Tryz.f266 x = _ from spec_KeysInts.eq x).trans (V.cfl (by kernel_rfl) h))
noncomputable abbrev spec_Mod.con : V.Con := ⟨(.cons (.int .i64) (.cons (.int .i64) .nil)), (.cons (.int .i64) .nil), fun (x : Int × Int) => spec_Mod x.1 x.2, [], [(false, 1), (false, 1)], [(false, 1)], [false], []⟩
noncomputable abbrev spec_Mod.E : V.Env := V.mkE V.tys [(147, spec_l1In.con)] [] [] [] [] []
theorem spec_Mod.eq (x0 : Int) (x1 : Int) : V.evBody spec_Mod.E spec_Mod.con Tryz.f292 ((x0, x1) : Int × Int) = spec_Mod x0 x1 := by kernel_rfl
theorem spec_Mod.ok : V.Valid Tryz.prog 292 spec_Mod.con :=
  V.fo (V.tab_cons spec_l1In.ok V.tab_nil) Tryz.func292 (by kernel_rfl) (fun x y h => (show V.evBody spec_Mod.E spec_Mod.con Tryz.f292 x = _ from spec_Mod.eq x.1 x.2).trans (V.cfl (by kernel_rfl) h))
noncomputable abbrev spec_Hash.con : V.Con := ⟨(.cons (.sl (.cons (.int .i64) .nil)) .nil), (.cons (.int .i64) .nil), fun (x : List Int) => spec_Hash x, [], [(false, 1)], [(false, 1)], [false], []⟩
noncomputable abbrev spec_Hash.E : V.Env := V.mkE V.tys [(292, spec_Mod.con)] [(6, [0, 3, 4], [])] [] [] [] []
noncomputable abbrev spec_Hash.kt (x0 : List Int) : V.Kt Int := V.ktOf spec_Hash.E spec_Hash.con Tryz.f247 ((x0) : List Int)
noncomputable abbrev spec_Hash.s6 (x0 : List Int) (v6_1 : Int) (v6_2 : Int) : V.St := ⟨[(0, .v false [.val (.sl (.cons (.int .i64) .nil) x0)]), (3, .v false [.val (.int .i64 v6_1)]), (4, .v false [.val (.int .i64 v6_2)])], []⟩
theorem spec_Hash.r6 (x0 : List Int) (R : V.St → Option Int) (v6_1 : Int) (v6_2 : Int) : V.loopF spec_Hash.E Tryz.f247.ntmps [1, 1, 0, 1, 0] [] (V.codeOf Tryz.f247) (spec_Hash.kt x0) R (spec_Hash.s6 x0 v6_1 v6_2) = spec_Hash.g6 x0 (fun v6_1 v6_2 => R (spec_Hash.s6 x0 v6_1 v6_2)) v6_1 v6_2 := by kernel_rfl
theorem spec_Hash.e6 (x0 : List Int) : ∀ (n : Nat) (v6_1 : Int) (v6_2 : Int), V.loopN (V.loopF spec_Hash.E Tryz.f247.ntmps [1, 1, 0, 1, 0] [] (V.codeOf Tryz.f247) (spec_Hash.kt x0)) n (spec_Hash.s6 x0 v6_1 v6_2) = spec_Hash.l6 x0 n v6_1 v6_2 := by
  intro n
  induction n with
  | zero => intros; rw [V.loopN_z]; rfl
  | succ n ih =>
    intro v6_1 v6_2
    rw [V.loopN_s, spec_Hash.r6]
    simp only [ih]
    first | exact (spec_Hash.u6 ..).symm | rfl
theorem spec_Hash.v (x0 : List Int) : V.evBody spec_Hash.E spec_Hash.con Tryz.f247 ((x0) : List Int) = spec_Hash.b x0 (fun v6_1 v6_2 => V.loopN (V.loopF spec_Hash.E Tryz.f247.ntmps [1, 1, 0, 1, 0] [] (V.codeOf Tryz.f247) (spec_Hash.kt x0)) V.KK (spec_Hash.s6 x0 v6_1 v6_2)) := by kernel_rfl
theorem spec_Hash.eq (x0 : List Int) : V.evBody spec_Hash.E spec_Hash.con Tryz.f247 ((x0) : List Int) = spec_Hash x0 := by
  rw [spec_Hash.v]
  simp only [spec_Hash.e6]
  rfl
theorem spec_Hash.ok : V.Valid Tryz.prog 247 spec_Hash.con :=
  V.fo (V.tab_cons spec_Mod.ok V.tab_nil) Tryz.func247 (by kernel_rfl) (fun x y h => (show V.evBody spec_Hash.E spec_Hash.con Tryz.f247 x = _ from spec_Hash.eq x).trans (V.cfl (by kernel_rfl) h))
noncomputable abbrev spec_ZoneOf.con : V.Con := ⟨(.cons (.sl (.cons (.int .i64) .nil)) (.cons (.int .i64) (.cons (.int .i64) .nil))), (.cons (.int .i64) .nil), fun (x : List Int × Int × Int) => spec_ZoneOf (x.1, x.2.1) x.2.2, [], [(true, 2), (false, 1)], [(false, 1)], [false], []⟩
noncomputable abbrev spec_ZoneOf.E : V.Env := V.mkE V.tys [(247, spec_Hash.con), (266, spec_KeysInts.con)] [] [] [] [] []
theorem spec_ZoneOf.eq (x0 : TKeys) (x1 : Int) : V.evBody spec_ZoneOf.E spec_ZoneOf.con Tryz.f224 ((x0.1, x0.2, x1) : List Int × Int × Int) = spec_ZoneOf x0 x1 := by kernel_rfl
theorem spec_ZoneOf.ok : V.Valid Tryz.prog 224 spec_ZoneOf.con :=
  V.fo (V.tab_cons spec_Hash.ok (V.tab_cons spec_KeysInts.ok V.tab_nil)) Tryz.func224 (by kernel_rfl) (fun x y h => (show V.evBody spec_ZoneOf.E spec_ZoneOf.con Tryz.f224 x = _ from spec_ZoneOf.eq (x.1, x.2.1) x.2.2).trans (V.cfl (by kernel_rfl) h))
noncomputable abbrev spec_HeadInts.con : V.Con := ⟨V.A2, (.cons (.sl (.cons (.int .i64) .nil)) .nil), fun (x : V.D2) => spec_HeadInts (V.p2_0 x), [], [(true, 16)], [(false, 1)], [true], []⟩
noncomputable abbrev spec_HeadInts.E : V.Env := V.mkE V.tys [(266, spec_KeysInts.con)] [] [] [] [] []
noncomputable abbrev spec_HeadInts.kt (x0 : THead) : V.Kt (List Int) := V.ktOf spec_HeadInts.E spec_HeadInts.con Tryz.f205 (V.fl2 x0)
noncomputable abbrev spec_HeadInts.s (x0 : THead) : V.St := ⟨[(0, .v true [.val (.int .i64 x0.1), .val (.int .i64 x0.2.1), .val (.int .i64 x0.2.2.1), .val (.int .i64 x0.2.2.2.1), .val (.int .i64 x0.2.2.2.2.1), .val (.int .i64 x0.2.2.2.2.2.1), .val (.int .i64 x0.2.2.2.2.2.2.1), .val (.int .i64 x0.2.2.2.2.2.2.2.1), .val (.sl (.cons (.int .i64) .nil) x0.2.2.2.2.2.2.2.2.1), .val (.int .i64 x0.2.2.2.2.2.2.2.2.2.1), .val (.sl (.cons (.int .i64) .nil) x0.2.2.2.2.2.2.2.2.2.2.1), .val (.int .i64 x0.2.2.2.2.2.2.2.2.2.2.2.1), .val (.int .i64 x0.2.2.2.2.2.2.2.2.2.2.2.2.1), .val (.sl (.cons (.int .i64) .nil) x0.2.2.2.2.2.2.2.2.2.2.2.2.2.1), .val (.int .i64 x0.2.2.2.2.2.2.2.2.2.2.2.2.2.2.1), .val (.bool x0.2.2.2.2.2.2.2.2.2.2.2.2.2.2.2)])], []⟩
theorem spec_HeadInts.v0 (x0 : THead) : V.evBody spec_HeadInts.E spec_HeadInts.con Tryz.f205 (V.fl2 x0) = V.evC spec_HeadInts.E Tryz.f205.ntmps (V.codeOf Tryz.f205) (spec_HeadInts.kt x0) (spec_HeadInts.s x0) := by kernel_rfl
theorem spec_HeadInts.v (x0 : THead) : V.evC spec_HeadInts.E Tryz.f205.ntmps (V.codeOf Tryz.f205) (spec_HeadInts.kt x0) (spec_HeadInts.s x0) = spec_HeadInts x0 := by kernel_rfl
theorem spec_HeadInts.eq (x0 : THead) : V.evBody spec_HeadInts.E spec_HeadInts.con Tryz.f205 (V.fl2 x0) = spec_HeadInts x0 := (spec_HeadInts.v0 x0).trans (spec_HeadInts.v x0)
theorem spec_HeadInts.ok : V.Valid Tryz.prog 205 spec_HeadInts.con :=
  V.fo (V.tab_cons spec_KeysInts.ok V.tab_nil) Tryz.func205 (by kernel_rfl) (fun x y h => (show V.evBody spec_HeadInts.E spec_HeadInts.con Tryz.f205 x = _ from spec_HeadInts.eq (V.p2_0 x)).trans (V.cfl (by kernel_rfl) h))
noncomputable abbrev spec_KeyedHash.con : V.Con := ⟨(.cons (.int .i64) (.cons (.sl (.cons (.int .i64) .nil)) .nil)), (.cons (.int .i64) .nil), fun (x : Int × List Int) => spec_KeyedHash x.1 x.2, [], [(false, 1), (false, 1)], [(false, 1)], [false], []⟩
noncomputable abbrev spec_KeyedHash.E : V.Env := V.mkE V.tys [(247, spec_Hash.con)] [] [] [] [] []
theorem spec_KeyedHash.eq (x0 : Int) (x1 : List Int) : V.evBody spec_KeyedHash.E spec_KeyedHash.con Tryz.f214 ((x0, x1) : Int × List Int) = spec_KeyedHash x0 x1 := by kernel_rfl
theorem spec_KeyedHash.ok : V.Valid Tryz.prog 214 spec_KeyedHash.con :=
  V.fo (V.tab_cons spec_Hash.ok V.tab_nil) Tryz.func214 (by kernel_rfl) (fun x y h => (show V.evBody spec_KeyedHash.E spec_KeyedHash.con Tryz.f214 x = _ from spec_KeyedHash.eq x.1 x.2).trans (V.cfl (by kernel_rfl) h))
noncomputable abbrev spec_TagOf.con : V.Con := ⟨(.cons (.int .i64) (.cons (.sl (.cons (.int .i64) .nil)) .nil)), (.cons (.int .i64) .nil), fun (x : Int × List Int) => spec_TagOf x.1 x.2, [], [(false, 1), (false, 1)], [(false, 1)], [false], []⟩
noncomputable abbrev spec_TagOf.E : V.Env := V.mkE V.tys [(214, spec_KeyedHash.con)] [] [] [] [] []
theorem spec_TagOf.eq (x0 : Int) (x1 : List Int) : V.evBody spec_TagOf.E spec_TagOf.con Tryz.f118 ((x0, x1) : Int × List Int) = spec_TagOf x0 x1 := by kernel_rfl
theorem spec_TagOf.ok : V.Valid Tryz.prog 118 spec_TagOf.con :=
  V.fo (V.tab_cons spec_KeyedHash.ok V.tab_nil) Tryz.func118 (by kernel_rfl) (fun x y h => (show V.evBody spec_TagOf.E spec_TagOf.con Tryz.f118 x = _ from spec_TagOf.eq x.1 x.2).trans (V.cfl (by kernel_rfl) h))
noncomputable abbrev spec_IsSigBy.con : V.Con := ⟨(.cons (.int .i64) (.cons (.int .i64) (.cons (.sl (.cons (.int .i64) .nil)) .nil))), (.cons .bool .nil), fun (x : Int × Int × List Int) => spec_IsSigBy (x.1, x.2.1) x.2.2, [], [(true, 2), (false, 1)], [(false, 1)], [false], []⟩
noncomputable abbrev spec_IsSigBy.E : V.Env := V.mkE V.tys [(118, spec_TagOf.con), (147, spec_l1In.con)] [] [(1, 10)] [] [] []
theorem spec_IsSigBy.eq (x0 : TSig) (x1 : List Int) : V.evBody spec_IsSigBy.E spec_IsSigBy.con Tryz.f316 ((x0.1, x0.2, x1) : Int × Int × List Int) = spec_IsSigBy x0 x1 := by kernel_rfl
theorem spec_IsSigBy.ok : V.Valid Tryz.prog 316 spec_IsSigBy.con :=
  V.fo (V.tab_cons spec_TagOf.ok (V.tab_cons spec_l1In.ok V.tab_nil)) Tryz.func316 (by kernel_rfl) (fun x y h => (show V.evBody spec_IsSigBy.E spec_IsSigBy.con Tryz.f316 x = _ from spec_IsSigBy.eq (x.1, x.2.1) x.2.2).trans (V.cfl (by kernel_rfl) h))
noncomputable abbrev spec_CountSigs.con : V.Con := ⟨(.cons (.sl (.cons (.int .i64) .nil)) (.cons (.int .i64) (.cons (.sl (.cons (.int .i64) .nil)) (.cons (.sl (.cons (.int .i64) (.cons (.int .i64) .nil))) .nil)))), (.cons (.int .i64) .nil), fun (x : List Int × Int × List Int × List TSig) => spec_CountSigs (x.1, x.2.1) x.2.2.1 x.2.2.2, [], [(true, 2), (false, 1), (false, 1)], [(false, 1)], [false], []⟩
noncomputable abbrev spec_CountSigs.E : V.Env := V.mkE V.tys [(316, spec_IsSigBy.con)] [(6, [1, 2, 3, 7, 8], []), (12, [1, 2, 3, 7, 8, 9], []), (19, [1, 2, 3, 7, 8, 9, 41], [])] [(8, 17)] [] [] []
noncomputable abbrev spec_CountSigs.kt (x0 : TKeys) (x1 : List Int) (x2 : List TSig) : V.Kt Int := V.ktOf spec_CountSigs.E spec_CountSigs.con Tryz.f309 ((x0.1, x0.2, x1, x2) : List Int × Int × List Int × List TSig)
noncomputable abbrev spec_CountSigs.s19 (x0 : TKeys) (x1 : List Int) (x2 : List TSig) (v6_2 : Int) (v6_3 : Int) (v12_4 : Int) (v19_5 : Bool) : V.St := ⟨[(1, .v false [.val (.sl (.cons (.int .i64) .nil) x1)]), (2, .v false [.val (.sl (.cons (.int .i64) (.cons (.int .i64) .nil)) x2)]), (3, .v false [.ptr 64000 0]), (7, .v false [.val (.int .i64 v6_2)]), (8, .v false [.val (.int .i64 v6_3)]), (9, .v false [.val (.int .i64 v12_4)]), (41, .v false [.val (.bool v19_5)])], [(64000, .box [.val (.sl (.cons (.int .i64) .nil) x0.1), .val (.int .i64 x0.2)])]⟩
noncomputable abbrev spec_CountSigs.s12 (x0 : TKeys) (x1 : List Int) (x2 : List TSig) (v6_2 : Int) (v6_3 : Int) (v12_4 : Int) : V.St := ⟨[(1, .v false [.val (.sl (.cons (.int .i64) .nil) x1)]), (2, .v false [.val (.sl (.cons (.int .i64) (.cons (.int .i64) .nil)) x2)]), (3, .v false [.ptr 64000 0]), (7, .v false [.val (.int .i64 v6_2)]), (8, .v false [.val (.int .i64 v6_3)]), (9, .v false [.val (.int .i64 v12_4)])], [(64000, .box [.val (.sl (.cons (.int .i64) .nil) x0.1), .val (.int .i64 x0.2)])]⟩
noncomputable abbrev spec_CountSigs.s6 (x0 : TKeys) (x1 : List Int) (x2 : List TSig) (v6_2 : Int) (v6_3 : Int) : V.St := ⟨[(1, .v false [.val (.sl (.cons (.int .i64) .nil) x1)]), (2, .v false [.val (.sl (.cons (.int .i64) (.cons (.int .i64) .nil)) x2)]), (3, .v false [.ptr 64000 0]), (7, .v false [.val (.int .i64 v6_2)]), (8, .v false [.val (.int .i64 v6_3)])], [(64000, .box [.val (.sl (.cons (.int .i64) .nil) x0.1), .val (.int .i64 x0.2)])]⟩
theorem spec_CountSigs.r19 (x0 : TKeys) (x1 : List Int) (x2 : List TSig) (v12_4 : Int) (v6_2 : Int) (v6_3 : Int) (R6 : V.St → Option Int) (R12 : V.St → Option Int) (v19_5 : Bool) : V.normK 19 ([1, 2, 3, 7, 8, 9, 41], []) (V.joinF spec_CountSigs.E Tryz.f309.ntmps [1, 1, 0, 1, 0, 0, 1, 0, 0, 1, 0, 0, 1, 0, 0] [R6, R12] (V.codeOf Tryz.f309) (spec_CountSigs.kt x0 x1 x2)) (spec_CountSigs.s19 x0 x1 x2 v6_2 v6_3 v12_4 v19_5) = spec_CountSigs.g19 x0 x1 x2 v6_2 v6_3 v12_4 (fun v6_2 v6_3 => R6 (spec_CountSigs.s6 x0 x1 x2 v6_2 v6_3)) (fun v12_4 => R12 (spec_CountSigs.s12 x0 x1 x2 v6_2 v6_3 v12_4)) v19_5 := by kernel_rfl
theorem spec_CountSigs.e19 (x0 : TKeys) (x1 : List Int) (x2 : List TSig) (v12_4 : Int) (v6_2 : Int) (v6_3 : Int) (R6 : V.St → Option Int) (R12 : V.St → Option Int) (v19_5 : Bool) : V.normK 19 ([1, 2, 3, 7, 8, 9, 41], []) (V.joinF spec_CountSigs.E Tryz.f309.ntmps [1, 1, 0, 1, 0, 0, 1, 0, 0, 1, 0, 0, 1, 0, 0] [R6, R12] (V.codeOf Tryz.f309) (spec_CountSigs.kt x0 x1 x2)) (spec_CountSigs.s19 x0 x1 x2 v6_2 v6_3 v12_4 v19_5) = spec_CountSigs.l19 x0 x1 x2 v6_2 v6_3 v12_4 (fun v6_2 v6_3 => R6 (spec_CountSigs.s6 x0 x1 x2 v6_2 v6_3)) (fun v12_4 => R12 (spec_CountSigs.s12 x0 x1 x2 v6_2 v6_3 v12_4)) v19_5 := by
  rw [spec_CountSigs.r19]
  rfl
theorem spec_CountSigs.r12 (x0 : TKeys) (x1 : List Int) (x2 : List TSig) (v6_2 : Int) (v6_3 : Int) (R6 : V.St → Option Int) (R : V.St → Option Int) (v12_4 : Int) : V.loopF spec_CountSigs.E Tryz.f309.ntmps [1, 1, 0, 1, 0, 0, 1, 0, 0, 1, 0] [R6] (V.codeOf Tryz.f309) (spec_CountSigs.kt x0 x1 x2) R (spec_CountSigs.s12 x0 x1 x2 v6_2 v6_3 v12_4) = spec_CountSigs.g12 x0 x1 x2 v6_2 v6_3 (fun v6_2 v6_3 => R6 (spec_CountSigs.s6 x0 x1 x2 v6_2 v6_3)) (fun v12_4 => R (spec_CountSigs.s12 x0 x1 x2 v6_2 v6_3 v12_4)) (fun v19_5 => V.normK 19 ([1, 2, 3, 7, 8, 9, 41], []) (V.joinF spec_CountSigs.E Tryz.f309.ntmps [1, 1, 0, 1, 0, 0, 1, 0, 0, 1, 0, 0, 1, 0, 0] [R6, R] (V.codeOf Tryz.f309) (spec_CountSigs.kt x0 x1 x2)) (spec_CountSigs.s19 x0 x1 x2 v6_2 v6_3 v12_4 v19_5)) v12_4 := by kernel_rfl
theorem spec_CountSigs.e12 (x0 : TKeys) (x1 : List Int) (x2 : List TSig) (v6_2 : Int) (v6_3 : Int) (R6 : V.St → Option Int) : ∀ (n : Nat) (v12_4 : Int), V.loopN (V.loopF spec_CountSigs.E Tryz.f309.ntmps [1, 1, 0, 1, 0, 0, 1, 0, 0, 1, 0] [R6] (V.codeOf Tryz.f309) (spec_CountSigs.kt x0 x1 x2)) n (spec_CountSigs.s12 x0 x1 x2 v6_2 v6_3 v12_4) = spec_CountSigs.l12 x0 x1 x2 v6_2 v6_3 (fun v6_2 v6_3 => R6 (spec_CountSigs.s6 x0 x1 x2 v6_2 v6_3)) n v12_4 := by
  intro n
  induction n with
  | zero => intros; rw [V.loopN_z]; rfl
  | succ n ih =>
    intro v12_4
    rw [V.loopN_s, spec_CountSigs.r12]
    simp only [spec_CountSigs.e19, ih]
    first | exact (spec_CountSigs.u12 ..).symm | rfl
theorem spec_CountSigs.r6 (x0 : TKeys) (x1 : List Int) (x2 : List TSig) (R : V.St → Option Int) (v6_2 : Int) (v6_3 : Int) : V.loopF spec_CountSigs.E Tryz.f309.ntmps [1, 1, 0, 1, 0] [] (V.codeOf Tryz.f309) (spec_CountSigs.kt x0 x1 x2) R (spec_CountSigs.s6 x0 x1 x2 v6_2 v6_3) = spec_CountSigs.g6 x0 x1 x2 (fun v6_2 v6_3 => R (spec_CountSigs.s6 x0 x1 x2 v6_2 v6_3)) (fun v12_4 => V.loopN (V.loopF spec_CountSigs.E Tryz.f309.ntmps [1, 1, 0, 1, 0, 0, 1, 0, 0, 1, 0] [R] (V.codeOf Tryz.f309) (spec_CountSigs.kt x0 x1 x2)) V.KK (spec_CountSigs.s12 x0 x1 x2 v6_2 v6_3 v12_4)) v6_2 v6_3 := by kernel_rfl
theorem spec_CountSigs.e6 (x0 : TKeys) (x1 : List Int) (x2 : List TSig) : ∀ (n : Nat) (v6_2 : Int) (v6_3 : Int), V.loopN (V.loopF spec_CountSigs.E Tryz.f309.ntmps [1, 1, 0, 1, 0] [] (V.codeOf Tryz.f309) (spec_CountSigs.kt x0 x1 x2)) n (spec_CountSigs.s6 x0 x1 x2 v6_2 v6_3) = spec_CountSigs.l6 x0 x1 x2 n v6_2 v6_3 := by
  intro n
  induction n with
  | zero => intros; rw [V.loopN_z]; rfl
  | succ n ih =>
    intro v6_2 v6_3
    rw [V.loopN_s, spec_CountSigs.r6]
    simp only [spec_CountSigs.e12, ih]
    first | exact (spec_CountSigs.u6 ..).symm | rfl
theorem spec_CountSigs.v (x0 : TKeys) (x1 : List Int) (x2 : List TSig) : V.evBody spec_CountSigs.E spec_CountSigs.con Tryz.f309 ((x0.1, x0.2, x1, x2) : List Int × Int × List Int × List TSig) = spec_CountSigs.b x0 x1 x2 (fun v6_2 v6_3 => V.loopN (V.loopF spec_CountSigs.E Tryz.f309.ntmps [1, 1, 0, 1, 0] [] (V.codeOf Tryz.f309) (spec_CountSigs.kt x0 x1 x2)) V.KK (spec_CountSigs.s6 x0 x1 x2 v6_2 v6_3)) := by kernel_rfl
theorem spec_CountSigs.eq (x0 : TKeys) (x1 : List Int) (x2 : List TSig) : V.evBody spec_CountSigs.E spec_CountSigs.con Tryz.f309 ((x0.1, x0.2, x1, x2) : List Int × Int × List Int × List TSig) = spec_CountSigs x0 x1 x2 := by
  rw [spec_CountSigs.v]
  simp only [spec_CountSigs.e6]
  rfl
theorem spec_CountSigs.ok : V.Valid Tryz.prog 309 spec_CountSigs.con :=
  V.fo (V.tab_cons spec_IsSigBy.ok V.tab_nil) Tryz.func309 (by kernel_rfl) (fun x y h => (show V.evBody spec_CountSigs.E spec_CountSigs.con Tryz.f309 x = _ from spec_CountSigs.eq (x.1, x.2.1) x.2.2.1 x.2.2.2).trans (V.cfl (by kernel_rfl) h))
noncomputable abbrev spec_IsSigned.con : V.Con := ⟨(.cons (.sl (.cons (.int .i64) .nil)) (.cons (.int .i64) (.cons (.sl (.cons (.int .i64) .nil)) (.cons (.sl (.cons (.int .i64) (.cons (.int .i64) .nil))) .nil)))), (.cons .bool .nil), fun (x : List Int × Int × List Int × List TSig) => spec_IsSigned (x.1, x.2.1) x.2.2.1 x.2.2.2, [], [(true, 2), (false, 1), (false, 1)], [(false, 1)], [false], []⟩
noncomputable abbrev spec_IsSigned.E : V.Env := V.mkE V.tys [(245, spec_IsKeys.con), (309, spec_CountSigs.con)] [] [(1, 9)] [] [] []
theorem spec_IsSigned.eq (x0 : TKeys) (x1 : List Int) (x2 : List TSig) : V.evBody spec_IsSigned.E spec_IsSigned.con Tryz.f287 ((x0.1, x0.2, x1, x2) : List Int × Int × List Int × List TSig) = spec_IsSigned x0 x1 x2 := by kernel_rfl
theorem spec_IsSigned.ok : V.Valid Tryz.prog 287 spec_IsSigned.con :=
  V.fo (V.tab_cons spec_IsKeys.ok (V.tab_cons spec_CountSigs.ok V.tab_nil)) Tryz.func287 (by kernel_rfl) (fun x y h => (show V.evBody spec_IsSigned.E spec_IsSigned.con Tryz.f287 x = _ from spec_IsSigned.eq (x.1, x.2.1) x.2.2.1 x.2.2.2).trans (V.cfl (by kernel_rfl) h))
noncomputable abbrev spec_IsFirst.con : V.Con := ⟨V.A3, (.cons .bool .nil), fun (x : V.D3) => spec_IsFirst (V.p3_0 x), [], [(true, 17)], [(false, 1)], [false], []⟩
noncomputable abbrev spec_IsFirst.E : V.Env := V.mkE V.tys [(183, spec_IsHead.con), (205, spec_HeadInts.con), (224, spec_ZoneOf.con), (287, spec_IsSigned.con)] [] [(2, 34)] [] [] []
noncomputable abbrev spec_IsFirst.kt (x0 : TSigned) : V.Kt Bool := V.ktOf spec_IsFirst.E spec_IsFirst.con Tryz.f264 (V.fl3 x0)
noncomputable abbrev spec_IsFirst.s (x0 : TSigned) : V.St := ⟨[(0, .v true [.val (.int .i64 x0.1), .val (.int .i64 x0.2.1), .val (.int .i64 x0.2.2.1), .val (.int .i64 x0.2.2.2.1), .val (.int .i64 x0.2.2.2.2.1), .val (.int .i64 x0.2.2.2.2.2.1), .val (.int .i64 x0.2.2.2.2.2.2.1), .val (.int .i64 x0.2.2.2.2.2.2.2.1), .val (.sl (.cons (.int .i64) .nil) x0.2.2.2.2.2.2.2.2.1), .val (.int .i64 x0.2.2.2.2.2.2.2.2.2.1), .val (.sl (.cons (.int .i64) .nil) x0.2.2.2.2.2.2.2.2.2.2.1), .val (.int .i64 x0.2.2.2.2.2.2.2.2.2.2.2.1), .val (.int .i64 x0.2.2.2.2.2.2.2.2.2.2.2.2.1), .val (.sl (.cons (.int .i64) .nil) x0.2.2.2.2.2.2.2.2.2.2.2.2.2.1), .val (.int .i64 x0.2.2.2.2.2.2.2.2.2.2.2.2.2.2.1), .val (.bool x0.2.2.2.2.2.2.2.2.2.2.2.2.2.2.2.1), .val (.sl (.cons (.int .i64) (.cons (.int .i64) .nil)) x0.2.2.2.2.2.2.2.2.2.2.2.2.2.2.2.2)])], []⟩
theorem spec_IsFirst.v0 (x0 : TSigned) : V.evBody spec_IsFirst.E spec_IsFirst.con Tryz.f264 (V.fl3 x0) = V.evC spec_IsFirst.E Tryz.f264.ntmps (V.codeOf Tryz.f264) (spec_IsFirst.kt x0) (spec_IsFirst.s x0) := by kernel_rfl
theorem spec_IsFirst.v (x0 : TSigned) : V.evC spec_IsFirst.E Tryz.f264.ntmps (V.codeOf Tryz.f264) (spec_IsFirst.kt x0) (spec_IsFirst.s x0) = spec_IsFirst x0 := by kernel_rfl
theorem spec_IsFirst.eq (x0 : TSigned) : V.evBody spec_IsFirst.E spec_IsFirst.con Tryz.f264 (V.fl3 x0) = spec_IsFirst x0 := (spec_IsFirst.v0 x0).trans (spec_IsFirst.v x0)
theorem spec_IsFirst.ok : V.Valid Tryz.prog 264 spec_IsFirst.con :=
  V.fo (V.tab_cons spec_IsHead.ok (V.tab_cons spec_HeadInts.ok (V.tab_cons spec_ZoneOf.ok (V.tab_cons spec_IsSigned.ok V.tab_nil)))) Tryz.func264 (by kernel_rfl) (fun x y h => (show V.evBody spec_IsFirst.E spec_IsFirst.con Tryz.f264 x = _ from spec_IsFirst.eq (V.p3_0 x)).trans (V.cfl (by kernel_rfl) h))
noncomputable abbrev spec_HeadDigest.con : V.Con := ⟨V.A2, (.cons (.int .i64) .nil), fun (x : V.D2) => spec_HeadDigest (V.p2_0 x), [], [(true, 16)], [(false, 1)], [false], []⟩
noncomputable abbrev spec_HeadDigest.E : V.Env := V.mkE V.tys [(205, spec_HeadInts.con), (247, spec_Hash.con)] [] [] [] [] []
noncomputable abbrev spec_HeadDigest.kt (x0 : THead) : V.Kt Int := V.ktOf spec_HeadDigest.E spec_HeadDigest.con Tryz.f185 (V.fl2 x0)
noncomputable abbrev spec_HeadDigest.s (x0 : THead) : V.St := ⟨[(0, .v true [.val (.int .i64 x0.1), .val (.int .i64 x0.2.1), .val (.int .i64 x0.2.2.1), .val (.int .i64 x0.2.2.2.1), .val (.int .i64 x0.2.2.2.2.1), .val (.int .i64 x0.2.2.2.2.2.1), .val (.int .i64 x0.2.2.2.2.2.2.1), .val (.int .i64 x0.2.2.2.2.2.2.2.1), .val (.sl (.cons (.int .i64) .nil) x0.2.2.2.2.2.2.2.2.1), .val (.int .i64 x0.2.2.2.2.2.2.2.2.2.1), .val (.sl (.cons (.int .i64) .nil) x0.2.2.2.2.2.2.2.2.2.2.1), .val (.int .i64 x0.2.2.2.2.2.2.2.2.2.2.2.1), .val (.int .i64 x0.2.2.2.2.2.2.2.2.2.2.2.2.1), .val (.sl (.cons (.int .i64) .nil) x0.2.2.2.2.2.2.2.2.2.2.2.2.2.1), .val (.int .i64 x0.2.2.2.2.2.2.2.2.2.2.2.2.2.2.1), .val (.bool x0.2.2.2.2.2.2.2.2.2.2.2.2.2.2.2)])], []⟩
theorem spec_HeadDigest.v0 (x0 : THead) : V.evBody spec_HeadDigest.E spec_HeadDigest.con Tryz.f185 (V.fl2 x0) = V.evC spec_HeadDigest.E Tryz.f185.ntmps (V.codeOf Tryz.f185) (spec_HeadDigest.kt x0) (spec_HeadDigest.s x0) := by kernel_rfl
theorem spec_HeadDigest.v (x0 : THead) : V.evC spec_HeadDigest.E Tryz.f185.ntmps (V.codeOf Tryz.f185) (spec_HeadDigest.kt x0) (spec_HeadDigest.s x0) = spec_HeadDigest x0 := by kernel_rfl
theorem spec_HeadDigest.eq (x0 : THead) : V.evBody spec_HeadDigest.E spec_HeadDigest.con Tryz.f185 (V.fl2 x0) = spec_HeadDigest x0 := (spec_HeadDigest.v0 x0).trans (spec_HeadDigest.v x0)
theorem spec_HeadDigest.ok : V.Valid Tryz.prog 185 spec_HeadDigest.con :=
  V.fo (V.tab_cons spec_HeadInts.ok (V.tab_cons spec_Hash.ok V.tab_nil)) Tryz.func185 (by kernel_rfl) (fun x y h => (show V.evBody spec_HeadDigest.E spec_HeadDigest.con Tryz.f185 x = _ from spec_HeadDigest.eq (V.p2_0 x)).trans (V.cfl (by kernel_rfl) h))
noncomputable abbrev spec_l15Owner.con : V.Con := ⟨V.A4, (.cons (.int .i64) .nil), fun (x : V.D4) => spec_l15Owner (V.p4_0 x) (V.p4_1 x), [], [(true, 16), (true, 16)], [(false, 1)], [false], []⟩
noncomputable abbrev spec_l15Owner.E : V.Env := V.mkE V.tys [] [] [] [] [] []
noncomputable abbrev spec_l15Owner.kt (x0 : THead) (x1 : THead) : V.Kt Int := V.ktOf spec_l15Owner.E spec_l15Owner.con Tryz.f284 (V.fl4 x0 x1)
noncomputable abbrev spec_l15Owner.s (x0 : THead) (x1 : THead) : V.St := ⟨[(0, .v true [.val (.int .i64 x0.1), .val (.int .i64 x0.2.1), .val (.int .i64 x0.2.2.1), .val (.int .i64 x0.2.2.2.1), .val (.int .i64 x0.2.2.2.2.1), .val (.int .i64 x0.2.2.2.2.2.1), .val (.int .i64 x0.2.2.2.2.2.2.1), .val (.int .i64 x0.2.2.2.2.2.2.2.1), .val (.sl (.cons (.int .i64) .nil) x0.2.2.2.2.2.2.2.2.1), .val (.int .i64 x0.2.2.2.2.2.2.2.2.2.1), .val (.sl (.cons (.int .i64) .nil) x0.2.2.2.2.2.2.2.2.2.2.1), .val (.int .i64 x0.2.2.2.2.2.2.2.2.2.2.2.1), .val (.int .i64 x0.2.2.2.2.2.2.2.2.2.2.2.2.1), .val (.sl (.cons (.int .i64) .nil) x0.2.2.2.2.2.2.2.2.2.2.2.2.2.1), .val (.int .i64 x0.2.2.2.2.2.2.2.2.2.2.2.2.2.2.1), .val (.bool x0.2.2.2.2.2.2.2.2.2.2.2.2.2.2.2)]), (1, .v true [.val (.int .i64 x1.1), .val (.int .i64 x1.2.1), .val (.int .i64 x1.2.2.1), .val (.int .i64 x1.2.2.2.1), .val (.int .i64 x1.2.2.2.2.1), .val (.int .i64 x1.2.2.2.2.2.1), .val (.int .i64 x1.2.2.2.2.2.2.1), .val (.int .i64 x1.2.2.2.2.2.2.2.1), .val (.sl (.cons (.int .i64) .nil) x1.2.2.2.2.2.2.2.2.1), .val (.int .i64 x1.2.2.2.2.2.2.2.2.2.1), .val (.sl (.cons (.int .i64) .nil) x1.2.2.2.2.2.2.2.2.2.2.1), .val (.int .i64 x1.2.2.2.2.2.2.2.2.2.2.2.1), .val (.int .i64 x1.2.2.2.2.2.2.2.2.2.2.2.2.1), .val (.sl (.cons (.int .i64) .nil) x1.2.2.2.2.2.2.2.2.2.2.2.2.2.1), .val (.int .i64 x1.2.2.2.2.2.2.2.2.2.2.2.2.2.2.1), .val (.bool x1.2.2.2.2.2.2.2.2.2.2.2.2.2.2.2)])], []⟩
theorem spec_l15Owner.v0 (x0 : THead) (x1 : THead) : V.evBody spec_l15Owner.E spec_l15Owner.con Tryz.f284 (V.fl4 x0 x1) = V.evC spec_l15Owner.E Tryz.f284.ntmps (V.codeOf Tryz.f284) (spec_l15Owner.kt x0 x1) (spec_l15Owner.s x0 x1) := by kernel_rfl
theorem spec_l15Owner.v (x0 : THead) (x1 : THead) : V.evC spec_l15Owner.E Tryz.f284.ntmps (V.codeOf Tryz.f284) (spec_l15Owner.kt x0 x1) (spec_l15Owner.s x0 x1) = spec_l15Owner x0 x1 := by kernel_rfl
theorem spec_l15Owner.eq (x0 : THead) (x1 : THead) : V.evBody spec_l15Owner.E spec_l15Owner.con Tryz.f284 (V.fl4 x0 x1) = spec_l15Owner x0 x1 := (spec_l15Owner.v0 x0 x1).trans (spec_l15Owner.v x0 x1)
theorem spec_l15Owner.ok : V.Valid Tryz.prog 284 spec_l15Owner.con :=
  V.fo V.tab_nil Tryz.func284 (by kernel_rfl) (fun x y h => (show V.evBody spec_l15Owner.E spec_l15Owner.con Tryz.f284 x = _ from spec_l15Owner.eq (V.p4_0 x) (V.p4_1 x)).trans (V.cfl (by kernel_rfl) h))
noncomputable abbrev spec_EqualInts.con : V.Con := ⟨(.cons (.sl (.cons (.int .i64) .nil)) (.cons (.sl (.cons (.int .i64) .nil)) .nil)), (.cons .bool .nil), fun (x : List Int × List Int) => spec_EqualInts x.1 x.2, [], [(false, 1), (false, 1)], [(false, 1)], [false], []⟩
noncomputable abbrev spec_EqualInts.E : V.Env := V.mkE V.tys [] [(8, [0, 1, 5], [])] [(6, 8)] [] [] []
noncomputable abbrev spec_EqualInts.kt (x0 : List Int) (x1 : List Int) : V.Kt Bool := V.ktOf spec_EqualInts.E spec_EqualInts.con Tryz.f204 ((x0, x1) : List Int × List Int)
noncomputable abbrev spec_EqualInts.s8 (x0 : List Int) (x1 : List Int) (v8_2 : Int) : V.St := ⟨[(0, .v false [.val (.sl (.cons (.int .i64) .nil) x0)]), (1, .v false [.val (.sl (.cons (.int .i64) .nil) x1)]), (5, .v false [.val (.int .i64 v8_2)])], []⟩
theorem spec_EqualInts.r8 (x0 : List Int) (x1 : List Int) (R : V.St → Option Bool) (v8_2 : Int) : V.loopF spec_EqualInts.E Tryz.f204.ntmps [1, 1, 0, 1, 0] [] (V.codeOf Tryz.f204) (spec_EqualInts.kt x0 x1) R (spec_EqualInts.s8 x0 x1 v8_2) = spec_EqualInts.g8 x0 x1 (fun v8_2 => R (spec_EqualInts.s8 x0 x1 v8_2)) v8_2 := by kernel_rfl
theorem spec_EqualInts.e8 (x0 : List Int) (x1 : List Int) : ∀ (n : Nat) (v8_2 : Int), V.loopN (V.loopF spec_EqualInts.E Tryz.f204.ntmps [1, 1, 0, 1, 0] [] (V.codeOf Tryz.f204) (spec_EqualInts.kt x0 x1)) n (spec_EqualInts.s8 x0 x1 v8_2) = spec_EqualInts.l8 x0 x1 n v8_2 := by
  intro n
  induction n with
  | zero => intros; rw [V.loopN_z]; rfl
  | succ n ih =>
    intro v8_2
    rw [V.loopN_s, spec_EqualInts.r8]
    simp only [ih]
    first | exact (spec_EqualInts.u8 ..).symm | rfl
theorem spec_EqualInts.v (x0 : List Int) (x1 : List Int) : V.evBody spec_EqualInts.E spec_EqualInts.con Tryz.f204 ((x0, x1) : List Int × List Int) = spec_EqualInts.b x0 x1 (fun v8_2 => V.loopN (V.loopF spec_EqualInts.E Tryz.f204.ntmps [1, 1, 0, 1, 0] [] (V.codeOf Tryz.f204) (spec_EqualInts.kt x0 x1)) V.KK (spec_EqualInts.s8 x0 x1 v8_2)) := by kernel_rfl
theorem spec_EqualInts.eq (x0 : List Int) (x1 : List Int) : V.evBody spec_EqualInts.E spec_EqualInts.con Tryz.f204 ((x0, x1) : List Int × List Int) = spec_EqualInts x0 x1 := by
  rw [spec_EqualInts.v]
  simp only [spec_EqualInts.e8]
  rfl
theorem spec_EqualInts.ok : V.Valid Tryz.prog 204 spec_EqualInts.con :=
  V.fo V.tab_nil Tryz.func204 (by kernel_rfl) (fun x y h => (show V.evBody spec_EqualInts.E spec_EqualInts.con Tryz.f204 x = _ from spec_EqualInts.eq x.1 x.2).trans (V.cfl (by kernel_rfl) h))
noncomputable abbrev spec_EqualKeys.con : V.Con := ⟨(.cons (.sl (.cons (.int .i64) .nil)) (.cons (.int .i64) (.cons (.sl (.cons (.int .i64) .nil)) (.cons (.int .i64) .nil)))), (.cons .bool .nil), fun (x : List Int × Int × List Int × Int) => spec_EqualKeys (x.1, x.2.1) x.2.2, [], [(true, 2), (true, 2)], [(false, 1)], [false], []⟩
noncomputable abbrev spec_EqualKeys.E : V.Env := V.mkE V.tys [(204, spec_EqualInts.con)] [] [] [] [] []
theorem spec_EqualKeys.eq (x0 : TKeys) (x1 : TKeys) : V.evBody spec_EqualKeys.E spec_EqualKeys.con Tryz.f307 ((x0.1, x0.2, x1.1, x1.2) : List Int × Int × List Int × Int) = spec_EqualKeys x0 x1 := by kernel_rfl
theorem spec_EqualKeys.ok : V.Valid Tryz.prog 307 spec_EqualKeys.con :=
  V.fo (V.tab_cons spec_EqualInts.ok V.tab_nil) Tryz.func307 (by kernel_rfl) (fun x y h => (show V.evBody spec_EqualKeys.E spec_EqualKeys.con Tryz.f307 x = _ from spec_EqualKeys.eq (x.1, x.2.1) x.2.2).trans (V.cfl (by kernel_rfl) h))
noncomputable abbrev spec_SameContents.con : V.Con := ⟨V.A4, (.cons .bool .nil), fun (x : V.D4) => spec_SameContents (V.p4_0 x) (V.p4_1 x), [], [(true, 16), (true, 16)], [(false, 1)], [false], []⟩
noncomputable abbrev spec_SameContents.E : V.Env := V.mkE V.tys [] [] [] [] [] []
noncomputable abbrev spec_SameContents.kt (x0 : THead) (x1 : THead) : V.Kt Bool := V.ktOf spec_SameContents.E spec_SameContents.con Tryz.f308 (V.fl4 x0 x1)
noncomputable abbrev spec_SameContents.s (x0 : THead) (x1 : THead) : V.St := ⟨[(0, .v true [.val (.int .i64 x0.1), .val (.int .i64 x0.2.1), .val (.int .i64 x0.2.2.1), .val (.int .i64 x0.2.2.2.1), .val (.int .i64 x0.2.2.2.2.1), .val (.int .i64 x0.2.2.2.2.2.1), .val (.int .i64 x0.2.2.2.2.2.2.1), .val (.int .i64 x0.2.2.2.2.2.2.2.1), .val (.sl (.cons (.int .i64) .nil) x0.2.2.2.2.2.2.2.2.1), .val (.int .i64 x0.2.2.2.2.2.2.2.2.2.1), .val (.sl (.cons (.int .i64) .nil) x0.2.2.2.2.2.2.2.2.2.2.1), .val (.int .i64 x0.2.2.2.2.2.2.2.2.2.2.2.1), .val (.int .i64 x0.2.2.2.2.2.2.2.2.2.2.2.2.1), .val (.sl (.cons (.int .i64) .nil) x0.2.2.2.2.2.2.2.2.2.2.2.2.2.1), .val (.int .i64 x0.2.2.2.2.2.2.2.2.2.2.2.2.2.2.1), .val (.bool x0.2.2.2.2.2.2.2.2.2.2.2.2.2.2.2)]), (1, .v true [.val (.int .i64 x1.1), .val (.int .i64 x1.2.1), .val (.int .i64 x1.2.2.1), .val (.int .i64 x1.2.2.2.1), .val (.int .i64 x1.2.2.2.2.1), .val (.int .i64 x1.2.2.2.2.2.1), .val (.int .i64 x1.2.2.2.2.2.2.1), .val (.int .i64 x1.2.2.2.2.2.2.2.1), .val (.sl (.cons (.int .i64) .nil) x1.2.2.2.2.2.2.2.2.1), .val (.int .i64 x1.2.2.2.2.2.2.2.2.2.1), .val (.sl (.cons (.int .i64) .nil) x1.2.2.2.2.2.2.2.2.2.2.1), .val (.int .i64 x1.2.2.2.2.2.2.2.2.2.2.2.1), .val (.int .i64 x1.2.2.2.2.2.2.2.2.2.2.2.2.1), .val (.sl (.cons (.int .i64) .nil) x1.2.2.2.2.2.2.2.2.2.2.2.2.2.1), .val (.int .i64 x1.2.2.2.2.2.2.2.2.2.2.2.2.2.2.1), .val (.bool x1.2.2.2.2.2.2.2.2.2.2.2.2.2.2.2)])], []⟩
theorem spec_SameContents.v0 (x0 : THead) (x1 : THead) : V.evBody spec_SameContents.E spec_SameContents.con Tryz.f308 (V.fl4 x0 x1) = V.evC spec_SameContents.E Tryz.f308.ntmps (V.codeOf Tryz.f308) (spec_SameContents.kt x0 x1) (spec_SameContents.s x0 x1) := by kernel_rfl
theorem spec_SameContents.v (x0 : THead) (x1 : THead) : V.evC spec_SameContents.E Tryz.f308.ntmps (V.codeOf Tryz.f308) (spec_SameContents.kt x0 x1) (spec_SameContents.s x0 x1) = spec_SameContents x0 x1 := by kernel_rfl
theorem spec_SameContents.eq (x0 : THead) (x1 : THead) : V.evBody spec_SameContents.E spec_SameContents.con Tryz.f308 (V.fl4 x0 x1) = spec_SameContents x0 x1 := (spec_SameContents.v0 x0 x1).trans (spec_SameContents.v x0 x1)
theorem spec_SameContents.ok : V.Valid Tryz.prog 308 spec_SameContents.con :=
  V.fo V.tab_nil Tryz.func308 (by kernel_rfl) (fun x y h => (show V.evBody spec_SameContents.E spec_SameContents.con Tryz.f308 x = _ from spec_SameContents.eq (V.p4_0 x) (V.p4_1 x)).trans (V.cfl (by kernel_rfl) h))
noncomputable abbrev spec_l15Heir.con : V.Con := ⟨V.A4, (.cons (.int .i64) .nil), fun (x : V.D4) => spec_l15Heir (V.p4_0 x) (V.p4_1 x), [], [(true, 16), (true, 16)], [(false, 1)], [false], []⟩
noncomputable abbrev spec_l15Heir.E : V.Env := V.mkE V.tys [(246, spec_NoKeys.con), (307, spec_EqualKeys.con), (308, spec_SameContents.con)] [(9, [2, 3, 8], [])] [] [] [] []
noncomputable abbrev spec_l15Heir.kt (x0 : THead) (x1 : THead) : V.Kt Int := V.ktOf spec_l15Heir.E spec_l15Heir.con Tryz.f285 (V.fl4 x0 x1)
noncomputable abbrev spec_l15Heir.s9 (x0 : THead) (x1 : THead) (v9_0 : Bool) : V.St := ⟨[(2, .v false [.ptr 64000 0]), (3, .v false [.ptr 64064 0]), (8, .v false [.val (.bool v9_0)])], [(64000, .box [.val (.int .i64 x0.1), .val (.int .i64 x0.2.1), .val (.int .i64 x0.2.2.1), .val (.int .i64 x0.2.2.2.1), .val (.int .i64 x0.2.2.2.2.1), .val (.int .i64 x0.2.2.2.2.2.1), .val (.int .i64 x0.2.2.2.2.2.2.1), .val (.int .i64 x0.2.2.2.2.2.2.2.1), .val (.sl (.cons (.int .i64) .nil) x0.2.2.2.2.2.2.2.2.1), .val (.int .i64 x0.2.2.2.2.2.2.2.2.2.1), .val (.sl (.cons (.int .i64) .nil) x0.2.2.2.2.2.2.2.2.2.2.1), .val (.int .i64 x0.2.2.2.2.2.2.2.2.2.2.2.1), .val (.int .i64 x0.2.2.2.2.2.2.2.2.2.2.2.2.1), .val (.sl (.cons (.int .i64) .nil) x0.2.2.2.2.2.2.2.2.2.2.2.2.2.1), .val (.int .i64 x0.2.2.2.2.2.2.2.2.2.2.2.2.2.2.1), .val (.bool x0.2.2.2.2.2.2.2.2.2.2.2.2.2.2.2)]), (64064, .box [.val (.int .i64 x1.1), .val (.int .i64 x1.2.1), .val (.int .i64 x1.2.2.1), .val (.int .i64 x1.2.2.2.1), .val (.int .i64 x1.2.2.2.2.1), .val (.int .i64 x1.2.2.2.2.2.1), .val (.int .i64 x1.2.2.2.2.2.2.1), .val (.int .i64 x1.2.2.2.2.2.2.2.1), .val (.sl (.cons (.int .i64) .nil) x1.2.2.2.2.2.2.2.2.1), .val (.int .i64 x1.2.2.2.2.2.2.2.2.2.1), .val (.sl (.cons (.int .i64) .nil) x1.2.2.2.2.2.2.2.2.2.2.1), .val (.int .i64 x1.2.2.2.2.2.2.2.2.2.2.2.1), .val (.int .i64 x1.2.2.2.2.2.2.2.2.2.2.2.2.1), .val (.sl (.cons (.int .i64) .nil) x1.2.2.2.2.2.2.2.2.2.2.2.2.2.1), .val (.int .i64 x1.2.2.2.2.2.2.2.2.2.2.2.2.2.2.1), .val (.bool x1.2.2.2.2.2.2.2.2.2.2.2.2.2.2.2)])]⟩
theorem spec_l15Heir.r9 (x0 : THead) (x1 : THead) (v9_0 : Bool) : V.normK 9 ([2, 3, 8], []) (V.joinF spec_l15Heir.E Tryz.f285.ntmps [1, 0, 0, 1, 1] [] (V.codeOf Tryz.f285) (spec_l15Heir.kt x0 x1)) (spec_l15Heir.s9 x0 x1 v9_0) = spec_l15Heir.g9 x0 x1 v9_0 := by kernel_rfl
theorem spec_l15Heir.e9 (x0 : THead) (x1 : THead) (v9_0 : Bool) : V.normK 9 ([2, 3, 8], []) (V.joinF spec_l15Heir.E Tryz.f285.ntmps [1, 0, 0, 1, 1] [] (V.codeOf Tryz.f285) (spec_l15Heir.kt x0 x1)) (spec_l15Heir.s9 x0 x1 v9_0) = spec_l15Heir.l9 x0 x1 v9_0 := by
  rw [spec_l15Heir.r9]
  rfl
noncomputable abbrev spec_l15Heir.s (x0 : THead) (x1 : THead) : V.St := ⟨[(0, .v true [.val (.int .i64 x0.1), .val (.int .i64 x0.2.1), .val (.int .i64 x0.2.2.1), .val (.int .i64 x0.2.2.2.1), .val (.int .i64 x0.2.2.2.2.1), .val (.int .i64 x0.2.2.2.2.2.1), .val (.int .i64 x0.2.2.2.2.2.2.1), .val (.int .i64 x0.2.2.2.2.2.2.2.1), .val (.sl (.cons (.int .i64) .nil) x0.2.2.2.2.2.2.2.2.1), .val (.int .i64 x0.2.2.2.2.2.2.2.2.2.1), .val (.sl (.cons (.int .i64) .nil) x0.2.2.2.2.2.2.2.2.2.2.1), .val (.int .i64 x0.2.2.2.2.2.2.2.2.2.2.2.1), .val (.int .i64 x0.2.2.2.2.2.2.2.2.2.2.2.2.1), .val (.sl (.cons (.int .i64) .nil) x0.2.2.2.2.2.2.2.2.2.2.2.2.2.1), .val (.int .i64 x0.2.2.2.2.2.2.2.2.2.2.2.2.2.2.1), .val (.bool x0.2.2.2.2.2.2.2.2.2.2.2.2.2.2.2)]), (1, .v true [.val (.int .i64 x1.1), .val (.int .i64 x1.2.1), .val (.int .i64 x1.2.2.1), .val (.int .i64 x1.2.2.2.1), .val (.int .i64 x1.2.2.2.2.1), .val (.int .i64 x1.2.2.2.2.2.1), .val (.int .i64 x1.2.2.2.2.2.2.1), .val (.int .i64 x1.2.2.2.2.2.2.2.1), .val (.sl (.cons (.int .i64) .nil) x1.2.2.2.2.2.2.2.2.1), .val (.int .i64 x1.2.2.2.2.2.2.2.2.2.1), .val (.sl (.cons (.int .i64) .nil) x1.2.2.2.2.2.2.2.2.2.2.1), .val (.int .i64 x1.2.2.2.2.2.2.2.2.2.2.2.1), .val (.int .i64 x1.2.2.2.2.2.2.2.2.2.2.2.2.1), .val (.sl (.cons (.int .i64) .nil) x1.2.2.2.2.2.2.2.2.2.2.2.2.2.1), .val (.int .i64 x1.2.2.2.2.2.2.2.2.2.2.2.2.2.2.1), .val (.bool x1.2.2.2.2.2.2.2.2.2.2.2.2.2.2.2)])], []⟩
theorem spec_l15Heir.v0 (x0 : THead) (x1 : THead) : V.evBody spec_l15Heir.E spec_l15Heir.con Tryz.f285 (V.fl4 x0 x1) = V.evC spec_l15Heir.E Tryz.f285.ntmps (V.codeOf Tryz.f285) (spec_l15Heir.kt x0 x1) (spec_l15Heir.s x0 x1) := by kernel_rfl
theorem spec_l15Heir.v (x0 : THead) (x1 : THead) : V.evC spec_l15Heir.E Tryz.f285.ntmps (V.codeOf Tryz.f285) (spec_l15Heir.kt x0 x1) (spec_l15Heir.s x0 x1) = spec_l15Heir.b x0 x1 (fun v9_0 => V.normK 9 ([2, 3, 8], []) (V.joinF spec_l15Heir.E Tryz.f285.ntmps [1, 0, 0, 1, 1] [] (V.codeOf Tryz.f285) (spec_l15Heir.kt x0 x1)) (spec_l15Heir.s9 x0 x1 v9_0)) := by kernel_rfl
theorem spec_l15Heir.eq (x0 : THead) (x1 : THead) : V.evBody spec_l15Heir.E spec_l15Heir.con Tryz.f285 (V.fl4 x0 x1) = spec_l15Heir x0 x1 := by
  rw [spec_l15Heir.v0, spec_l15Heir.v]
  simp only [spec_l15Heir.e9]
  rfl
theorem spec_l15Heir.ok : V.Valid Tryz.prog 285 spec_l15Heir.con :=
  V.fo (V.tab_cons spec_NoKeys.ok (V.tab_cons spec_EqualKeys.ok (V.tab_cons spec_SameContents.ok V.tab_nil))) Tryz.func285 (by kernel_rfl) (fun x y h => (show V.evBody spec_l15Heir.E spec_l15Heir.con Tryz.f285 x = _ from spec_l15Heir.eq (V.p4_0 x) (V.p4_1 x)).trans (V.cfl (by kernel_rfl) h))
noncomputable abbrev spec_l15Judge.con : V.Con := ⟨V.A4, (.cons (.int .i64) .nil), fun (x : V.D4) => spec_l15Judge (V.p4_0 x) (V.p4_1 x), [], [(true, 16), (true, 16)], [(false, 1)], [false], []⟩
noncomputable abbrev spec_l15Judge.E : V.Env := V.mkE V.tys [(246, spec_NoKeys.con), (307, spec_EqualKeys.con), (308, spec_SameContents.con)] [(9, [2, 3, 9], [])] [] [] [] []
noncomputable abbrev spec_l15Judge.kt (x0 : THead) (x1 : THead) : V.Kt Int := V.ktOf spec_l15Judge.E spec_l15Judge.con Tryz.f286 (V.fl4 x0 x1)
noncomputable abbrev spec_l15Judge.s9 (x0 : THead) (x1 : THead) (v9_0 : Bool) : V.St := ⟨[(2, .v false [.ptr 64000 0]), (3, .v false [.ptr 64064 0]), (9, .v false [.val (.bool v9_0)])], [(64000, .box [.val (.int .i64 x0.1), .val (.int .i64 x0.2.1), .val (.int .i64 x0.2.2.1), .val (.int .i64 x0.2.2.2.1), .val (.int .i64 x0.2.2.2.2.1), .val (.int .i64 x0.2.2.2.2.2.1), .val (.int .i64 x0.2.2.2.2.2.2.1), .val (.int .i64 x0.2.2.2.2.2.2.2.1), .val (.sl (.cons (.int .i64) .nil) x0.2.2.2.2.2.2.2.2.1), .val (.int .i64 x0.2.2.2.2.2.2.2.2.2.1), .val (.sl (.cons (.int .i64) .nil) x0.2.2.2.2.2.2.2.2.2.2.1), .val (.int .i64 x0.2.2.2.2.2.2.2.2.2.2.2.1), .val (.int .i64 x0.2.2.2.2.2.2.2.2.2.2.2.2.1), .val (.sl (.cons (.int .i64) .nil) x0.2.2.2.2.2.2.2.2.2.2.2.2.2.1), .val (.int .i64 x0.2.2.2.2.2.2.2.2.2.2.2.2.2.2.1), .val (.bool x0.2.2.2.2.2.2.2.2.2.2.2.2.2.2.2)]), (64064, .box [.val (.int .i64 x1.1), .val (.int .i64 x1.2.1), .val (.int .i64 x1.2.2.1), .val (.int .i64 x1.2.2.2.1), .val (.int .i64 x1.2.2.2.2.1), .val (.int .i64 x1.2.2.2.2.2.1), .val (.int .i64 x1.2.2.2.2.2.2.1), .val (.int .i64 x1.2.2.2.2.2.2.2.1), .val (.sl (.cons (.int .i64) .nil) x1.2.2.2.2.2.2.2.2.1), .val (.int .i64 x1.2.2.2.2.2.2.2.2.2.1), .val (.sl (.cons (.int .i64) .nil) x1.2.2.2.2.2.2.2.2.2.2.1), .val (.int .i64 x1.2.2.2.2.2.2.2.2.2.2.2.1), .val (.int .i64 x1.2.2.2.2.2.2.2.2.2.2.2.2.1), .val (.sl (.cons (.int .i64) .nil) x1.2.2.2.2.2.2.2.2.2.2.2.2.2.1), .val (.int .i64 x1.2.2.2.2.2.2.2.2.2.2.2.2.2.2.1), .val (.bool x1.2.2.2.2.2.2.2.2.2.2.2.2.2.2.2)])]⟩
theorem spec_l15Judge.r9 (x0 : THead) (x1 : THead) (v9_0 : Bool) : V.normK 9 ([2, 3, 9], []) (V.joinF spec_l15Judge.E Tryz.f286.ntmps [1, 0, 0, 1, 1] [] (V.codeOf Tryz.f286) (spec_l15Judge.kt x0 x1)) (spec_l15Judge.s9 x0 x1 v9_0) = spec_l15Judge.g9 x0 x1 v9_0 := by kernel_rfl
theorem spec_l15Judge.e9 (x0 : THead) (x1 : THead) (v9_0 : Bool) : V.normK 9 ([2, 3, 9], []) (V.joinF spec_l15Judge.E Tryz.f286.ntmps [1, 0, 0, 1, 1] [] (V.codeOf Tryz.f286) (spec_l15Judge.kt x0 x1)) (spec_l15Judge.s9 x0 x1 v9_0) = spec_l15Judge.l9 x0 x1 v9_0 := by
  rw [spec_l15Judge.r9]
  rfl
noncomputable abbrev spec_l15Judge.s (x0 : THead) (x1 : THead) : V.St := ⟨[(0, .v true [.val (.int .i64 x0.1), .val (.int .i64 x0.2.1), .val (.int .i64 x0.2.2.1), .val (.int .i64 x0.2.2.2.1), .val (.int .i64 x0.2.2.2.2.1), .val (.int .i64 x0.2.2.2.2.2.1), .val (.int .i64 x0.2.2.2.2.2.2.1), .val (.int .i64 x0.2.2.2.2.2.2.2.1), .val (.sl (.cons (.int .i64) .nil) x0.2.2.2.2.2.2.2.2.1), .val (.int .i64 x0.2.2.2.2.2.2.2.2.2.1), .val (.sl (.cons (.int .i64) .nil) x0.2.2.2.2.2.2.2.2.2.2.1), .val (.int .i64 x0.2.2.2.2.2.2.2.2.2.2.2.1), .val (.int .i64 x0.2.2.2.2.2.2.2.2.2.2.2.2.1), .val (.sl (.cons (.int .i64) .nil) x0.2.2.2.2.2.2.2.2.2.2.2.2.2.1), .val (.int .i64 x0.2.2.2.2.2.2.2.2.2.2.2.2.2.2.1), .val (.bool x0.2.2.2.2.2.2.2.2.2.2.2.2.2.2.2)]), (1, .v true [.val (.int .i64 x1.1), .val (.int .i64 x1.2.1), .val (.int .i64 x1.2.2.1), .val (.int .i64 x1.2.2.2.1), .val (.int .i64 x1.2.2.2.2.1), .val (.int .i64 x1.2.2.2.2.2.1), .val (.int .i64 x1.2.2.2.2.2.2.1), .val (.int .i64 x1.2.2.2.2.2.2.2.1), .val (.sl (.cons (.int .i64) .nil) x1.2.2.2.2.2.2.2.2.1), .val (.int .i64 x1.2.2.2.2.2.2.2.2.2.1), .val (.sl (.cons (.int .i64) .nil) x1.2.2.2.2.2.2.2.2.2.2.1), .val (.int .i64 x1.2.2.2.2.2.2.2.2.2.2.2.1), .val (.int .i64 x1.2.2.2.2.2.2.2.2.2.2.2.2.1), .val (.sl (.cons (.int .i64) .nil) x1.2.2.2.2.2.2.2.2.2.2.2.2.2.1), .val (.int .i64 x1.2.2.2.2.2.2.2.2.2.2.2.2.2.2.1), .val (.bool x1.2.2.2.2.2.2.2.2.2.2.2.2.2.2.2)])], []⟩
theorem spec_l15Judge.v0 (x0 : THead) (x1 : THead) : V.evBody spec_l15Judge.E spec_l15Judge.con Tryz.f286 (V.fl4 x0 x1) = V.evC spec_l15Judge.E Tryz.f286.ntmps (V.codeOf Tryz.f286) (spec_l15Judge.kt x0 x1) (spec_l15Judge.s x0 x1) := by kernel_rfl
theorem spec_l15Judge.v (x0 : THead) (x1 : THead) : V.evC spec_l15Judge.E Tryz.f286.ntmps (V.codeOf Tryz.f286) (spec_l15Judge.kt x0 x1) (spec_l15Judge.s x0 x1) = spec_l15Judge.b x0 x1 (fun v9_0 => V.normK 9 ([2, 3, 9], []) (V.joinF spec_l15Judge.E Tryz.f286.ntmps [1, 0, 0, 1, 1] [] (V.codeOf Tryz.f286) (spec_l15Judge.kt x0 x1)) (spec_l15Judge.s9 x0 x1 v9_0)) := by kernel_rfl
theorem spec_l15Judge.eq (x0 : THead) (x1 : THead) : V.evBody spec_l15Judge.E spec_l15Judge.con Tryz.f286 (V.fl4 x0 x1) = spec_l15Judge x0 x1 := by
  rw [spec_l15Judge.v0, spec_l15Judge.v]
  simp only [spec_l15Judge.e9]
  rfl
theorem spec_l15Judge.ok : V.Valid Tryz.prog 286 spec_l15Judge.con :=
  V.fo (V.tab_cons spec_NoKeys.ok (V.tab_cons spec_EqualKeys.ok (V.tab_cons spec_SameContents.ok V.tab_nil))) Tryz.func286 (by kernel_rfl) (fun x y h => (show V.evBody spec_l15Judge.E spec_l15Judge.con Tryz.f286 x = _ from spec_l15Judge.eq (V.p4_0 x) (V.p4_1 x)).trans (V.cfl (by kernel_rfl) h))
noncomputable abbrev spec_NextCode.con : V.Con := ⟨V.A5, (.cons (.int .i64) .nil), fun (x : V.D5) => spec_NextCode (V.p5_0 x) (V.p5_1 x), [], [(true, 16), (true, 17)], [(false, 1)], [false], []⟩
noncomputable abbrev spec_NextCode.E : V.Env := V.mkE V.tys [(183, spec_IsHead.con), (185, spec_HeadDigest.con), (205, spec_HeadInts.con), (284, spec_l15Owner.con), (285, spec_l15Heir.con), (286, spec_l15Judge.con), (287, spec_IsSigned.con)] [(9, [2, 3, 5], []), (13, [2, 3, 5], []), (31, [3, 5, 6, 7], [])] [(4, 25), (15, 8)] [] [] []
noncomputable abbrev spec_NextCode.kt (x0 : THead) (x1 : TSigned) : V.Kt Int := V.ktOf spec_NextCode.E spec_NextCode.con Tryz.f242 (V.fl5 x0 x1)
noncomputable abbrev spec_NextCode.s31 (x1 : TSigned) (v31_0 : Int) (v31_34 : List Int) (v31_35 : Int) : V.St := ⟨[(3, .v false [.ptr 64064 0]), (5, .v false [.ptr 128128 0]), (6, .v false [.val (.int .i64 v31_0)]), (7, .v false [.ptr 512128 0])], [(64064, .box [.val (.int .i64 x1.1), .val (.int .i64 x1.2.1), .val (.int .i64 x1.2.2.1), .val (.int .i64 x1.2.2.2.1), .val (.int .i64 x1.2.2.2.2.1), .val (.int .i64 x1.2.2.2.2.2.1), .val (.int .i64 x1.2.2.2.2.2.2.1), .val (.int .i64 x1.2.2.2.2.2.2.2.1), .val (.sl (.cons (.int .i64) .nil) x1.2.2.2.2.2.2.2.2.1), .val (.int .i64 x1.2.2.2.2.2.2.2.2.2.1), .val (.sl (.cons (.int .i64) .nil) x1.2.2.2.2.2.2.2.2.2.2.1), .val (.int .i64 x1.2.2.2.2.2.2.2.2.2.2.2.1), .val (.int .i64 x1.2.2.2.2.2.2.2.2.2.2.2.2.1), .val (.sl (.cons (.int .i64) .nil) x1.2.2.2.2.2.2.2.2.2.2.2.2.2.1), .val (.int .i64 x1.2.2.2.2.2.2.2.2.2.2.2.2.2.2.1), .val (.bool x1.2.2.2.2.2.2.2.2.2.2.2.2.2.2.2.1), .val (.sl (.cons (.int .i64) (.cons (.int .i64) .nil)) x1.2.2.2.2.2.2.2.2.2.2.2.2.2.2.2.2)]), (128128, .box [.val (.int .i64 x1.1), .val (.int .i64 x1.2.1), .val (.int .i64 x1.2.2.1), .val (.int .i64 x1.2.2.2.1), .val (.int .i64 x1.2.2.2.2.1), .val (.int .i64 x1.2.2.2.2.2.1), .val (.int .i64 x1.2.2.2.2.2.2.1), .val (.int .i64 x1.2.2.2.2.2.2.2.1), .val (.sl (.cons (.int .i64) .nil) x1.2.2.2.2.2.2.2.2.1), .val (.int .i64 x1.2.2.2.2.2.2.2.2.2.1), .val (.sl (.cons (.int .i64) .nil) x1.2.2.2.2.2.2.2.2.2.2.1), .val (.int .i64 x1.2.2.2.2.2.2.2.2.2.2.2.1), .val (.int .i64 x1.2.2.2.2.2.2.2.2.2.2.2.2.1), .val (.sl (.cons (.int .i64) .nil) x1.2.2.2.2.2.2.2.2.2.2.2.2.2.1), .val (.int .i64 x1.2.2.2.2.2.2.2.2.2.2.2.2.2.2.1), .val (.bool x1.2.2.2.2.2.2.2.2.2.2.2.2.2.2.2.1)]), (512128, .box [.val (.sl (.cons (.int .i64) .nil) v31_34), .val (.int .i64 v31_35)])]⟩
noncomputable abbrev spec_NextCode.s13 (x0 : THead) (x1 : TSigned) : V.St := ⟨[(2, .v false [.ptr 64000 0]), (3, .v false [.ptr 64064 0]), (5, .v false [.ptr 128128 0])], [(64000, .box [.val (.int .i64 x0.1), .val (.int .i64 x0.2.1), .val (.int .i64 x0.2.2.1), .val (.int .i64 x0.2.2.2.1), .val (.int .i64 x0.2.2.2.2.1), .val (.int .i64 x0.2.2.2.2.2.1), .val (.int .i64 x0.2.2.2.2.2.2.1), .val (.int .i64 x0.2.2.2.2.2.2.2.1), .val (.sl (.cons (.int .i64) .nil) x0.2.2.2.2.2.2.2.2.1), .val (.int .i64 x0.2.2.2.2.2.2.2.2.2.1), .val (.sl (.cons (.int .i64) .nil) x0.2.2.2.2.2.2.2.2.2.2.1), .val (.int .i64 x0.2.2.2.2.2.2.2.2.2.2.2.1), .val (.int .i64 x0.2.2.2.2.2.2.2.2.2.2.2.2.1), .val (.sl (.cons (.int .i64) .nil) x0.2.2.2.2.2.2.2.2.2.2.2.2.2.1), .val (.int .i64 x0.2.2.2.2.2.2.2.2.2.2.2.2.2.2.1), .val (.bool x0.2.2.2.2.2.2.2.2.2.2.2.2.2.2.2)]), (64064, .box [.val (.int .i64 x1.1), .val (.int .i64 x1.2.1), .val (.int .i64 x1.2.2.1), .val (.int .i64 x1.2.2.2.1), .val (.int .i64 x1.2.2.2.2.1), .val (.int .i64 x1.2.2.2.2.2.1), .val (.int .i64 x1.2.2.2.2.2.2.1), .val (.int .i64 x1.2.2.2.2.2.2.2.1), .val (.sl (.cons (.int .i64) .nil) x1.2.2.2.2.2.2.2.2.1), .val (.int .i64 x1.2.2.2.2.2.2.2.2.2.1), .val (.sl (.cons (.int .i64) .nil) x1.2.2.2.2.2.2.2.2.2.2.1), .val (.int .i64 x1.2.2.2.2.2.2.2.2.2.2.2.1), .val (.int .i64 x1.2.2.2.2.2.2.2.2.2.2.2.2.1), .val (.sl (.cons (.int .i64) .nil) x1.2.2.2.2.2.2.2.2.2.2.2.2.2.1), .val (.int .i64 x1.2.2.2.2.2.2.2.2.2.2.2.2.2.2.1), .val (.bool x1.2.2.2.2.2.2.2.2.2.2.2.2.2.2.2.1), .val (.sl (.cons (.int .i64) (.cons (.int .i64) .nil)) x1.2.2.2.2.2.2.2.2.2.2.2.2.2.2.2.2)]), (128128, .box [.val (.int .i64 x1.1), .val (.int .i64 x1.2.1), .val (.int .i64 x1.2.2.1), .val (.int .i64 x1.2.2.2.1), .val (.int .i64 x1.2.2.2.2.1), .val (.int .i64 x1.2.2.2.2.2.1), .val (.int .i64 x1.2.2.2.2.2.2.1), .val (.int .i64 x1.2.2.2.2.2.2.2.1), .val (.sl (.cons (.int .i64) .nil) x1.2.2.2.2.2.2.2.2.1), .val (.int .i64 x1.2.2.2.2.2.2.2.2.2.1), .val (.sl (.cons (.int .i64) .nil) x1.2.2.2.2.2.2.2.2.2.2.1), .val (.int .i64 x1.2.2.2.2.2.2.2.2.2.2.2.1), .val (.int .i64 x1.2.2.2.2.2.2.2.2.2.2.2.2.1), .val (.sl (.cons (.int .i64) .nil) x1.2.2.2.2.2.2.2.2.2.2.2.2.2.1), .val (.int .i64 x1.2.2.2.2.2.2.2.2.2.2.2.2.2.2.1), .val (.bool x1.2.2.2.2.2.2.2.2.2.2.2.2.2.2.2.1)])]⟩
noncomputable abbrev spec_NextCode.s9 (x0 : THead) (x1 : TSigned) : V.St := ⟨[(2, .v false [.ptr 64000 0]), (3, .v false [.ptr 64064 0]), (5, .v false [.ptr 128128 0])], [(64000, .box [.val (.int .i64 x0.1), .val (.int .i64 x0.2.1), .val (.int .i64 x0.2.2.1), .val (.int .i64 x0.2.2.2.1), .val (.int .i64 x0.2.2.2.2.1), .val (.int .i64 x0.2.2.2.2.2.1), .val (.int .i64 x0.2.2.2.2.2.2.1), .val (.int .i64 x0.2.2.2.2.2.2.2.1), .val (.sl (.cons (.int .i64) .nil) x0.2.2.2.2.2.2.2.2.1), .val (.int .i64 x0.2.2.2.2.2.2.2.2.2.1), .val (.sl (.cons (.int .i64) .nil) x0.2.2.2.2.2.2.2.2.2.2.1), .val (.int .i64 x0.2.2.2.2.2.2.2.2.2.2.2.1), .val (.int .i64 x0.2.2.2.2.2.2.2.2.2.2.2.2.1), .val (.sl (.cons (.int .i64) .nil) x0.2.2.2.2.2.2.2.2.2.2.2.2.2.1), .val (.int .i64 x0.2.2.2.2.2.2.2.2.2.2.2.2.2.2.1), .val (.bool x0.2.2.2.2.2.2.2.2.2.2.2.2.2.2.2)]), (64064, .box [.val (.int .i64 x1.1), .val (.int .i64 x1.2.1), .val (.int .i64 x1.2.2.1), .val (.int .i64 x1.2.2.2.1), .val (.int .i64 x1.2.2.2.2.1), .val (.int .i64 x1.2.2.2.2.2.1), .val (.int .i64 x1.2.2.2.2.2.2.1), .val (.int .i64 x1.2.2.2.2.2.2.2.1), .val (.sl (.cons (.int .i64) .nil) x1.2.2.2.2.2.2.2.2.1), .val (.int .i64 x1.2.2.2.2.2.2.2.2.2.1), .val (.sl (.cons (.int .i64) .nil) x1.2.2.2.2.2.2.2.2.2.2.1), .val (.int .i64 x1.2.2.2.2.2.2.2.2.2.2.2.1), .val (.int .i64 x1.2.2.2.2.2.2.2.2.2.2.2.2.1), .val (.sl (.cons (.int .i64) .nil) x1.2.2.2.2.2.2.2.2.2.2.2.2.2.1), .val (.int .i64 x1.2.2.2.2.2.2.2.2.2.2.2.2.2.2.1), .val (.bool x1.2.2.2.2.2.2.2.2.2.2.2.2.2.2.2.1), .val (.sl (.cons (.int .i64) (.cons (.int .i64) .nil)) x1.2.2.2.2.2.2.2.2.2.2.2.2.2.2.2.2)]), (128128, .box [.val (.int .i64 x1.1), .val (.int .i64 x1.2.1), .val (.int .i64 x1.2.2.1), .val (.int .i64 x1.2.2.2.1), .val (.int .i64 x1.2.2.2.2.1), .val (.int .i64 x1.2.2.2.2.2.1), .val (.int .i64 x1.2.2.2.2.2.2.1), .val (.int .i64 x1.2.2.2.2.2.2.2.1), .val (.sl (.cons (.int .i64) .nil) x1.2.2.2.2.2.2.2.2.1), .val (.int .i64 x1.2.2.2.2.2.2.2.2.2.1), .val (.sl (.cons (.int .i64) .nil) x1.2.2.2.2.2.2.2.2.2.2.1), .val (.int .i64 x1.2.2.2.2.2.2.2.2.2.2.2.1), .val (.int .i64 x1.2.2.2.2.2.2.2.2.2.2.2.2.1), .val (.sl (.cons (.int .i64) .nil) x1.2.2.2.2.2.2.2.2.2.2.2.2.2.1), .val (.int .i64 x1.2.2.2.2.2.2.2.2.2.2.2.2.2.2.1), .val (.bool x1.2.2.2.2.2.2.2.2.2.2.2.2.2.2.2.1)])]⟩
theorem spec_NextCode.r31 (x0 : THead) (x1 : TSigned) (v31_0 : Int) (v31_34 : List Int) (v31_35 : Int) : V.normK 31 ([3, 5, 6, 7], []) (V.joinF spec_NextCode.E Tryz.f242.ntmps [1, 1, 1, 1, 1, 1] [] (V.codeOf Tryz.f242) (spec_NextCode.kt x0 x1)) (spec_NextCode.s31 x1 v31_0 v31_34 v31_35) = spec_NextCode.g31 x1 v31_0 v31_34 v31_35 := by kernel_rfl
theorem spec_NextCode.e31 (x0 : THead) (x1 : TSigned) (v31_0 : Int) (v31_34 : List Int) (v31_35 : Int) : V.normK 31 ([3, 5, 6, 7], []) (V.joinF spec_NextCode.E Tryz.f242.ntmps [1, 1, 1, 1, 1, 1] [] (V.codeOf Tryz.f242) (spec_NextCode.kt x0 x1)) (spec_NextCode.s31 x1 v31_0 v31_34 v31_35) = spec_NextCode.l31 x1 v31_0 v31_34 v31_35 := by
  rw [spec_NextCode.r31]
  rfl
theorem spec_NextCode.r13 (x0 : THead) (x1 : TSigned) : V.normK 13 ([2, 3, 5], []) (V.joinF spec_NextCode.E Tryz.f242.ntmps [1, 1, 1] [] (V.codeOf Tryz.f242) (spec_NextCode.kt x0 x1)) (spec_NextCode.s13 x0 x1) = spec_NextCode.g13 x0 x1 (fun v31_0 v31_34 v31_35 => V.normK 31 ([3, 5, 6, 7], []) (V.joinF spec_NextCode.E Tryz.f242.ntmps [1, 1, 1, 1, 1, 1] [] (V.codeOf Tryz.f242) (spec_NextCode.kt x0 x1)) (spec_NextCode.s31 x1 v31_0 v31_34 v31_35)) := by kernel_rfl
theorem spec_NextCode.e13 (x0 : THead) (x1 : TSigned) : V.normK 13 ([2, 3, 5], []) (V.joinF spec_NextCode.E Tryz.f242.ntmps [1, 1, 1] [] (V.codeOf Tryz.f242) (spec_NextCode.kt x0 x1)) (spec_NextCode.s13 x0 x1) = spec_NextCode.l13 x0 x1 := by
  rw [spec_NextCode.r13]
  simp only [spec_NextCode.e31]
  rfl
theorem spec_NextCode.r9 (x0 : THead) (x1 : TSigned) : V.normK 9 ([2, 3, 5], []) (V.joinF spec_NextCode.E Tryz.f242.ntmps [1, 1] [] (V.codeOf Tryz.f242) (spec_NextCode.kt x0 x1)) (spec_NextCode.s9 x0 x1) = spec_NextCode.g9 x0 x1 (V.normK 13 ([2, 3, 5], []) (V.joinF spec_NextCode.E Tryz.f242.ntmps [1, 1, 1] [] (V.codeOf Tryz.f242) (spec_NextCode.kt x0 x1)) (spec_NextCode.s13 x0 x1)) := by kernel_rfl
theorem spec_NextCode.e9 (x0 : THead) (x1 : TSigned) : V.normK 9 ([2, 3, 5], []) (V.joinF spec_NextCode.E Tryz.f242.ntmps [1, 1] [] (V.codeOf Tryz.f242) (spec_NextCode.kt x0 x1)) (spec_NextCode.s9 x0 x1) = spec_NextCode.l9 x0 x1 := by
  rw [spec_NextCode.r9]
  simp only [spec_NextCode.e13]
  rfl
noncomputable abbrev spec_NextCode.s (x0 : THead) (x1 : TSigned) : V.St := ⟨[(0, .v true [.val (.int .i64 x0.1), .val (.int .i64 x0.2.1), .val (.int .i64 x0.2.2.1), .val (.int .i64 x0.2.2.2.1), .val (.int .i64 x0.2.2.2.2.1), .val (.int .i64 x0.2.2.2.2.2.1), .val (.int .i64 x0.2.2.2.2.2.2.1), .val (.int .i64 x0.2.2.2.2.2.2.2.1), .val (.sl (.cons (.int .i64) .nil) x0.2.2.2.2.2.2.2.2.1), .val (.int .i64 x0.2.2.2.2.2.2.2.2.2.1), .val (.sl (.cons (.int .i64) .nil) x0.2.2.2.2.2.2.2.2.2.2.1), .val (.int .i64 x0.2.2.2.2.2.2.2.2.2.2.2.1), .val (.int .i64 x0.2.2.2.2.2.2.2.2.2.2.2.2.1), .val (.sl (.cons (.int .i64) .nil) x0.2.2.2.2.2.2.2.2.2.2.2.2.2.1), .val (.int .i64 x0.2.2.2.2.2.2.2.2.2.2.2.2.2.2.1), .val (.bool x0.2.2.2.2.2.2.2.2.2.2.2.2.2.2.2)]), (1, .v true [.val (.int .i64 x1.1), .val (.int .i64 x1.2.1), .val (.int .i64 x1.2.2.1), .val (.int .i64 x1.2.2.2.1), .val (.int .i64 x1.2.2.2.2.1), .val (.int .i64 x1.2.2.2.2.2.1), .val (.int .i64 x1.2.2.2.2.2.2.1), .val (.int .i64 x1.2.2.2.2.2.2.2.1), .val (.sl (.cons (.int .i64) .nil) x1.2.2.2.2.2.2.2.2.1), .val (.int .i64 x1.2.2.2.2.2.2.2.2.2.1), .val (.sl (.cons (.int .i64) .nil) x1.2.2.2.2.2.2.2.2.2.2.1), .val (.int .i64 x1.2.2.2.2.2.2.2.2.2.2.2.1), .val (.int .i64 x1.2.2.2.2.2.2.2.2.2.2.2.2.1), .val (.sl (.cons (.int .i64) .nil) x1.2.2.2.2.2.2.2.2.2.2.2.2.2.1), .val (.int .i64 x1.2.2.2.2.2.2.2.2.2.2.2.2.2.2.1), .val (.bool x1.2.2.2.2.2.2.2.2.2.2.2.2.2.2.2.1), .val (.sl (.cons (.int .i64) (.cons (.int .i64) .nil)) x1.2.2.2.2.2.2.2.2.2.2.2.2.2.2.2.2)])], []⟩
theorem spec_NextCode.v0 (x0 : THead) (x1 : TSigned) : V.evBody spec_NextCode.E spec_NextCode.con Tryz.f242 (V.fl5 x0 x1) = V.evC spec_NextCode.E Tryz.f242.ntmps (V.codeOf Tryz.f242) (spec_NextCode.kt x0 x1) (spec_NextCode.s x0 x1) := by kernel_rfl
theorem spec_NextCode.v (x0 : THead) (x1 : TSigned) : V.evC spec_NextCode.E Tryz.f242.ntmps (V.codeOf Tryz.f242) (spec_NextCode.kt x0 x1) (spec_NextCode.s x0 x1) = spec_NextCode.b x0 x1 (V.normK 9 ([2, 3, 5], []) (V.joinF spec_NextCode.E Tryz.f242.ntmps [1, 1] [] (V.codeOf Tryz.f242) (spec_NextCode.kt x0 x1)) (spec_NextCode.s9 x0 x1)) := by kernel_rfl
theorem spec_NextCode.eq (x0 : THead) (x1 : TSigned) : V.evBody spec_NextCode.E spec_NextCode.con Tryz.f242 (V.fl5 x0 x1) = spec_NextCode x0 x1 := by
  rw [spec_NextCode.v0, spec_NextCode.v]
  simp only [spec_NextCode.e9]
  rfl
theorem spec_NextCode.ok : V.Valid Tryz.prog 242 spec_NextCode.con :=
  V.fo (V.tab_cons spec_IsHead.ok (V.tab_cons spec_HeadDigest.ok (V.tab_cons spec_HeadInts.ok (V.tab_cons spec_l15Owner.ok (V.tab_cons spec_l15Heir.ok (V.tab_cons spec_l15Judge.ok (V.tab_cons spec_IsSigned.ok V.tab_nil))))))) Tryz.func242 (by kernel_rfl) (fun x y h => (show V.evBody spec_NextCode.E spec_NextCode.con Tryz.f242 x = _ from spec_NextCode.eq (V.p5_0 x) (V.p5_1 x)).trans (V.cfl (by kernel_rfl) h))
noncomputable abbrev spec_MayFollow.con : V.Con := ⟨V.A5, (.cons .bool .nil), fun (x : V.D5) => spec_MayFollow (V.p5_0 x) (V.p5_1 x), [], [(true, 16), (true, 17)], [(false, 1)], [false], []⟩
noncomputable abbrev spec_MayFollow.E : V.Env := V.mkE V.tys [(242, spec_NextCode.con)] [] [] [] [] []
noncomputable abbrev spec_MayFollow.kt (x0 : THead) (x1 : TSigned) : V.Kt Bool := V.ktOf spec_MayFollow.E spec_MayFollow.con Tryz.f265 (V.fl5 x0 x1)
noncomputable abbrev spec_MayFollow.s (x0 : THead) (x1 : TSigned) : V.St := ⟨[(0, .v true [.val (.int .i64 x0.1), .val (.int .i64 x0.2.1), .val (.int .i64 x0.2.2.1), .val (.int .i64 x0.2.2.2.1), .val (.int .i64 x0.2.2.2.2.1), .val (.int .i64 x0.2.2.2.2.2.1), .val (.int .i64 x0.2.2.2.2.2.2.1), .val (.int .i64 x0.2.2.2.2.2.2.2.1), .val (.sl (.cons (.int .i64) .nil) x0.2.2.2.2.2.2.2.2.1), .val (.int .i64 x0.2.2.2.2.2.2.2.2.2.1), .val (.sl (.cons (.int .i64) .nil) x0.2.2.2.2.2.2.2.2.2.2.1), .val (.int .i64 x0.2.2.2.2.2.2.2.2.2.2.2.1), .val (.int .i64 x0.2.2.2.2.2.2.2.2.2.2.2.2.1), .val (.sl (.cons (.int .i64) .nil) x0.2.2.2.2.2.2.2.2.2.2.2.2.2.1), .val (.int .i64 x0.2.2.2.2.2.2.2.2.2.2.2.2.2.2.1), .val (.bool x0.2.2.2.2.2.2.2.2.2.2.2.2.2.2.2)]), (1, .v true [.val (.int .i64 x1.1), .val (.int .i64 x1.2.1), .val (.int .i64 x1.2.2.1), .val (.int .i64 x1.2.2.2.1), .val (.int .i64 x1.2.2.2.2.1), .val (.int .i64 x1.2.2.2.2.2.1), .val (.int .i64 x1.2.2.2.2.2.2.1), .val (.int .i64 x1.2.2.2.2.2.2.2.1), .val (.sl (.cons (.int .i64) .nil) x1.2.2.2.2.2.2.2.2.1), .val (.int .i64 x1.2.2.2.2.2.2.2.2.2.1), .val (.sl (.cons (.int .i64) .nil) x1.2.2.2.2.2.2.2.2.2.2.1), .val (.int .i64 x1.2.2.2.2.2.2.2.2.2.2.2.1), .val (.int .i64 x1.2.2.2.2.2.2.2.2.2.2.2.2.1), .val (.sl (.cons (.int .i64) .nil) x1.2.2.2.2.2.2.2.2.2.2.2.2.2.1), .val (.int .i64 x1.2.2.2.2.2.2.2.2.2.2.2.2.2.2.1), .val (.bool x1.2.2.2.2.2.2.2.2.2.2.2.2.2.2.2.1), .val (.sl (.cons (.int .i64) (.cons (.int .i64) .nil)) x1.2.2.2.2.2.2.2.2.2.2.2.2.2.2.2.2)])], []⟩
theorem spec_MayFollow.v0 (x0 : THead) (x1 : TSigned) : V.evBody spec_MayFollow.E spec_MayFollow.con Tryz.f265 (V.fl5 x0 x1) = V.evC spec_MayFollow.E Tryz.f265.ntmps (V.codeOf Tryz.f265) (spec_MayFollow.kt x0 x1) (spec_MayFollow.s x0 x1) := by kernel_rfl
theorem spec_MayFollow.v (x0 : THead) (x1 : TSigned) : V.evC spec_MayFollow.E Tryz.f265.ntmps (V.codeOf Tryz.f265) (spec_MayFollow.kt x0 x1) (spec_MayFollow.s x0 x1) = spec_MayFollow x0 x1 := by kernel_rfl
theorem spec_MayFollow.eq (x0 : THead) (x1 : TSigned) : V.evBody spec_MayFollow.E spec_MayFollow.con Tryz.f265 (V.fl5 x0 x1) = spec_MayFollow x0 x1 := (spec_MayFollow.v0 x0 x1).trans (spec_MayFollow.v x0 x1)
theorem spec_MayFollow.ok : V.Valid Tryz.prog 265 spec_MayFollow.con :=
  V.fo (V.tab_cons spec_NextCode.ok V.tab_nil) Tryz.func265 (by kernel_rfl) (fun x y h => (show V.evBody spec_MayFollow.E spec_MayFollow.con Tryz.f265 x = _ from spec_MayFollow.eq (V.p5_0 x) (V.p5_1 x)).trans (V.cfl (by kernel_rfl) h))
noncomputable abbrev spec_FirstWrong.con : V.Con := ⟨(.cons (.sl V.eSigned) .nil), (.cons (.int .i64) .nil), fun (x : List TSigned) => spec_FirstWrong x, [], [(false, 1)], [(false, 1)], [false], []⟩
noncomputable abbrev spec_FirstWrong.E : V.Env := V.mkE V.tys [(264, spec_IsFirst.con), (265, spec_MayFollow.con)] [(4, [0, 3], [])] [(4, 23)] [] [] []
noncomputable abbrev spec_FirstWrong.kt (x0 : List TSigned) : V.Kt Int := V.ktOf spec_FirstWrong.E spec_FirstWrong.con Tryz.f203 ((x0) : List TSigned)
noncomputable abbrev spec_FirstWrong.s4 (x0 : List TSigned) (v4_1 : Int) : V.St := ⟨[(0, .v false [.val (.sl V.eSigned x0)]), (3, .v false [.val (.int .i64 v4_1)])], []⟩
theorem spec_FirstWrong.r4 (x0 : List TSigned) (R : V.St → Option Int) (v4_1 : Int) : V.loopF spec_FirstWrong.E Tryz.f203.ntmps [1, 0, 1, 0] [] (V.codeOf Tryz.f203) (spec_FirstWrong.kt x0) R (spec_FirstWrong.s4 x0 v4_1) = spec_FirstWrong.g4 x0 (fun v4_1 => R (spec_FirstWrong.s4 x0 v4_1)) v4_1 := by kernel_rfl
theorem spec_FirstWrong.e4 (x0 : List TSigned) : ∀ (n : Nat) (v4_1 : Int), V.loopN (V.loopF spec_FirstWrong.E Tryz.f203.ntmps [1, 0, 1, 0] [] (V.codeOf Tryz.f203) (spec_FirstWrong.kt x0)) n (spec_FirstWrong.s4 x0 v4_1) = spec_FirstWrong.l4 x0 n v4_1 := by
  intro n
  induction n with
  | zero => intros; rw [V.loopN_z]; rfl
  | succ n ih =>
    intro v4_1
    rw [V.loopN_s, spec_FirstWrong.r4]
    simp only [ih]
    first | exact (spec_FirstWrong.u4 ..).symm | rfl
theorem spec_FirstWrong.v (x0 : List TSigned) : V.evBody spec_FirstWrong.E spec_FirstWrong.con Tryz.f203 ((x0) : List TSigned) = spec_FirstWrong.b x0 (fun v4_1 => V.loopN (V.loopF spec_FirstWrong.E Tryz.f203.ntmps [1, 0, 1, 0] [] (V.codeOf Tryz.f203) (spec_FirstWrong.kt x0)) V.KK (spec_FirstWrong.s4 x0 v4_1)) := by kernel_rfl
theorem spec_FirstWrong.eq (x0 : List TSigned) : V.evBody spec_FirstWrong.E spec_FirstWrong.con Tryz.f203 ((x0) : List TSigned) = spec_FirstWrong x0 := by
  rw [spec_FirstWrong.v]
  simp only [spec_FirstWrong.e4]
  rfl
theorem spec_FirstWrong.ok : V.Valid Tryz.prog 203 spec_FirstWrong.con :=
  V.fo (V.tab_cons spec_IsFirst.ok (V.tab_cons spec_MayFollow.ok V.tab_nil)) Tryz.func203 (by kernel_rfl) (fun x y h => (show V.evBody spec_FirstWrong.E spec_FirstWrong.con Tryz.f203 x = _ from spec_FirstWrong.eq x).trans (V.cfl (by kernel_rfl) h))
noncomputable abbrev spec_IsChain.con : V.Con := ⟨(.cons (.sl V.eSigned) .nil), (.cons .bool .nil), fun (x : List TSigned) => spec_IsChain x, [], [(false, 1)], [(false, 1)], [false], []⟩
noncomputable abbrev spec_IsChain.E : V.Env := V.mkE V.tys [(147, spec_l1In.con), (203, spec_FirstWrong.con)] [] [] [] [] []
theorem spec_IsChain.eq (x0 : List TSigned) : V.evBody spec_IsChain.E spec_IsChain.con Tryz.f99 ((x0) : List TSigned) = spec_IsChain x0 := by kernel_rfl
theorem spec_IsChain.ok : V.Valid Tryz.prog 99 spec_IsChain.con :=
  V.fo (V.tab_cons spec_l1In.ok (V.tab_cons spec_FirstWrong.ok V.tab_nil)) Tryz.func99 (by kernel_rfl) (fun x y h => (show V.evBody spec_IsChain.E spec_IsChain.con Tryz.f99 x = _ from spec_IsChain.eq x).trans (V.cfl (by kernel_rfl) h))
noncomputable abbrev spec_l19Against.con : V.Con := ⟨(.cons (.int .i64) (.cons (.sl (.cons (.int .i64) (.cons (.int .i64) (.cons (.int .i64) .nil)))) (.cons (.sl V.eSigned) .nil))), (.cons .bool .nil), fun (x : Int × List TMark × List TSigned) => spec_l19Against (x.1, x.2.1) x.2.2, [], [(true, 2), (false, 1)], [(false, 1)], [false], []⟩
noncomputable abbrev spec_l19Against.E : V.Env := V.mkE V.tys [(185, spec_HeadDigest.con)] [(6, [1, 2, 5, 6], [])] [(7, 15)] [] [] []
noncomputable abbrev spec_l19Against.kt (x0 : TWitness) (x1 : List TSigned) : V.Kt Bool := V.ktOf spec_l19Against.E spec_l19Against.con Tryz.f115 ((x0.1, x0.2, x1) : Int × List TMark × List TSigned)
noncomputable abbrev spec_l19Against.s6 (x0 : TWitness) (x1 : List TSigned) (v6_1 : Int) (v6_4 : Int) (v6_5 : Int) (v6_6 : Int) (v6_7 : Int) (v6_8 : Int) (v6_9 : Int) (v6_10 : Int) (v6_11 : Int) (v6_12 : List Int) (v6_13 : Int) (v6_14 : List Int) (v6_15 : Int) (v6_16 : Int) (v6_17 : List Int) (v6_18 : Int) (v6_19 : Bool) : V.St := ⟨[(1, .v false [.val (.sl V.eSigned x1)]), (2, .v false [.ptr 64000 0]), (5, .v false [.ptr 128448 0]), (6, .v false [.val (.int .i64 v6_1)])], [(64000, .box [.val (.int .i64 x0.1), .val (.sl (.cons (.int .i64) (.cons (.int .i64) (.cons (.int .i64) .nil))) x0.2)]), (128448, .box [.val (.int .i64 v6_4), .val (.int .i64 v6_5), .val (.int .i64 v6_6), .val (.int .i64 v6_7), .val (.int .i64 v6_8), .val (.int .i64 v6_9), .val (.int .i64 v6_10), .val (.int .i64 v6_11), .val (.sl (.cons (.int .i64) .nil) v6_12), .val (.int .i64 v6_13), .val (.sl (.cons (.int .i64) .nil) v6_14), .val (.int .i64 v6_15), .val (.int .i64 v6_16), .val (.sl (.cons (.int .i64) .nil) v6_17), .val (.int .i64 v6_18), .val (.bool v6_19)])]⟩
theorem spec_l19Against.r6 (x0 : TWitness) (x1 : List TSigned) (R : V.St → Option Bool) (v6_1 : Int) (v6_4 : Int) (v6_5 : Int) (v6_6 : Int) (v6_7 : Int) (v6_8 : Int) (v6_9 : Int) (v6_10 : Int) (v6_11 : Int) (v6_12 : List Int) (v6_13 : Int) (v6_14 : List Int) (v6_15 : Int) (v6_16 : Int) (v6_17 : List Int) (v6_18 : Int) (v6_19 : Bool) : V.loopF spec_l19Against.E Tryz.f115.ntmps [1, 1, 0, 1, 0] [] (V.codeOf Tryz.f115) (spec_l19Against.kt x0 x1) R (spec_l19Against.s6 x0 x1 v6_1 v6_4 v6_5 v6_6 v6_7 v6_8 v6_9 v6_10 v6_11 v6_12 v6_13 v6_14 v6_15 v6_16 v6_17 v6_18 v6_19) = spec_l19Against.g6 x0 x1 (fun v6_1 v6_4 v6_5 v6_6 v6_7 v6_8 v6_9 v6_10 v6_11 v6_12 v6_13 v6_14 v6_15 v6_16 v6_17 v6_18 v6_19 => R (spec_l19Against.s6 x0 x1 v6_1 v6_4 v6_5 v6_6 v6_7 v6_8 v6_9 v6_10 v6_11 v6_12 v6_13 v6_14 v6_15 v6_16 v6_17 v6_18 v6_19)) v6_1 v6_4 v6_5 v6_6 v6_7 v6_8 v6_9 v6_10 v6_11 v6_12 v6_13 v6_14 v6_15 v6_16 v6_17 v6_18 v6_19 := by kernel_rfl
theorem spec_l19Against.e6 (x0 : TWitness) (x1 : List TSigned) : ∀ (n : Nat) (v6_1 : Int) (v6_4 : Int) (v6_5 : Int) (v6_6 : Int) (v6_7 : Int) (v6_8 : Int) (v6_9 : Int) (v6_10 : Int) (v6_11 : Int) (v6_12 : List Int) (v6_13 : Int) (v6_14 : List Int) (v6_15 : Int) (v6_16 : Int) (v6_17 : List Int) (v6_18 : Int) (v6_19 : Bool), V.loopN (V.loopF spec_l19Against.E Tryz.f115.ntmps [1, 1, 0, 1, 0] [] (V.codeOf Tryz.f115) (spec_l19Against.kt x0 x1)) n (spec_l19Against.s6 x0 x1 v6_1 v6_4 v6_5 v6_6 v6_7 v6_8 v6_9 v6_10 v6_11 v6_12 v6_13 v6_14 v6_15 v6_16 v6_17 v6_18 v6_19) = spec_l19Against.l6 x0 x1 n v6_1 v6_4 v6_5 v6_6 v6_7 v6_8 v6_9 v6_10 v6_11 v6_12 v6_13 v6_14 v6_15 v6_16 v6_17 v6_18 v6_19 := by
  intro n
  induction n with
  | zero => intros; rw [V.loopN_z]; rfl
  | succ n ih =>
    intro v6_1 v6_4 v6_5 v6_6 v6_7 v6_8 v6_9 v6_10 v6_11 v6_12 v6_13 v6_14 v6_15 v6_16 v6_17 v6_18 v6_19
    rw [V.loopN_s, spec_l19Against.r6]
    simp only [ih]
    first | exact (spec_l19Against.u6 ..).symm | rfl
theorem spec_l19Against.v (x0 : TWitness) (x1 : List TSigned) : V.evBody spec_l19Against.E spec_l19Against.con Tryz.f115 ((x0.1, x0.2, x1) : Int × List TMark × List TSigned) = spec_l19Against.b x0 x1 (fun v6_1 v6_4 v6_5 v6_6 v6_7 v6_8 v6_9 v6_10 v6_11 v6_12 v6_13 v6_14 v6_15 v6_16 v6_17 v6_18 v6_19 => V.loopN (V.loopF spec_l19Against.E Tryz.f115.ntmps [1, 1, 0, 1, 0] [] (V.codeOf Tryz.f115) (spec_l19Against.kt x0 x1)) V.KK (spec_l19Against.s6 x0 x1 v6_1 v6_4 v6_5 v6_6 v6_7 v6_8 v6_9 v6_10 v6_11 v6_12 v6_13 v6_14 v6_15 v6_16 v6_17 v6_18 v6_19)) := by kernel_rfl
theorem spec_l19Against.eq (x0 : TWitness) (x1 : List TSigned) : V.evBody spec_l19Against.E spec_l19Against.con Tryz.f115 ((x0.1, x0.2, x1) : Int × List TMark × List TSigned) = spec_l19Against x0 x1 := by
  rw [spec_l19Against.v]
  simp only [spec_l19Against.e6]
  rfl
theorem spec_l19Against.ok : V.Valid Tryz.prog 115 spec_l19Against.con :=
  V.fo (V.tab_cons spec_HeadDigest.ok V.tab_nil) Tryz.func115 (by kernel_rfl) (fun x y h => (show V.evBody spec_l19Against.E spec_l19Against.con Tryz.f115 x = _ from spec_l19Against.eq (x.1, x.2.1) x.2.2).trans (V.cfl (by kernel_rfl) h))
noncomputable abbrev spec_MarkOf.con : V.Con := ⟨V.A2, (.cons (.int .i64) (.cons (.int .i64) (.cons (.int .i64) .nil))), fun (x : V.D2) => spec_MarkOf (V.p2_0 x), [], [(true, 16)], [(true, 3)], [false, false, false], []⟩
noncomputable abbrev spec_MarkOf.E : V.Env := V.mkE V.tys [(185, spec_HeadDigest.con)] [] [(1, 6)] [] [] []
noncomputable abbrev spec_MarkOf.kt (x0 : THead) : V.Kt TMark := V.ktOf spec_MarkOf.E spec_MarkOf.con Tryz.f116 (V.fl2 x0)
noncomputable abbrev spec_MarkOf.s (x0 : THead) : V.St := ⟨[(0, .v true [.val (.int .i64 x0.1), .val (.int .i64 x0.2.1), .val (.int .i64 x0.2.2.1), .val (.int .i64 x0.2.2.2.1), .val (.int .i64 x0.2.2.2.2.1), .val (.int .i64 x0.2.2.2.2.2.1), .val (.int .i64 x0.2.2.2.2.2.2.1), .val (.int .i64 x0.2.2.2.2.2.2.2.1), .val (.sl (.cons (.int .i64) .nil) x0.2.2.2.2.2.2.2.2.1), .val (.int .i64 x0.2.2.2.2.2.2.2.2.2.1), .val (.sl (.cons (.int .i64) .nil) x0.2.2.2.2.2.2.2.2.2.2.1), .val (.int .i64 x0.2.2.2.2.2.2.2.2.2.2.2.1), .val (.int .i64 x0.2.2.2.2.2.2.2.2.2.2.2.2.1), .val (.sl (.cons (.int .i64) .nil) x0.2.2.2.2.2.2.2.2.2.2.2.2.2.1), .val (.int .i64 x0.2.2.2.2.2.2.2.2.2.2.2.2.2.2.1), .val (.bool x0.2.2.2.2.2.2.2.2.2.2.2.2.2.2.2)])], []⟩
theorem spec_MarkOf.v0 (x0 : THead) : V.evBody spec_MarkOf.E spec_MarkOf.con Tryz.f116 (V.fl2 x0) = V.evC spec_MarkOf.E Tryz.f116.ntmps (V.codeOf Tryz.f116) (spec_MarkOf.kt x0) (spec_MarkOf.s x0) := by kernel_rfl
theorem spec_MarkOf.v (x0 : THead) : V.evC spec_MarkOf.E Tryz.f116.ntmps (V.codeOf Tryz.f116) (spec_MarkOf.kt x0) (spec_MarkOf.s x0) = spec_MarkOf x0 := by kernel_rfl
theorem spec_MarkOf.eq (x0 : THead) : V.evBody spec_MarkOf.E spec_MarkOf.con Tryz.f116 (V.fl2 x0) = spec_MarkOf x0 := (spec_MarkOf.v0 x0).trans (spec_MarkOf.v x0)
theorem spec_MarkOf.ok : V.Valid Tryz.prog 116 spec_MarkOf.con :=
  V.fo (V.tab_cons spec_HeadDigest.ok V.tab_nil) Tryz.func116 (by kernel_rfl) (fun x y h => (show V.evBody spec_MarkOf.E spec_MarkOf.con Tryz.f116 x = _ from spec_MarkOf.eq (V.p2_0 x)).trans (V.cfl (by kernel_rfl) h))
noncomputable abbrev spec_MarkInts.con : V.Con := ⟨(.cons (.int .i64) (.cons (.int .i64) (.cons (.int .i64) .nil))), (.cons (.sl (.cons (.int .i64) .nil)) .nil), fun (x : Int × Int × Int) => spec_MarkInts x, [], [(true, 3)], [(false, 1)], [true], []⟩
noncomputable abbrev spec_MarkInts.E : V.Env := V.mkE V.tys [] [] [] [] [] []
theorem spec_MarkInts.eq (x0 : TMark) : V.evBody spec_MarkInts.E spec_MarkInts.con Tryz.f119 ((x0.1, x0.2.1, x0.2.2) : Int × Int × Int) = spec_MarkInts x0 := by kernel_rfl
theorem spec_MarkInts.ok : V.Valid Tryz.prog 119 spec_MarkInts.con :=
  V.fo V.tab_nil Tryz.func119 (by kernel_rfl) (fun x y h => (show V.evBody spec_MarkInts.E spec_MarkInts.con Tryz.f119 x = _ from spec_MarkInts.eq x).trans (V.cfl (by kernel_rfl) h))
noncomputable abbrev spec_Confirm.con : V.Con := ⟨(.cons (.int .i64) (.cons (.sl (.cons (.int .i64) (.cons (.int .i64) (.cons (.int .i64) .nil)))) (.cons (.sl V.eSigned) .nil))), V.eRWitnessSigBool, fun (x : Int × List TMark × List TSigned) => spec_Confirm (x.1, x.2.1) x.2.2, [], [(true, 2), (false, 1)], [(true, 2), (true, 2), (false, 1)], [false, true, false, false, false], []⟩
noncomputable abbrev spec_Confirm.E : V.Env := V.mkE V.tys [(99, spec_IsChain.con), (113, spec_l19Copy.con), (114, spec_IsWitness.con), (115, spec_l19Against.con), (116, spec_MarkOf.con), (117, spec_l19Find.con), (118, spec_TagOf.con), (119, spec_MarkInts.con)] [(7, [1, 2, 4, 5, 7, 25], []), (10, [1, 2, 4, 5, 7, 8], [])] [(13, 9)] [] [] [(13, [1, 2, 8])]
noncomputable abbrev spec_Confirm.kt (x0 : TWitness) (x1 : List TSigned) : V.Kt TRWitnessSigBool := V.ktOf spec_Confirm.E spec_Confirm.con Tryz.f36 ((x0.1, x0.2, x1) : Int × List TMark × List TSigned)
noncomputable abbrev spec_Confirm.s10 (x0 : TWitness) (x1 : List TSigned) (y1 : TWitness) (v10_1 : Int) (v10_8 : List TMark) : V.St := ⟨[(1, .v false [.val (.sl V.eSigned x1)]), (2, .v false [.ptr 64000 0]), (4, .v false [.ptr 64064 0]), (5, .v false [.ptr 64128 0]), (7, .v false [.ptr 128128 0]), (8, .v false [.val (.int .i64 v10_1)])], [(64000, .box [.val (.int .i64 x0.1), .val (.sl (.cons (.int .i64) (.cons (.int .i64) (.cons (.int .i64) .nil))) x0.2)]), (64064, .box [.val (.int .i64 (0 : Int)), .nil0]), (64128, .box [.val (.int .i64 (0 : Int)), .val (.int .i64 (0 : Int))]), (128128, .box [.val (.int .i64 y1.1), .ref 64000000000008200193]), (64000000000008200193, .row (.cons (.int .i64) (.cons (.int .i64) (.cons (.int .i64) .nil))) true v10_8)]⟩
noncomputable abbrev spec_Confirm.s7 (x0 : TWitness) (x1 : List TSigned) (y1 : TWitness) (v7_1 : Bool) : V.St := ⟨[(1, .v false [.val (.sl V.eSigned x1)]), (2, .v false [.ptr 64000 0]), (4, .v false [.ptr 64064 0]), (5, .v false [.ptr 64128 0]), (7, .v false [.ptr 128128 0]), (25, .v false [.val (.bool v7_1)])], [(64000, .box [.val (.int .i64 x0.1), .val (.sl (.cons (.int .i64) (.cons (.int .i64) (.cons (.int .i64) .nil))) x0.2)]), (64064, .box [.val (.int .i64 (0 : Int)), .nil0]), (64128, .box [.val (.int .i64 (0 : Int)), .val (.int .i64 (0 : Int))]), (128128, .box [.val (.int .i64 y1.1), .ref 64000000000008200193]), (64000000000008200193, .row (.cons (.int .i64) (.cons (.int .i64) (.cons (.int .i64) .nil))) true y1.2)]⟩
theorem spec_Confirm.r10 (x0 : TWitness) (x1 : List TSigned) (y1 : TWitness) (R : V.St → Option TRWitnessSigBool) (v10_1 : Int) (v10_8 : List TMark) : V.loopF spec_Confirm.E Tryz.f36.ntmps [1, 1, 1, 0, 1, 0] [] (V.codeOf Tryz.f36) (spec_Confirm.kt x0 x1) R (spec_Confirm.s10 x0 x1 y1 v10_1 v10_8) = spec_Confirm.g10 x0 x1 y1 (fun v10_1 v10_8 => R (spec_Confirm.s10 x0 x1 y1 v10_1 v10_8)) v10_1 v10_8 := by kernel_rfl
theorem spec_Confirm.e10 (x0 : TWitness) (x1 : List TSigned) (y1 : TWitness) : ∀ (n : Nat) (v10_1 : Int) (v10_8 : List TMark), V.loopN (V.loopF spec_Confirm.E Tryz.f36.ntmps [1, 1, 1, 0, 1, 0] [] (V.codeOf Tryz.f36) (spec_Confirm.kt x0 x1)) n (spec_Confirm.s10 x0 x1 y1 v10_1 v10_8) = spec_Confirm.l10 x0 x1 y1 n v10_1 v10_8 := by
  intro n
  induction n with
  | zero => intros; rw [V.loopN_z]; rfl
  | succ n ih =>
    intro v10_1 v10_8
    rw [V.loopN_s, spec_Confirm.r10]
    simp only [ih]
    first | exact (spec_Confirm.u10 ..).symm | rfl
theorem spec_Confirm.r7 (x0 : TWitness) (x1 : List TSigned) (y1 : TWitness) (v7_1 : Bool) : V.normK 7 ([1, 2, 4, 5, 7, 25], []) (V.joinF spec_Confirm.E Tryz.f36.ntmps [1, 1, 0] [] (V.codeOf Tryz.f36) (spec_Confirm.kt x0 x1)) (spec_Confirm.s7 x0 x1 y1 v7_1) = spec_Confirm.g7 x0 x1 y1 (fun y1 v10_1 v10_8 => V.loopN (V.loopF spec_Confirm.E Tryz.f36.ntmps [1, 1, 1, 0, 1, 0] [] (V.codeOf Tryz.f36) (spec_Confirm.kt x0 x1)) V.KK (spec_Confirm.s10 x0 x1 y1 v10_1 v10_8)) v7_1 := by kernel_rfl
theorem spec_Confirm.e7 (x0 : TWitness) (x1 : List TSigned) (y1 : TWitness) (v7_1 : Bool) : V.normK 7 ([1, 2, 4, 5, 7, 25], []) (V.joinF spec_Confirm.E Tryz.f36.ntmps [1, 1, 0] [] (V.codeOf Tryz.f36) (spec_Confirm.kt x0 x1)) (spec_Confirm.s7 x0 x1 y1 v7_1) = spec_Confirm.l7 x0 x1 y1 v7_1 := by
  rw [spec_Confirm.r7]
  simp only [spec_Confirm.e10]
  rfl
theorem spec_Confirm.v (x0 : TWitness) (x1 : List TSigned) : V.evBody spec_Confirm.E spec_Confirm.con Tryz.f36 ((x0.1, x0.2, x1) : Int × List TMark × List TSigned) = spec_Confirm.b x0 x1 (fun y1 v7_1 => V.normK 7 ([1, 2, 4, 5, 7, 25], []) (V.joinF spec_Confirm.E Tryz.f36.ntmps [1, 1, 0] [] (V.codeOf Tryz.f36) (spec_Confirm.kt x0 x1)) (spec_Confirm.s7 x0 x1 y1 v7_1)) := by kernel_rfl
theorem spec_Confirm.eq (x0 : TWitness) (x1 : List TSigned) : V.evBody spec_Confirm.E spec_Confirm.con Tryz.f36 ((x0.1, x0.2, x1) : Int × List TMark × List TSigned) = spec_Confirm x0 x1 := by
  rw [spec_Confirm.v]
  simp only [spec_Confirm.e7]
  rfl
theorem spec_Confirm.ok : V.Valid Tryz.prog 36 spec_Confirm.con :=
  V.fo (V.tab_cons spec_IsChain.ok (V.tab_cons spec_l19Copy.ok (V.tab_cons spec_IsWitness.ok (V.tab_cons spec_l19Against.ok (V.tab_cons spec_MarkOf.ok (V.tab_cons spec_l19Find.ok (V.tab_cons spec_TagOf.ok (V.tab_cons spec_MarkInts.ok V.tab_nil)))))))) Tryz.func36 (by kernel_rfl) (fun x y h => (show V.evBody spec_Confirm.E spec_Confirm.con Tryz.f36 x = _ from spec_Confirm.eq (x.1, x.2.1) x.2.2).trans (V.cfl (by kernel_rfl) h))
noncomputable abbrev slices_Clone_impl_Mark.con : V.Con := ⟨(.cons (.sl (.cons (.int .i64) (.cons (.int .i64) (.cons (.int .i64) .nil)))) .nil), (.cons (.sl (.cons (.int .i64) (.cons (.int .i64) (.cons (.int .i64) .nil)))) .nil), fun (x : List TMark) => slices_Clone_impl_Mark x, [], [(false, 1)], [(false, 1)], [true], []⟩
noncomputable abbrev slices_Clone_impl_Mark.E : V.Env := V.mkE V.tys [] [] [] [] [] []
theorem slices_Clone_impl_Mark.eq (x0 : List TMark) : V.evBody slices_Clone_impl_Mark.E slices_Clone_impl_Mark.con Tryz.f216 ((x0) : List TMark) = slices_Clone_impl_Mark x0 := by kernel_rfl
theorem slices_Clone_impl_Mark.ok : V.Valid Tryz.prog 216 slices_Clone_impl_Mark.con :=
  V.fo V.tab_nil Tryz.func216 (by kernel_rfl) (fun x y h => (show V.evBody slices_Clone_impl_Mark.E slices_Clone_impl_Mark.con Tryz.f216 x = _ from slices_Clone_impl_Mark.eq x).trans (V.cfl (by kernel_rfl) h))
noncomputable abbrev impl_copyWitness.con : V.Con := ⟨(.cons (.int .i64) (.cons (.sl (.cons (.int .i64) (.cons (.int .i64) (.cons (.int .i64) .nil)))) .nil)), (.cons (.int .i64) (.cons (.sl (.cons (.int .i64) (.cons (.int .i64) (.cons (.int .i64) .nil)))) .nil)), fun (x : Int × List TMark) => impl_copyWitness x, [], [(true, 2)], [(true, 2)], [false, true], []⟩
noncomputable abbrev impl_copyWitness.E : V.Env := V.mkE V.tys [(216, slices_Clone_impl_Mark.con)] [] [(1, 5)] [] [] []
theorem impl_copyWitness.eq (x0 : TWitness) : V.evBody impl_copyWitness.E impl_copyWitness.con Tryz.f121 ((x0.1, x0.2) : Int × List TMark) = impl_copyWitness x0 := by kernel_rfl
theorem impl_copyWitness.ok : V.Valid Tryz.prog 121 impl_copyWitness.con :=
  V.fo (V.tab_cons slices_Clone_impl_Mark.ok V.tab_nil) Tryz.func121 (by kernel_rfl) (fun x y h => (show V.evBody impl_copyWitness.E impl_copyWitness.con Tryz.f121 x = _ from impl_copyWitness.eq x).trans (V.cfl (by kernel_rfl) h))
noncomputable abbrev impl_InRange.con : V.Con := ⟨(.cons (.int .i64) (.cons (.int .i64) (.cons (.int .i64) .nil))), (.cons .bool .nil), fun (x : Int × Int × Int) => impl_InRange x.1 x.2.1 x.2.2, [], [(false, 1), (false, 1), (false, 1)], [(false, 1)], [false], []⟩
noncomputable abbrev impl_InRange.E : V.Env := V.mkE V.tys [] [] [] [] [] []
theorem impl_InRange.eq (x0 : Int) (x1 : Int) (x2 : Int) : V.evBody impl_InRange.E impl_InRange.con Tryz.f151 ((x0, x1, x2) : Int × Int × Int) = impl_InRange x0 x1 x2 := by kernel_rfl
theorem impl_InRange.ok : V.Valid Tryz.prog 151 impl_InRange.con :=
  V.fo V.tab_nil Tryz.func151 (by kernel_rfl) (fun x y h => (show V.evBody impl_InRange.E impl_InRange.con Tryz.f151 x = _ from impl_InRange.eq x.1 x.2.1 x.2.2).trans (V.cfl (by kernel_rfl) h))
noncomputable abbrev impl_isDigest.con : V.Con := ⟨(.cons (.int .i64) .nil), (.cons .bool .nil), fun (x : Int) => impl_isDigest x, [], [(false, 1)], [(false, 1)], [false], []⟩
noncomputable abbrev impl_isDigest.E : V.Env := V.mkE V.tys [(151, impl_InRange.con)] [] [] [] [] []
theorem impl_isDigest.eq (x0 : Int) : V.evBody impl_isDigest.E impl_isDigest.con Tryz.f217 ((x0) : Int) = impl_isDigest x0 := by kernel_rfl
theorem impl_isDigest.ok : V.Valid Tryz.prog 217 impl_isDigest.con :=
  V.fo (V.tab_cons impl_InRange.ok V.tab_nil) Tryz.func217 (by kernel_rfl) (fun x y h => (show V.evBody impl_isDigest.E impl_isDigest.con Tryz.f217 x = _ from impl_isDigest.eq x).trans (V.cfl (by kernel_rfl) h))
noncomputable abbrev impl_Mark_isOf.con : V.Con := ⟨(.cons (.int .i64) (.cons (.int .i64) (.cons (.int .i64) (.cons (.int .i64) (.cons (.int .i64) (.cons (.int .i64) .nil)))))), (.cons .bool .nil), fun (x : Int × Int × Int × Int × Int × Int) => impl_Mark_isOf (x.1, x.2.1, x.2.2.1) x.2.2.2, [], [(true, 3), (true, 3)], [(false, 1)], [false], []⟩
noncomputable abbrev impl_Mark_isOf.E : V.Env := V.mkE V.tys [] [] [] [] [] []
theorem impl_Mark_isOf.eq (x0 : TMark) (x1 : TMark) : V.evBody impl_Mark_isOf.E impl_Mark_isOf.con Tryz.f127 ((x0.1, x0.2.1, x0.2.2, x1.1, x1.2.1, x1.2.2) : Int × Int × Int × Int × Int × Int) = impl_Mark_isOf x0 x1 := by kernel_rfl
theorem impl_Mark_isOf.ok : V.Valid Tryz.prog 127 impl_Mark_isOf.con :=
  V.fo V.tab_nil Tryz.func127 (by kernel_rfl) (fun x y h => (show V.evBody impl_Mark_isOf.E impl_Mark_isOf.con Tryz.f127 x = _ from impl_Mark_isOf.eq (x.1, x.2.1, x.2.2.1) x.2.2.2).trans (V.cfl (by kernel_rfl) h))
noncomputable abbrev slices_IndexFunc_impl_Mark__Mark_isOf.con : V.Con := ⟨(.cons (.sl (.cons (.int .i64) (.cons (.int .i64) (.cons (.int .i64) .nil)))) (.cons (.fn 127 true (.cons (.int .i64) (.cons (.int .i64) (.cons (.int .i64) .nil))) .nil) .nil)), (.cons (.int .i64) .nil), fun (x : List TMark × (TMark) × (Unit)) => slices_IndexFunc_impl_Mark__Mark_isOf x.1 x.2, [], [(false, 1), (false, 1)], [(false, 1)], [false], []⟩
noncomputable abbrev slices_IndexFunc_impl_Mark__Mark_isOf.E : V.Env := V.mkE V.tys [(127, impl_Mark_isOf.con)] [(4, [0, 1, 7, 8], [])] [] [] [] []
noncomputable abbrev slices_IndexFunc_impl_Mark__Mark_isOf.kt (x0 : List TMark) (x1 : (TMark) × (Unit)) : V.Kt Int := V.ktOf slices_IndexFunc_impl_Mark__Mark_isOf.E slices_IndexFunc_impl_Mark__Mark_isOf.con Tryz.f219 ((x0, x1) : List TMark × (TMark) × (Unit))
noncomputable abbrev slices_IndexFunc_impl_Mark__Mark_isOf.s4 (x0 : List TMark) (x1 : (TMark) × (Unit)) (v4_2 : Int) (v4_3 : Int) : V.St := ⟨[(0, .v false [.val (.sl (.cons (.int .i64) (.cons (.int .i64) (.cons (.int .i64) .nil))) x0)]), (1, .v false [.val (.fn 127 true (.cons (.int .i64) (.cons (.int .i64) (.cons (.int .i64) .nil))) .nil x1.1 ())]), (7, .v false [.val (.int .i64 v4_2)]), (8, .v false [.val (.int .i64 v4_3)])], []⟩
theorem slices_IndexFunc_impl_Mark__Mark_isOf.r4 (x0 : List TMark) (x1 : (TMark) × (Unit)) (R : V.St → Option Int) (v4_2 : Int) (v4_3 : Int) : V.loopF slices_IndexFunc_impl_Mark__Mark_isOf.E Tryz.f219.ntmps [1, 0, 1, 0] [] (V.codeOf Tryz.f219) (slices_IndexFunc_impl_Mark__Mark_isOf.kt x0 x1) R (slices_IndexFunc_impl_Mark__Mark_isOf.s4 x0 x1 v4_2 v4_3) = slices_IndexFunc_impl_Mark__Mark_isOf.g4 x0 x1 (fun v4_2 v4_3 => R (slices_IndexFunc_impl_Mark__Mark_isOf.s4 x0 x1 v4_2 v4_3)) v4_2 v4_3 := by kernel_rfl
theorem slices_IndexFunc_impl_Mark__Mark_isOf.e4 (x0 : List TMark) (x1 : (TMark) × (Unit)) : ∀ (n : Nat) (v4_2 : Int) (v4_3 : Int), V.loopN (V.loopF slices_IndexFunc_impl_Mark__Mark_isOf.E Tryz.f219.ntmps [1, 0, 1, 0] [] (V.codeOf Tryz.f219) (slices_IndexFunc_impl_Mark__Mark_isOf.kt x0 x1)) n (slices_IndexFunc_impl_Mark__Mark_isOf.s4 x0 x1 v4_2 v4_3) = slices_IndexFunc_impl_Mark__Mark_isOf.l4 x0 x1 n v4_2 v4_3 := by
  intro n
  induction n with
  | zero => intros; rw [V.loopN_z]; rfl
  | succ n ih =>
    intro v4_2 v4_3
    rw [V.loopN_s, slices_IndexFunc_impl_Mark__Mark_isOf.r4]
    simp only [ih]
    first | exact (slices_IndexFunc_impl_Mark__Mark_isOf.u4 ..).symm | rfl
theorem slices_IndexFunc_impl_Mark__Mark_isOf.v (x0 : List TMark) (x1 : (TMark) × (Unit)) : V.evBody slices_IndexFunc_impl_Mark__Mark_isOf.E slices_IndexFunc_impl_Mark__Mark_isOf.con Tryz.f219 ((x0, x1) : List TMark × (TMark) × (Unit)) = slices_IndexFunc_impl_Mark__Mark_isOf.b x0 x1 (fun v4_2 v4_3 => V.loopN (V.loopF slices_IndexFunc_impl_Mark__Mark_isOf.E Tryz.f219.ntmps [1, 0, 1, 0] [] (V.codeOf Tryz.f219) (slices_IndexFunc_impl_Mark__Mark_isOf.kt x0 x1)) V.KK (slices_IndexFunc_impl_Mark__Mark_isOf.s4 x0 x1 v4_2 v4_3)) := by kernel_rfl
theorem slices_IndexFunc_impl_Mark__Mark_isOf.eq (x0 : List TMark) (x1 : (TMark) × (Unit)) : V.evBody slices_IndexFunc_impl_Mark__Mark_isOf.E slices_IndexFunc_impl_Mark__Mark_isOf.con Tryz.f219 ((x0, x1) : List TMark × (TMark) × (Unit)) = slices_IndexFunc_impl_Mark__Mark_isOf x0 x1 := by
  rw [slices_IndexFunc_impl_Mark__Mark_isOf.v]
  simp only [slices_IndexFunc_impl_Mark__Mark_isOf.e4]
  rfl
theorem slices_IndexFunc_impl_Mark__Mark_isOf.ok : V.Valid Tryz.prog 219 slices_IndexFunc_impl_Mark__Mark_isOf.con :=
  V.fo (V.tab_cons impl_Mark_isOf.ok V.tab_nil) Tryz.func219 (by kernel_rfl) (fun x y h => (show V.evBody slices_IndexFunc_impl_Mark__Mark_isOf.E slices_IndexFunc_impl_Mark__Mark_isOf.con Tryz.f219 x = _ from slices_IndexFunc_impl_Mark__Mark_isOf.eq x.1 x.2).trans (V.cfl (by kernel_rfl) h))
noncomputable abbrev slices_ContainsFunc_impl_Mark__Mark_isOf.con : V.Con := ⟨(.cons (.sl (.cons (.int .i64) (.cons (.int .i64) (.cons (.int .i64) .nil)))) (.cons (.fn 127 true (.cons (.int .i64) (.cons (.int .i64) (.cons (.int .i64) .nil))) .nil) .nil)), (.cons .bool .nil), fun (x : List TMark × (TMark) × (Unit)) => slices_ContainsFunc_impl_Mark__Mark_isOf x.1 x.2, [], [(false, 1), (false, 1)], [(false, 1)], [false], []⟩
noncomputable abbrev slices_ContainsFunc_impl_Mark__Mark_isOf.E : V.Env := V.mkE V.tys [(219, slices_IndexFunc_impl_Mark__Mark_isOf.con)] [] [] [] [] []
theorem slices_ContainsFunc_impl_Mark__Mark_isOf.eq (x0 : List TMark) (x1 : (TMark) × (Unit)) : V.evBody slices_ContainsFunc_impl_Mark__Mark_isOf.E slices_ContainsFunc_impl_Mark__Mark_isOf.con Tryz.f123 ((x0, x1) : List TMark × (TMark) × (Unit)) = slices_ContainsFunc_impl_Mark__Mark_isOf x0 x1 := by kernel_rfl
theorem slices_ContainsFunc_impl_Mark__Mark_isOf.ok : V.Valid Tryz.prog 123 slices_ContainsFunc_impl_Mark__Mark_isOf.con :=
  V.fo (V.tab_cons slices_IndexFunc_impl_Mark__Mark_isOf.ok V.tab_nil) Tryz.func123 (by kernel_rfl) (fun x y h => (show V.evBody slices_ContainsFunc_impl_Mark__Mark_isOf.E slices_ContainsFunc_impl_Mark__Mark_isOf.con Tryz.f123 x = _ from slices_ContainsFunc_impl_Mark__Mark_isOf.eq x.1 x.2).trans (V.cfl (by kernel_rfl) h))
noncomputable abbrev impl_isKey.con : V.Con := ⟨(.cons (.int .i64) .nil), (.cons .bool .nil), fun (x : Int) => impl_isKey x, [], [(false, 1)], [(false, 1)], [false], []⟩
noncomputable abbrev impl_isKey.E : V.Env := V.mkE V.tys [(151, impl_InRange.con)] [] [] [] [] []
theorem impl_isKey.eq (x0 : Int) : V.evBody impl_isKey.E impl_isKey.con Tryz.f218 ((x0) : Int) = impl_isKey x0 := by kernel_rfl
theorem impl_isKey.ok : V.Valid Tryz.prog 218 impl_isKey.con :=
  V.fo (V.tab_cons impl_InRange.ok V.tab_nil) Tryz.func218 (by kernel_rfl) (fun x y h => (show V.evBody impl_isKey.E impl_isKey.con Tryz.f218 x = _ from impl_isKey.eq x).trans (V.cfl (by kernel_rfl) h))
noncomputable abbrev impl_IsWitness.con : V.Con := ⟨(.cons (.int .i64) (.cons (.sl (.cons (.int .i64) (.cons (.int .i64) (.cons (.int .i64) .nil)))) .nil)), (.cons .bool .nil), fun (x : Int × List TMark) => impl_IsWitness x, [], [(true, 2)], [(false, 1)], [false], []⟩
noncomputable abbrev impl_IsWitness.E : V.Env := V.mkE V.tys [(123, slices_ContainsFunc_impl_Mark__Mark_isOf.con), (151, impl_InRange.con), (217, impl_isDigest.con), (218, impl_isKey.con)] [(4, [1, 6, 7, 8], [])] [(4, 23)] [] [] []
noncomputable abbrev impl_IsWitness.kt (x0 : TWitness) : V.Kt Bool := V.ktOf impl_IsWitness.E impl_IsWitness.con Tryz.f122 ((x0.1, x0.2) : Int × List TMark)
noncomputable abbrev impl_IsWitness.s4 (x0 : TWitness) (v4_1 : Int) (v4_2 : Int) : V.St := ⟨[(1, .v false [.ptr 64000 0]), (6, .v false [.val (.sl (.cons (.int .i64) (.cons (.int .i64) (.cons (.int .i64) .nil))) x0.2)]), (7, .v false [.val (.int .i64 v4_1)]), (8, .v false [.val (.int .i64 v4_2)])], [(64000, .box [.val (.int .i64 x0.1), .val (.sl (.cons (.int .i64) (.cons (.int .i64) (.cons (.int .i64) .nil))) x0.2)])]⟩
theorem impl_IsWitness.r4 (x0 : TWitness) (R : V.St → Option Bool) (v4_1 : Int) (v4_2 : Int) : V.loopF impl_IsWitness.E Tryz.f122.ntmps [1, 0, 1, 0] [] (V.codeOf Tryz.f122) (impl_IsWitness.kt x0) R (impl_IsWitness.s4 x0 v4_1 v4_2) = impl_IsWitness.g4 x0 (fun v4_1 v4_2 => R (impl_IsWitness.s4 x0 v4_1 v4_2)) v4_1 v4_2 := by kernel_rfl
theorem impl_IsWitness.e4 (x0 : TWitness) : ∀ (n : Nat) (v4_1 : Int) (v4_2 : Int), V.loopN (V.loopF impl_IsWitness.E Tryz.f122.ntmps [1, 0, 1, 0] [] (V.codeOf Tryz.f122) (impl_IsWitness.kt x0)) n (impl_IsWitness.s4 x0 v4_1 v4_2) = impl_IsWitness.l4 x0 n v4_1 v4_2 := by
  intro n
  induction n with
  | zero => intros; rw [V.loopN_z]; rfl
  | succ n ih =>
    intro v4_1 v4_2
    rw [V.loopN_s, impl_IsWitness.r4]
    simp only [ih]
    first | exact (impl_IsWitness.u4 ..).symm | rfl
theorem impl_IsWitness.v (x0 : TWitness) : V.evBody impl_IsWitness.E impl_IsWitness.con Tryz.f122 ((x0.1, x0.2) : Int × List TMark) = impl_IsWitness.b x0 (fun v4_1 v4_2 => V.loopN (V.loopF impl_IsWitness.E Tryz.f122.ntmps [1, 0, 1, 0] [] (V.codeOf Tryz.f122) (impl_IsWitness.kt x0)) V.KK (impl_IsWitness.s4 x0 v4_1 v4_2)) := by kernel_rfl
theorem impl_IsWitness.eq (x0 : TWitness) : V.evBody impl_IsWitness.E impl_IsWitness.con Tryz.f122 ((x0.1, x0.2) : Int × List TMark) = impl_IsWitness x0 := by
  rw [impl_IsWitness.v]
  simp only [impl_IsWitness.e4]
  rfl
theorem impl_IsWitness.ok : V.Valid Tryz.prog 122 impl_IsWitness.con :=
  V.fo (V.tab_cons slices_ContainsFunc_impl_Mark__Mark_isOf.ok (V.tab_cons impl_InRange.ok (V.tab_cons impl_isDigest.ok (V.tab_cons impl_isKey.ok V.tab_nil)))) Tryz.func122 (by kernel_rfl) (fun x y h => (show V.evBody impl_IsWitness.E impl_IsWitness.con Tryz.f122 x = _ from impl_IsWitness.eq x).trans (V.cfl (by kernel_rfl) h))
noncomputable abbrev impl_isSpan.con : V.Con := ⟨V.A2, (.cons .bool .nil), fun (x : V.D2) => impl_isSpan (V.p2_0 x), [], [(true, 16)], [(false, 1)], [false], []⟩
noncomputable abbrev impl_isSpan.E : V.Env := V.mkE V.tys [] [] [] [] [] []
noncomputable abbrev impl_isSpan.kt (x0 : THead) : V.Kt Bool := V.ktOf impl_isSpan.E impl_isSpan.con Tryz.f255 (V.fl2 x0)
noncomputable abbrev impl_isSpan.s (x0 : THead) : V.St := ⟨[(0, .v true [.val (.int .i64 x0.1), .val (.int .i64 x0.2.1), .val (.int .i64 x0.2.2.1), .val (.int .i64 x0.2.2.2.1), .val (.int .i64 x0.2.2.2.2.1), .val (.int .i64 x0.2.2.2.2.2.1), .val (.int .i64 x0.2.2.2.2.2.2.1), .val (.int .i64 x0.2.2.2.2.2.2.2.1), .val (.sl (.cons (.int .i64) .nil) x0.2.2.2.2.2.2.2.2.1), .val (.int .i64 x0.2.2.2.2.2.2.2.2.2.1), .val (.sl (.cons (.int .i64) .nil) x0.2.2.2.2.2.2.2.2.2.2.1), .val (.int .i64 x0.2.2.2.2.2.2.2.2.2.2.2.1), .val (.int .i64 x0.2.2.2.2.2.2.2.2.2.2.2.2.1), .val (.sl (.cons (.int .i64) .nil) x0.2.2.2.2.2.2.2.2.2.2.2.2.2.1), .val (.int .i64 x0.2.2.2.2.2.2.2.2.2.2.2.2.2.2.1), .val (.bool x0.2.2.2.2.2.2.2.2.2.2.2.2.2.2.2)])], []⟩
theorem impl_isSpan.v0 (x0 : THead) : V.evBody impl_isSpan.E impl_isSpan.con Tryz.f255 (V.fl2 x0) = V.evC impl_isSpan.E Tryz.f255.ntmps (V.codeOf Tryz.f255) (impl_isSpan.kt x0) (impl_isSpan.s x0) := by kernel_rfl
theorem impl_isSpan.v (x0 : THead) : V.evC impl_isSpan.E Tryz.f255.ntmps (V.codeOf Tryz.f255) (impl_isSpan.kt x0) (impl_isSpan.s x0) = impl_isSpan x0 := by kernel_rfl
theorem impl_isSpan.eq (x0 : THead) : V.evBody impl_isSpan.E impl_isSpan.con Tryz.f255 (V.fl2 x0) = impl_isSpan x0 := (impl_isSpan.v0 x0).trans (impl_isSpan.v x0)
theorem impl_isSpan.ok : V.Valid Tryz.prog 255 impl_isSpan.con :=
  V.fo V.tab_nil Tryz.func255 (by kernel_rfl) (fun x y h => (show V.evBody impl_isSpan.E impl_isSpan.con Tryz.f255 x = _ from impl_isSpan.eq (V.p2_0 x)).trans (V.cfl (by kernel_rfl) h))
noncomputable abbrev impl_ascending.con : V.Con := ⟨(.cons (.sl (.cons (.int .i64) .nil)) .nil), (.cons .bool .nil), fun (x : List Int) => impl_ascending x, [], [(false, 1)], [(false, 1)], [false], []⟩
noncomputable abbrev impl_ascending.E : V.Env := V.mkE V.tys [] [(4, [0, 5, 6], [])] [(4, 12)] [] [] []
noncomputable abbrev impl_ascending.kt (x0 : List Int) : V.Kt Bool := V.ktOf impl_ascending.E impl_ascending.con Tryz.f298 ((x0) : List Int)
noncomputable abbrev impl_ascending.s4 (x0 : List Int) (v4_1 : Int) (v4_2 : Int) : V.St := ⟨[(0, .v false [.val (.sl (.cons (.int .i64) .nil) x0)]), (5, .v false [.val (.int .i64 v4_1)]), (6, .v false [.val (.int .i64 v4_2)])], []⟩
theorem impl_ascending.r4 (x0 : List Int) (R : V.St → Option Bool) (v4_1 : Int) (v4_2 : Int) : V.loopF impl_ascending.E Tryz.f298.ntmps [1, 0, 1, 0] [] (V.codeOf Tryz.f298) (impl_ascending.kt x0) R (impl_ascending.s4 x0 v4_1 v4_2) = impl_ascending.g4 x0 (fun v4_1 v4_2 => R (impl_ascending.s4 x0 v4_1 v4_2)) v4_1 v4_2 := by kernel_rfl
theorem impl_ascending.e4 (x0 : List Int) : ∀ (n : Nat) (v4_1 : Int) (v4_2 : Int), V.loopN (V.loopF impl_ascending.E Tryz.f298.ntmps [1, 0, 1, 0] [] (V.codeOf Tryz.f298) (impl_ascending.kt x0)) n (impl_ascending.s4 x0 v4_1 v4_2) = impl_ascending.l4 x0 n v4_1 v4_2 := by
  intro n
  induction n with
  | zero => intros; rw [V.loopN_z]; rfl
  | succ n ih =>
    intro v4_1 v4_2
    rw [V.loopN_s, impl_ascending.r4]
    simp only [ih]
    first | exact (impl_ascending.u4 ..).symm | rfl
theorem impl_ascending.v (x0 : List Int) : V.evBody impl_ascending.E impl_ascending.con Tryz.f298 ((x0) : List Int) = impl_ascending.b x0 (fun v4_1 v4_2 => V.loopN (V.loopF impl_ascending.E Tryz.f298.ntmps [1, 0, 1, 0] [] (V.codeOf Tryz.f298) (impl_ascending.kt x0)) V.KK (impl_ascending.s4 x0 v4_1 v4_2)) := by kernel_rfl
theorem impl_ascending.eq (x0 : List Int) : V.evBody impl_ascending.E impl_ascending.con Tryz.f298 ((x0) : List Int) = impl_ascending x0 := by
  rw [impl_ascending.v]
  simp only [impl_ascending.e4]
  rfl
theorem impl_ascending.ok : V.Valid Tryz.prog 298 impl_ascending.con :=
  V.fo V.tab_nil Tryz.func298 (by kernel_rfl) (fun x y h => (show V.evBody impl_ascending.E impl_ascending.con Tryz.f298 x = _ from impl_ascending.eq x).trans (V.cfl (by kernel_rfl) h))
noncomputable abbrev impl_IsKeys.con : V.Con := ⟨(.cons (.sl (.cons (.int .i64) .nil)) (.cons (.int .i64) .nil)), (.cons .bool .nil), fun (x : List Int × Int) => impl_IsKeys x, [], [(true, 2)], [(false, 1)], [false], []⟩
noncomputable abbrev impl_IsKeys.E : V.Env := V.mkE V.tys [(151, impl_InRange.con), (218, impl_isKey.con), (298, impl_ascending.con)] [] [] [] [] []
theorem impl_IsKeys.eq (x0 : TKeys) : V.evBody impl_IsKeys.E impl_IsKeys.con Tryz.f256 ((x0.1, x0.2) : List Int × Int) = impl_IsKeys x0 := by kernel_rfl
theorem impl_IsKeys.ok : V.Valid Tryz.prog 256 impl_IsKeys.con :=
  V.fo (V.tab_cons impl_InRange.ok (V.tab_cons impl_isKey.ok (V.tab_cons impl_ascending.ok V.tab_nil))) Tryz.func256 (by kernel_rfl) (fun x y h => (show V.evBody impl_IsKeys.E impl_IsKeys.con Tryz.f256 x = _ from impl_IsKeys.eq x).trans (V.cfl (by kernel_rfl) h))
noncomputable abbrev impl_NoKeys.con : V.Con := ⟨(.cons (.sl (.cons (.int .i64) .nil)) (.cons (.int .i64) .nil)), (.cons .bool .nil), fun (x : List Int × Int) => impl_NoKeys x, [], [(true, 2)], [(false, 1)], [false], []⟩
noncomputable abbrev impl_NoKeys.E : V.Env := V.mkE V.tys [] [] [] [] [] []
theorem impl_NoKeys.eq (x0 : TKeys) : V.evBody impl_NoKeys.E impl_NoKeys.con Tryz.f259 ((x0.1, x0.2) : List Int × Int) = impl_NoKeys x0 := by kernel_rfl
theorem impl_NoKeys.ok : V.Valid Tryz.prog 259 impl_NoKeys.con :=
  V.fo V.tab_nil Tryz.func259 (by kernel_rfl) (fun x y h => (show V.evBody impl_NoKeys.E impl_NoKeys.con Tryz.f259 x = _ from impl_NoKeys.eq x).trans (V.cfl (by kernel_rfl) h))
noncomputable abbrev impl_isMaybe.con : V.Con := ⟨(.cons (.sl (.cons (.int .i64) .nil)) (.cons (.int .i64) .nil)), (.cons .bool .nil), fun (x : List Int × Int) => impl_isMaybe x, [], [(true, 2)], [(false, 1)], [false], []⟩
noncomputable abbrev impl_isMaybe.E : V.Env := V.mkE V.tys [(256, impl_IsKeys.con), (259, impl_NoKeys.con)] [] [] [] [] []
theorem impl_isMaybe.eq (x0 : TKeys) : V.evBody impl_isMaybe.E impl_isMaybe.con Tryz.f257 ((x0.1, x0.2) : List Int × Int) = impl_isMaybe x0 := by kernel_rfl
theorem impl_isMaybe.ok : V.Valid Tryz.prog 257 impl_isMaybe.con :=
  V.fo (V.tab_cons impl_IsKeys.ok (V.tab_cons impl_NoKeys.ok V.tab_nil)) Tryz.func257 (by kernel_rfl) (fun x y h => (show V.evBody impl_isMaybe.E impl_isMaybe.con Tryz.f257 x = _ from impl_isMaybe.eq x).trans (V.cfl (by kernel_rfl) h))
noncomputable abbrev impl_isWait.con : V.Con := ⟨(.cons (.int .i64) (.cons (.sl (.cons (.int .i64) .nil)) (.cons (.int .i64) .nil))), (.cons .bool .nil), fun (x : Int × List Int × Int) => impl_isWait x.1 x.2, [], [(false, 1), (true, 2)], [(false, 1)], [false], []⟩
noncomputable abbrev impl_isWait.E : V.Env := V.mkE V.tys [(151, impl_InRange.con), (259, impl_NoKeys.con)] [] [] [] [] []
theorem impl_isWait.eq (x0 : Int) (x1 : TKeys) : V.evBody impl_isWait.E impl_isWait.con Tryz.f258 ((x0, x1.1, x1.2) : Int × List Int × Int) = impl_isWait x0 x1 := by kernel_rfl
theorem impl_isWait.ok : V.Valid Tryz.prog 258 impl_isWait.con :=
  V.fo (V.tab_cons impl_InRange.ok (V.tab_cons impl_NoKeys.ok V.tab_nil)) Tryz.func258 (by kernel_rfl) (fun x y h => (show V.evBody impl_isWait.E impl_isWait.con Tryz.f258 x = _ from impl_isWait.eq x.1 x.2).trans (V.cfl (by kernel_rfl) h))
noncomputable abbrev impl_IsHead.con : V.Con := ⟨V.A2, (.cons .bool .nil), fun (x : V.D2) => impl_IsHead (V.p2_0 x), [], [(true, 16)], [(false, 1)], [false], []⟩
noncomputable abbrev impl_IsHead.E : V.Env := V.mkE V.tys [(151, impl_InRange.con), (217, impl_isDigest.con), (255, impl_isSpan.con), (256, impl_IsKeys.con), (257, impl_isMaybe.con), (258, impl_isWait.con), (259, impl_NoKeys.con)] [] [] [] [] []
noncomputable abbrev impl_IsHead.kt (x0 : THead) : V.Kt Bool := V.ktOf impl_IsHead.E impl_IsHead.con Tryz.f194 (V.fl2 x0)
noncomputable abbrev impl_IsHead.s (x0 : THead) : V.St := ⟨[(0, .v true [.val (.int .i64 x0.1), .val (.int .i64 x0.2.1), .val (.int .i64 x0.2.2.1), .val (.int .i64 x0.2.2.2.1), .val (.int .i64 x0.2.2.2.2.1), .val (.int .i64 x0.2.2.2.2.2.1), .val (.int .i64 x0.2.2.2.2.2.2.1), .val (.int .i64 x0.2.2.2.2.2.2.2.1), .val (.sl (.cons (.int .i64) .nil) x0.2.2.2.2.2.2.2.2.1), .val (.int .i64 x0.2.2.2.2.2.2.2.2.2.1), .val (.sl (.cons (.int .i64) .nil) x0.2.2.2.2.2.2.2.2.2.2.1), .val (.int .i64 x0.2.2.2.2.2.2.2.2.2.2.2.1), .val (.int .i64 x0.2.2.2.2.2.2.2.2.2.2.2.2.1), .val (.sl (.cons (.int .i64) .nil) x0.2.2.2.2.2.2.2.2.2.2.2.2.2.1), .val (.int .i64 x0.2.2.2.2.2.2.2.2.2.2.2.2.2.2.1), .val (.bool x0.2.2.2.2.2.2.2.2.2.2.2.2.2.2.2)])], []⟩
theorem impl_IsHead.v0 (x0 : THead) : V.evBody impl_IsHead.E impl_IsHead.con Tryz.f194 (V.fl2 x0) = V.evC impl_IsHead.E Tryz.f194.ntmps (V.codeOf Tryz.f194) (impl_IsHead.kt x0) (impl_IsHead.s x0) := by kernel_rfl
theorem impl_IsHead.v (x0 : THead) : V.evC impl_IsHead.E Tryz.f194.ntmps (V.codeOf Tryz.f194) (impl_IsHead.kt x0) (impl_IsHead.s x0) = impl_IsHead x0 := by kernel_rfl
theorem impl_IsHead.eq (x0 : THead) : V.evBody impl_IsHead.E impl_IsHead.con Tryz.f194 (V.fl2 x0) = impl_IsHead x0 := (impl_IsHead.v0 x0).trans (impl_IsHead.v x0)
theorem impl_IsHead.ok : V.Valid Tryz.prog 194 impl_IsHead.con :=
  V.fo (V.tab_cons impl_InRange.ok (V.tab_cons impl_isDigest.ok (V.tab_cons impl_isSpan.ok (V.tab_cons impl_IsKeys.ok (V.tab_cons impl_isMaybe.ok (V.tab_cons impl_isWait.ok (V.tab_cons impl_NoKeys.ok V.tab_nil))))))) Tryz.func194 (by kernel_rfl) (fun x y h => (show V.evBody impl_IsHead.E impl_IsHead.con Tryz.f194 x = _ from impl_IsHead.eq (V.p2_0 x)).trans (V.cfl (by kernel_rfl) h))
noncomputable abbrev impl_KeysInts.con : V.Con := ⟨(.cons (.sl (.cons (.int .i64) .nil)) (.cons (.int .i64) .nil)), (.cons (.sl (.cons (.int .i64) .nil)) .nil), fun (x : List Int × Int) => impl_KeysInts x, [], [(true, 2)], [(false, 1)], [true], []⟩
noncomputable abbrev impl_KeysInts.E : V.Env := V.mkE V.tys [] [] [] [] [] []
theorem impl_KeysInts.eq (x0 : TKeys) : V.evBody impl_KeysInts.E impl_KeysInts.con Tryz.f271 ((x0.1, x0.2) : List Int × Int) = impl_KeysInts x0 := by kernel_rfl
theorem impl_KeysInts.ok : V.Valid Tryz.prog 271 impl_KeysInts.con :=
  V.fo V.tab_nil Tryz.func271 (by kernel_rfl) (fun x y h => (show V.evBody impl_KeysInts.E impl_KeysInts.con Tryz.f271 x = _ from impl_KeysInts.eq x).trans (V.cfl (by kernel_rfl) h))
noncomputable abbrev impl_Mod.con : V.Con := ⟨(.cons (.int .i64) (.cons (.int .i64) .nil)), (.cons (.int .i64) .nil), fun (x : Int × Int) => impl_Mod x.1 x.2, [], [(false, 1), (false, 1)], [(false, 1)], [false], []⟩
noncomputable abbrev impl_Mod.E : V.Env := V.mkE V.tys [(151, impl_InRange.con)] [] [] [] [] []
theorem impl_Mod.eq (x0 : Int) (x1 : Int) : V.evBody impl_Mod.E impl_Mod.con Tryz.f299 ((x0, x1) : Int × Int) = impl_Mod x0 x1 := by kernel_rfl
theorem impl_Mod.ok : V.Valid Tryz.prog 299 impl_Mod.con :=
  V.fo (V.tab_cons impl_InRange.ok V.tab_nil) Tryz.func299 (by kernel_rfl) (fun x y h => (show V.evBody impl_Mod.E impl_Mod.con Tryz.f299 x = _ from impl_Mod.eq x.1 x.2).trans (V.cfl (by kernel_rfl) h))
noncomputable abbrev impl_Hash.con : V.Con := ⟨(.cons (.sl (.cons (.int .i64) .nil)) .nil), (.cons (.int .i64) .nil), fun (x : List Int) => impl_Hash x, [], [(false, 1)], [(false, 1)], [false], []⟩
noncomputable abbrev impl_Hash.E : V.Env := V.mkE V.tys [(299, impl_Mod.con)] [(6, [3, 6, 7, 8], [])] [] [] [] []
noncomputable abbrev impl_Hash.kt (x0 : List Int) : V.Kt Int := V.ktOf impl_Hash.E impl_Hash.con Tryz.f260 ((x0) : List Int)
noncomputable abbrev impl_Hash.s6 (x0 : List Int) (v6_0 : Int) (v6_2 : Int) (v6_3 : Int) : V.St := ⟨[(3, .v false [.val (.int .i64 v6_0)]), (6, .v false [.val (.sl (.cons (.int .i64) .nil) x0)]), (7, .v false [.val (.int .i64 v6_2)]), (8, .v false [.val (.int .i64 v6_3)])], []⟩
theorem impl_Hash.r6 (x0 : List Int) (R : V.St → Option Int) (v6_0 : Int) (v6_2 : Int) (v6_3 : Int) : V.loopF impl_Hash.E Tryz.f260.ntmps [1, 1, 0, 1, 0] [] (V.codeOf Tryz.f260) (impl_Hash.kt x0) R (impl_Hash.s6 x0 v6_0 v6_2 v6_3) = impl_Hash.g6 x0 (fun v6_0 v6_2 v6_3 => R (impl_Hash.s6 x0 v6_0 v6_2 v6_3)) v6_0 v6_2 v6_3 := by kernel_rfl
theorem impl_Hash.e6 (x0 : List Int) : ∀ (n : Nat) (v6_0 : Int) (v6_2 : Int) (v6_3 : Int), V.loopN (V.loopF impl_Hash.E Tryz.f260.ntmps [1, 1, 0, 1, 0] [] (V.codeOf Tryz.f260) (impl_Hash.kt x0)) n (impl_Hash.s6 x0 v6_0 v6_2 v6_3) = impl_Hash.l6 x0 n v6_0 v6_2 v6_3 := by
  intro n
  induction n with
  | zero => intros; rw [V.loopN_z]; rfl
  | succ n ih =>
    intro v6_0 v6_2 v6_3
    rw [V.loopN_s, impl_Hash.r6]
    simp only [ih]
    first | exact (impl_Hash.u6 ..).symm | rfl
theorem impl_Hash.v (x0 : List Int) : V.evBody impl_Hash.E impl_Hash.con Tryz.f260 ((x0) : List Int) = impl_Hash.b x0 (fun v6_0 v6_2 v6_3 => V.loopN (V.loopF impl_Hash.E Tryz.f260.ntmps [1, 1, 0, 1, 0] [] (V.codeOf Tryz.f260) (impl_Hash.kt x0)) V.KK (impl_Hash.s6 x0 v6_0 v6_2 v6_3)) := by kernel_rfl
theorem impl_Hash.eq (x0 : List Int) : V.evBody impl_Hash.E impl_Hash.con Tryz.f260 ((x0) : List Int) = impl_Hash x0 := by
  rw [impl_Hash.v]
  simp only [impl_Hash.e6]
  rfl
theorem impl_Hash.ok : V.Valid Tryz.prog 260 impl_Hash.con :=
  V.fo (V.tab_cons impl_Mod.ok V.tab_nil) Tryz.func260 (by kernel_rfl) (fun x y h => (show V.evBody impl_Hash.E impl_Hash.con Tryz.f260 x = _ from impl_Hash.eq x).trans (V.cfl (by kernel_rfl) h))
noncomputable abbrev impl_ZoneOf.con : V.Con := ⟨(.cons (.sl (.cons (.int .i64) .nil)) (.cons (.int .i64) (.cons (.int .i64) .nil))), (.cons (.int .i64) .nil), fun (x : List Int × Int × Int) => impl_ZoneOf (x.1, x.2.1) x.2.2, [], [(true, 2), (false, 1)], [(false, 1)], [false], []⟩
noncomputable abbrev impl_ZoneOf.E : V.Env := V.mkE V.tys [(260, impl_Hash.con), (271, impl_KeysInts.con)] [] [] [] [] []
theorem impl_ZoneOf.eq (x0 : TKeys) (x1 : Int) : V.evBody impl_ZoneOf.E impl_ZoneOf.con Tryz.f227 ((x0.1, x0.2, x1) : List Int × Int × Int) = impl_ZoneOf x0 x1 := by kernel_rfl
theorem impl_ZoneOf.ok : V.Valid Tryz.prog 227 impl_ZoneOf.con :=
  V.fo (V.tab_cons impl_Hash.ok (V.tab_cons impl_KeysInts.ok V.tab_nil)) Tryz.func227 (by kernel_rfl) (fun x y h => (show V.evBody impl_ZoneOf.E impl_ZoneOf.con Tryz.f227 x = _ from impl_ZoneOf.eq (x.1, x.2.1) x.2.2).trans (V.cfl (by kernel_rfl) h))
noncomputable abbrev impl_bit.con : V.Con := ⟨(.cons .bool .nil), (.cons (.int .i64) .nil), fun (x : Bool) => impl_bit x, [], [(false, 1)], [(false, 1)], [false], []⟩
noncomputable abbrev impl_bit.E : V.Env := V.mkE V.tys [] [] [] [] [] []
theorem impl_bit.eq (x0 : Bool) : V.evBody impl_bit.E impl_bit.con Tryz.f272 ((x0) : Bool) = impl_bit x0 := by kernel_rfl
theorem impl_bit.ok : V.Valid Tryz.prog 272 impl_bit.con :=
  V.fo V.tab_nil Tryz.func272 (by kernel_rfl) (fun x y h => (show V.evBody impl_bit.E impl_bit.con Tryz.f272 x = _ from impl_bit.eq x).trans (V.cfl (by kernel_rfl) h))
noncomputable abbrev slices_Grow_int.con : V.Con := ⟨(.cons (.sl (.cons (.int .i64) .nil)) (.cons (.int .i64) .nil)), (.cons (.sl (.cons (.int .i64) .nil)) .nil), fun (x : List Int × Int) => slices_Grow_int x.1 x.2, [], [(false, 1), (false, 1)], [(false, 1)], [true], [0]⟩
noncomputable abbrev slices_Grow_int.E : V.Env := V.mkE V.tys [] [(7, [0, 1], [])] [] [] [] []
noncomputable abbrev slices_Grow_int.kt (x0 : List Int) (x1 : Int) : V.Kt (List Int) := V.ktOf slices_Grow_int.E slices_Grow_int.con Tryz.f303 ((x0, x1) : List Int × Int)
noncomputable abbrev slices_Grow_int.s7 (x1 : Int) : V.St := ⟨[(0, .v false [.nil0]), (1, .v false [.val (.int .i64 x1)])], []⟩
theorem slices_Grow_int.r7 (x0 : List Int) (x1 : Int) : V.normK 7 ([0, 1], []) (V.joinF slices_Grow_int.E Tryz.f303.ntmps [1] [] (V.codeOf Tryz.f303) (slices_Grow_int.kt x0 x1)) (slices_Grow_int.s7 x1) = slices_Grow_int.g7 x1 := by kernel_rfl
theorem slices_Grow_int.e7 (x0 : List Int) (x1 : Int) : V.normK 7 ([0, 1], []) (V.joinF slices_Grow_int.E Tryz.f303.ntmps [1] [] (V.codeOf Tryz.f303) (slices_Grow_int.kt x0 x1)) (slices_Grow_int.s7 x1) = slices_Grow_int.l7 x1 := by
  rw [slices_Grow_int.r7]
  rfl
theorem slices_Grow_int.v (x0 : List Int) (x1 : Int) : V.evBody slices_Grow_int.E slices_Grow_int.con Tryz.f303 ((x0, x1) : List Int × Int) = slices_Grow_int.b x0 x1 (V.normK 7 ([0, 1], []) (V.joinF slices_Grow_int.E Tryz.f303.ntmps [1] [] (V.codeOf Tryz.f303) (slices_Grow_int.kt x0 x1)) (slices_Grow_int.s7 x1)) := by kernel_rfl
theorem slices_Grow_int.eq (x0 : List Int) (x1 : Int) : V.evBody slices_Grow_int.E slices_Grow_int.con Tryz.f303 ((x0, x1) : List Int × Int) = slices_Grow_int x0 x1 := by
  rw [slices_Grow_int.v]
  simp only [slices_Grow_int.e7]
  rfl
theorem slices_Grow_int.ok : V.Valid Tryz.prog 303 slices_Grow_int.con :=
  V.fo V.tab_nil Tryz.func303 (by kernel_rfl) (fun x y h => (show V.evBody slices_Grow_int.E slices_Grow_int.con Tryz.f303 x = _ from slices_Grow_int.eq x.1 x.2).trans (V.cfl (by kernel_rfl) h))
noncomputable abbrev slices_Concat_int.con : V.Con := ⟨(.cons (.sl (.cons (.sl (.cons (.int .i64) .nil)) .nil)) .nil), (.cons (.sl (.cons (.int .i64) .nil)) .nil), fun (x : List (List Int)) => slices_Concat_int x, [], [(false, 1)], [(false, 1)], [true], []⟩
noncomputable abbrev slices_Concat_int.E : V.Env := V.mkE V.tys [(303, slices_Grow_int.con)] [(6, [0, 3, 9, 10, 11], []), (22, [6, 25, 26, 27], [])] [] [] [] []
noncomputable abbrev slices_Concat_int.kt (x0 : List (List Int)) : V.Kt (List Int) := V.ktOf slices_Concat_int.E slices_Concat_int.con Tryz.f270 ((x0) : List (List Int))
noncomputable abbrev slices_Concat_int.s22 (x0 : List (List Int)) (v22_1 : Int) (v22_2 : Int) (v22_3 : List Int) : V.St := ⟨[(6, .v false [.ref 64000140800384]), (25, .v false [.val (.sl (.cons (.sl (.cons (.int .i64) .nil)) .nil) x0)]), (26, .v false [.val (.int .i64 v22_1)]), (27, .v false [.val (.int .i64 v22_2)])], [(64000140800384, .row (.cons (.int .i64) .nil) true v22_3)]⟩
noncomputable abbrev slices_Concat_int.s6 (x0 : List (List Int)) (v6_1 : Int) (v6_3 : Int) (v6_4 : Int) : V.St := ⟨[(0, .v false [.val (.sl (.cons (.sl (.cons (.int .i64) .nil)) .nil) x0)]), (3, .v false [.val (.int .i64 v6_1)]), (9, .v false [.val (.sl (.cons (.sl (.cons (.int .i64) .nil)) .nil) x0)]), (10, .v false [.val (.int .i64 v6_3)]), (11, .v false [.val (.int .i64 v6_4)])], []⟩
theorem slices_Concat_int.r22 (x0 : List (List Int)) (R : V.St → Option (List Int)) (v22_1 : Int) (v22_2 : Int) (v22_3 : List Int) : V.loopF slices_Concat_int.E Tryz.f270.ntmps [1, 1, 1, 1, 0, 1, 0] [] (V.codeOf Tryz.f270) (slices_Concat_int.kt x0) R (slices_Concat_int.s22 x0 v22_1 v22_2 v22_3) = slices_Concat_int.g22 x0 (fun v22_1 v22_2 v22_3 => R (slices_Concat_int.s22 x0 v22_1 v22_2 v22_3)) v22_1 v22_2 v22_3 := by kernel_rfl
theorem slices_Concat_int.e22 (x0 : List (List Int)) : ∀ (n : Nat) (v22_1 : Int) (v22_2 : Int) (v22_3 : List Int), V.loopN (V.loopF slices_Concat_int.E Tryz.f270.ntmps [1, 1, 1, 1, 0, 1, 0] [] (V.codeOf Tryz.f270) (slices_Concat_int.kt x0)) n (slices_Concat_int.s22 x0 v22_1 v22_2 v22_3) = slices_Concat_int.l22 x0 n v22_1 v22_2 v22_3 := by
  intro n
  induction n with
  | zero => intros; rw [V.loopN_z]; rfl
  | succ n ih =>
    intro v22_1 v22_2 v22_3
    rw [V.loopN_s, slices_Concat_int.r22]
    simp only [ih]
    first | exact (slices_Concat_int.u22 ..).symm | rfl
theorem slices_Concat_int.r6 (x0 : List (List Int)) (R : V.St → Option (List Int)) (v6_1 : Int) (v6_3 : Int) (v6_4 : Int) : V.loopF slices_Concat_int.E Tryz.f270.ntmps [1, 1, 0, 1, 0] [] (V.codeOf Tryz.f270) (slices_Concat_int.kt x0) R (slices_Concat_int.s6 x0 v6_1 v6_3 v6_4) = slices_Concat_int.g6 x0 (fun v6_1 v6_3 v6_4 => R (slices_Concat_int.s6 x0 v6_1 v6_3 v6_4)) (fun v22_1 v22_2 v22_3 => V.loopN (V.loopF slices_Concat_int.E Tryz.f270.ntmps [1, 1, 1, 1, 0, 1, 0] [] (V.codeOf Tryz.f270) (slices_Concat_int.kt x0)) V.KK (slices_Concat_int.s22 x0 v22_1 v22_2 v22_3)) v6_1 v6_3 v6_4 := by kernel_rfl
theorem slices_Concat_int.e6 (x0 : List (List Int)) : ∀ (n : Nat) (v6_1 : Int) (v6_3 : Int) (v6_4 : Int), V.loopN (V.loopF slices_Concat_int.E Tryz.f270.ntmps [1, 1, 0, 1, 0] [] (V.codeOf Tryz.f270) (slices_Concat_int.kt x0)) n (slices_Concat_int.s6 x0 v6_1 v6_3 v6_4) = slices_Concat_int.l6 x0 n v6_1 v6_3 v6_4 := by
  intro n
  induction n with
  | zero => intros; rw [V.loopN_z]; rfl
  | succ n ih =>
    intro v6_1 v6_3 v6_4
    rw [V.loopN_s, slices_Concat_int.r6]
    simp only [slices_Concat_int.e22, ih]
    first | exact (slices_Concat_int.u6 ..).symm | rfl
theorem slices_Concat_int.v (x0 : List (List Int)) : V.evBody slices_Concat_int.E slices_Concat_int.con Tryz.f270 ((x0) : List (List Int)) = slices_Concat_int.b x0 (fun v6_1 v6_3 v6_4 => V.loopN (V.loopF slices_Concat_int.E Tryz.f270.ntmps [1, 1, 0, 1, 0] [] (V.codeOf Tryz.f270) (slices_Concat_int.kt x0)) V.KK (slices_Concat_int.s6 x0 v6_1 v6_3 v6_4)) := by kernel_rfl
theorem slices_Concat_int.eq (x0 : List (List Int)) : V.evBody slices_Concat_int.E slices_Concat_int.con Tryz.f270 ((x0) : List (List Int)) = slices_Concat_int x0 := by
  rw [slices_Concat_int.v]
  simp only [slices_Concat_int.e6]
  rfl
theorem slices_Concat_int.ok : V.Valid Tryz.prog 270 slices_Concat_int.con :=
  V.fo (V.tab_cons slices_Grow_int.ok V.tab_nil) Tryz.func270 (by kernel_rfl) (fun x y h => (show V.evBody slices_Concat_int.E slices_Concat_int.con Tryz.f270 x = _ from slices_Concat_int.eq x).trans (V.cfl (by kernel_rfl) h))
noncomputable abbrev impl_HeadInts.con : V.Con := ⟨V.A2, (.cons (.sl (.cons (.int .i64) .nil)) .nil), fun (x : V.D2) => impl_HeadInts (V.p2_0 x), [], [(true, 16)], [(false, 1)], [true], []⟩
noncomputable abbrev impl_HeadInts.E : V.Env := V.mkE V.tys [(270, slices_Concat_int.con), (271, impl_KeysInts.con), (272, impl_bit.con)] [] [(1, 33)] [] [] []
noncomputable abbrev impl_HeadInts.kt (x0 : THead) : V.Kt (List Int) := V.ktOf impl_HeadInts.E impl_HeadInts.con Tryz.f210 (V.fl2 x0)
noncomputable abbrev impl_HeadInts.s (x0 : THead) : V.St := ⟨[(0, .v true [.val (.int .i64 x0.1), .val (.int .i64 x0.2.1), .val (.int .i64 x0.2.2.1), .val (.int .i64 x0.2.2.2.1), .val (.int .i64 x0.2.2.2.2.1), .val (.int .i64 x0.2.2.2.2.2.1), .val (.int .i64 x0.2.2.2.2.2.2.1), .val (.int .i64 x0.2.2.2.2.2.2.2.1), .val (.sl (.cons (.int .i64) .nil) x0.2.2.2.2.2.2.2.2.1), .val (.int .i64 x0.2.2.2.2.2.2.2.2.2.1), .val (.sl (.cons (.int .i64) .nil) x0.2.2.2.2.2.2.2.2.2.2.1), .val (.int .i64 x0.2.2.2.2.2.2.2.2.2.2.2.1), .val (.int .i64 x0.2.2.2.2.2.2.2.2.2.2.2.2.1), .val (.sl (.cons (.int .i64) .nil) x0.2.2.2.2.2.2.2.2.2.2.2.2.2.1), .val (.int .i64 x0.2.2.2.2.2.2.2.2.2.2.2.2.2.2.1), .val (.bool x0.2.2.2.2.2.2.2.2.2.2.2.2.2.2.2)])], []⟩
theorem impl_HeadInts.v0 (x0 : THead) : V.evBody impl_HeadInts.E impl_HeadInts.con Tryz.f210 (V.fl2 x0) = V.evC impl_HeadInts.E Tryz.f210.ntmps (V.codeOf Tryz.f210) (impl_HeadInts.kt x0) (impl_HeadInts.s x0) := by kernel_rfl
theorem impl_HeadInts.v (x0 : THead) : V.evC impl_HeadInts.E Tryz.f210.ntmps (V.codeOf Tryz.f210) (impl_HeadInts.kt x0) (impl_HeadInts.s x0) = impl_HeadInts x0 := by kernel_rfl
theorem impl_HeadInts.eq (x0 : THead) : V.evBody impl_HeadInts.E impl_HeadInts.con Tryz.f210 (V.fl2 x0) = impl_HeadInts x0 := (impl_HeadInts.v0 x0).trans (impl_HeadInts.v x0)
theorem impl_HeadInts.ok : V.Valid Tryz.prog 210 impl_HeadInts.con :=
  V.fo (V.tab_cons slices_Concat_int.ok (V.tab_cons impl_KeysInts.ok (V.tab_cons impl_bit.ok V.tab_nil))) Tryz.func210 (by kernel_rfl) (fun x y h => (show V.evBody impl_HeadInts.E impl_HeadInts.con Tryz.f210 x = _ from impl_HeadInts.eq (V.p2_0 x)).trans (V.cfl (by kernel_rfl) h))
noncomputable abbrev impl_KeyedHash.con : V.Con := ⟨(.cons (.int .i64) (.cons (.sl (.cons (.int .i64) .nil)) .nil)), (.cons (.int .i64) .nil), fun (x : Int × List Int) => impl_KeyedHash x.1 x.2, [], [(false, 1), (false, 1)], [(false, 1)], [false], []⟩
noncomputable abbrev impl_KeyedHash.E : V.Env := V.mkE V.tys [(260, impl_Hash.con), (270, slices_Concat_int.con)] [] [] [128320] [] []
theorem impl_KeyedHash.eq (x0 : Int) (x1 : List Int) : V.evBody impl_KeyedHash.E impl_KeyedHash.con Tryz.f222 ((x0, x1) : Int × List Int) = impl_KeyedHash x0 x1 := by kernel_rfl
theorem impl_KeyedHash.ok : V.Valid Tryz.prog 222 impl_KeyedHash.con :=
  V.fo (V.tab_cons impl_Hash.ok (V.tab_cons slices_Concat_int.ok V.tab_nil)) Tryz.func222 (by kernel_rfl) (fun x y h => (show V.evBody impl_KeyedHash.E impl_KeyedHash.con Tryz.f222 x = _ from impl_KeyedHash.eq x.1 x.2).trans (V.cfl (by kernel_rfl) h))
noncomputable abbrev impl_TagOf.con : V.Con := ⟨(.cons (.int .i64) (.cons (.sl (.cons (.int .i64) .nil)) .nil)), (.cons (.int .i64) .nil), fun (x : Int × List Int) => impl_TagOf x.1 x.2, [], [(false, 1), (false, 1)], [(false, 1)], [false], []⟩
noncomputable abbrev impl_TagOf.E : V.Env := V.mkE V.tys [(222, impl_KeyedHash.con)] [] [] [] [] []
theorem impl_TagOf.eq (x0 : Int) (x1 : List Int) : V.evBody impl_TagOf.E impl_TagOf.con Tryz.f128 ((x0, x1) : Int × List Int) = impl_TagOf x0 x1 := by kernel_rfl
theorem impl_TagOf.ok : V.Valid Tryz.prog 128 impl_TagOf.con :=
  V.fo (V.tab_cons impl_KeyedHash.ok V.tab_nil) Tryz.func128 (by kernel_rfl) (fun x y h => (show V.evBody impl_TagOf.E impl_TagOf.con Tryz.f128 x = _ from impl_TagOf.eq x.1 x.2).trans (V.cfl (by kernel_rfl) h))
noncomputable abbrev impl_IsSigBy.con : V.Con := ⟨(.cons (.int .i64) (.cons (.int .i64) (.cons (.sl (.cons (.int .i64) .nil)) .nil))), (.cons .bool .nil), fun (x : Int × Int × List Int) => impl_IsSigBy (x.1, x.2.1) x.2.2, [], [(true, 2), (false, 1)], [(false, 1)], [false], []⟩
noncomputable abbrev impl_IsSigBy.E : V.Env := V.mkE V.tys [(128, impl_TagOf.con), (218, impl_isKey.con)] [] [(1, 10)] [] [] []
theorem impl_IsSigBy.eq (x0 : TSig) (x1 : List Int) : V.evBody impl_IsSigBy.E impl_IsSigBy.con Tryz.f322 ((x0.1, x0.2, x1) : Int × Int × List Int) = impl_IsSigBy x0 x1 := by kernel_rfl
theorem impl_IsSigBy.ok : V.Valid Tryz.prog 322 impl_IsSigBy.con :=
  V.fo (V.tab_cons impl_TagOf.ok (V.tab_cons impl_isKey.ok V.tab_nil)) Tryz.func322 (by kernel_rfl) (fun x y h => (show V.evBody impl_IsSigBy.E impl_IsSigBy.con Tryz.f322 x = _ from impl_IsSigBy.eq (x.1, x.2.1) x.2.2).trans (V.cfl (by kernel_rfl) h))
noncomputable abbrev impl_CountSigs_1.con : V.Con := ⟨(.cons (.int .i64) (.cons (.int .i64) (.cons (.ptr (.cons (.int .i64) .nil)) (.cons (.ptr (.cons (.sl (.cons (.int .i64) .nil)) .nil)) .nil)))), (.cons .bool .nil), fun (x : Int × Int × Int × List Int) => impl_CountSigs_1 (x.1, x.2.1) x.2.2.1 x.2.2.2, [], [(true, 2), (false, 1), (false, 1)], [(false, 1)], [false], []⟩
noncomputable abbrev impl_CountSigs_1.E : V.Env := V.mkE V.tys [(322, impl_IsSigBy.con)] [] [] [] [] []
theorem impl_CountSigs_1.eq (x0 : TSig) (x1 : Int) (x2 : List Int) : V.evBody impl_CountSigs_1.E impl_CountSigs_1.con Tryz.f321 ((x0.1, x0.2, x1, x2) : Int × Int × Int × List Int) = impl_CountSigs_1 x0 x1 x2 := by kernel_rfl
theorem impl_CountSigs_1.ok : V.Valid Tryz.prog 321 impl_CountSigs_1.con :=
  V.fo (V.tab_cons impl_IsSigBy.ok V.tab_nil) Tryz.func321 (by kernel_rfl) (fun x y h => (show V.evBody impl_CountSigs_1.E impl_CountSigs_1.con Tryz.f321 x = _ from impl_CountSigs_1.eq (x.1, x.2.1) x.2.2.1 x.2.2.2).trans (V.cfl (by kernel_rfl) h))
noncomputable abbrev slices_IndexFunc_impl_Sig__CountSigs_1.con : V.Con := ⟨(.cons (.sl (.cons (.int .i64) (.cons (.int .i64) .nil))) (.cons (.fn 321 false .nil (.cons (.ptr (.cons (.int .i64) .nil)) (.cons (.ptr (.cons (.sl (.cons (.int .i64) .nil)) .nil)) .nil))) .nil)), (.cons (.int .i64) .nil), fun (x : List TSig × (Unit) × (Int × List Int)) => slices_IndexFunc_impl_Sig__CountSigs_1 x.1 x.2, [], [(false, 1), (false, 1)], [(false, 1)], [false], []⟩
noncomputable abbrev slices_IndexFunc_impl_Sig__CountSigs_1.E : V.Env := V.mkE V.tys [(321, impl_CountSigs_1.con)] [(4, [0, 1, 7, 8], [])] [] [] [] []
noncomputable abbrev slices_IndexFunc_impl_Sig__CountSigs_1.kt (x0 : List TSig) (x1 : (Unit) × (Int × List Int)) : V.Kt Int := V.ktOf slices_IndexFunc_impl_Sig__CountSigs_1.E slices_IndexFunc_impl_Sig__CountSigs_1.con Tryz.f323 ((x0, x1) : List TSig × (Unit) × (Int × List Int))
noncomputable abbrev slices_IndexFunc_impl_Sig__CountSigs_1.s4 (x0 : List TSig) (x1 : (Unit) × (Int × List Int)) (v4_2 : Int) (v4_3 : Int) : V.St := ⟨[(0, .v false [.val (.sl (.cons (.int .i64) (.cons (.int .i64) .nil)) x0)]), (1, .v false [.val (.fn 321 false .nil (.cons (.ptr (.cons (.int .i64) .nil)) (.cons (.ptr (.cons (.sl (.cons (.int .i64) .nil)) .nil)) .nil)) () x1.2)]), (7, .v false [.val (.int .i64 v4_2)]), (8, .v false [.val (.int .i64 v4_3)])], []⟩
theorem slices_IndexFunc_impl_Sig__CountSigs_1.r4 (x0 : List TSig) (x1 : (Unit) × (Int × List Int)) (R : V.St → Option Int) (v4_2 : Int) (v4_3 : Int) : V.loopF slices_IndexFunc_impl_Sig__CountSigs_1.E Tryz.f323.ntmps [1, 0, 1, 0] [] (V.codeOf Tryz.f323) (slices_IndexFunc_impl_Sig__CountSigs_1.kt x0 x1) R (slices_IndexFunc_impl_Sig__CountSigs_1.s4 x0 x1 v4_2 v4_3) = slices_IndexFunc_impl_Sig__CountSigs_1.g4 x0 x1 (fun v4_2 v4_3 => R (slices_IndexFunc_impl_Sig__CountSigs_1.s4 x0 x1 v4_2 v4_3)) v4_2 v4_3 := by kernel_rfl
theorem slices_IndexFunc_impl_Sig__CountSigs_1.e4 (x0 : List TSig) (x1 : (Unit) × (Int × List Int)) : ∀ (n : Nat) (v4_2 : Int) (v4_3 : Int), V.loopN (V.loopF slices_IndexFunc_impl_Sig__CountSigs_1.E Tryz.f323.ntmps [1, 0, 1, 0] [] (V.codeOf Tryz.f323) (slices_IndexFunc_impl_Sig__CountSigs_1.kt x0 x1)) n (slices_IndexFunc_impl_Sig__CountSigs_1.s4 x0 x1 v4_2 v4_3) = slices_IndexFunc_impl_Sig__CountSigs_1.l4 x0 x1 n v4_2 v4_3 := by
  intro n
  induction n with
  | zero => intros; rw [V.loopN_z]; rfl
  | succ n ih =>
    intro v4_2 v4_3
    rw [V.loopN_s, slices_IndexFunc_impl_Sig__CountSigs_1.r4]
    simp only [ih]
    first | exact (slices_IndexFunc_impl_Sig__CountSigs_1.u4 ..).symm | rfl
theorem slices_IndexFunc_impl_Sig__CountSigs_1.v (x0 : List TSig) (x1 : (Unit) × (Int × List Int)) : V.evBody slices_IndexFunc_impl_Sig__CountSigs_1.E slices_IndexFunc_impl_Sig__CountSigs_1.con Tryz.f323 ((x0, x1) : List TSig × (Unit) × (Int × List Int)) = slices_IndexFunc_impl_Sig__CountSigs_1.b x0 x1 (fun v4_2 v4_3 => V.loopN (V.loopF slices_IndexFunc_impl_Sig__CountSigs_1.E Tryz.f323.ntmps [1, 0, 1, 0] [] (V.codeOf Tryz.f323) (slices_IndexFunc_impl_Sig__CountSigs_1.kt x0 x1)) V.KK (slices_IndexFunc_impl_Sig__CountSigs_1.s4 x0 x1 v4_2 v4_3)) := by kernel_rfl
theorem slices_IndexFunc_impl_Sig__CountSigs_1.eq (x0 : List TSig) (x1 : (Unit) × (Int × List Int)) : V.evBody slices_IndexFunc_impl_Sig__CountSigs_1.E slices_IndexFunc_impl_Sig__CountSigs_1.con Tryz.f323 ((x0, x1) : List TSig × (Unit) × (Int × List Int)) = slices_IndexFunc_impl_Sig__CountSigs_1 x0 x1 := by
  rw [slices_IndexFunc_impl_Sig__CountSigs_1.v]
  simp only [slices_IndexFunc_impl_Sig__CountSigs_1.e4]
  rfl
theorem slices_IndexFunc_impl_Sig__CountSigs_1.ok : V.Valid Tryz.prog 323 slices_IndexFunc_impl_Sig__CountSigs_1.con :=
  V.fo (V.tab_cons impl_CountSigs_1.ok V.tab_nil) Tryz.func323 (by kernel_rfl) (fun x y h => (show V.evBody slices_IndexFunc_impl_Sig__CountSigs_1.E slices_IndexFunc_impl_Sig__CountSigs_1.con Tryz.f323 x = _ from slices_IndexFunc_impl_Sig__CountSigs_1.eq x.1 x.2).trans (V.cfl (by kernel_rfl) h))
noncomputable abbrev slices_ContainsFunc_impl_Sig__CountSigs_1.con : V.Con := ⟨(.cons (.sl (.cons (.int .i64) (.cons (.int .i64) .nil))) (.cons (.fn 321 false .nil (.cons (.ptr (.cons (.int .i64) .nil)) (.cons (.ptr (.cons (.sl (.cons (.int .i64) .nil)) .nil)) .nil))) .nil)), (.cons .bool .nil), fun (x : List TSig × (Unit) × (Int × List Int)) => slices_ContainsFunc_impl_Sig__CountSigs_1 x.1 x.2, [], [(false, 1), (false, 1)], [(false, 1)], [false], []⟩
noncomputable abbrev slices_ContainsFunc_impl_Sig__CountSigs_1.E : V.Env := V.mkE V.tys [(323, slices_IndexFunc_impl_Sig__CountSigs_1.con)] [] [] [] [] []
theorem slices_ContainsFunc_impl_Sig__CountSigs_1.eq (x0 : List TSig) (x1 : (Unit) × (Int × List Int)) : V.evBody slices_ContainsFunc_impl_Sig__CountSigs_1.E slices_ContainsFunc_impl_Sig__CountSigs_1.con Tryz.f320 ((x0, x1) : List TSig × (Unit) × (Int × List Int)) = slices_ContainsFunc_impl_Sig__CountSigs_1 x0 x1 := by kernel_rfl
theorem slices_ContainsFunc_impl_Sig__CountSigs_1.ok : V.Valid Tryz.prog 320 slices_ContainsFunc_impl_Sig__CountSigs_1.con :=
  V.fo (V.tab_cons slices_IndexFunc_impl_Sig__CountSigs_1.ok V.tab_nil) Tryz.func320 (by kernel_rfl) (fun x y h => (show V.evBody slices_ContainsFunc_impl_Sig__CountSigs_1.E slices_ContainsFunc_impl_Sig__CountSigs_1.con Tryz.f320 x = _ from slices_ContainsFunc_impl_Sig__CountSigs_1.eq x.1 x.2).trans (V.cfl (by kernel_rfl) h))
noncomputable abbrev impl_CountSigs.con : V.Con := ⟨(.cons (.sl (.cons (.int .i64) .nil)) (.cons (.int .i64) (.cons (.sl (.cons (.int .i64) .nil)) (.cons (.sl (.cons (.int .i64) (.cons (.int .i64) .nil))) .nil)))), (.cons (.int .i64) .nil), fun (x : List Int × Int × List Int × List TSig) => impl_CountSigs (x.1, x.2.1) x.2.2.1 x.2.2.2, [], [(true, 2), (false, 1), (false, 1)], [(false, 1)], [false], []⟩
noncomputable abbrev impl_CountSigs.E : V.Env := V.mkE V.tys [(320, slices_ContainsFunc_impl_Sig__CountSigs_1.con)] [(6, [2, 4, 7, 11, 12, 13], [])] [] [] [] []
noncomputable abbrev impl_CountSigs.kt (x0 : TKeys) (x1 : List Int) (x2 : List TSig) : V.Kt Int := V.ktOf impl_CountSigs.E impl_CountSigs.con Tryz.f319 ((x0.1, x0.2, x1, x2) : List Int × Int × List Int × List TSig)
noncomputable abbrev impl_CountSigs.s6 (x0 : TKeys) (x1 : List Int) (x2 : List TSig) (v6_1 : Int) (v6_3 : Int) (v6_4 : Int) : V.St := ⟨[(2, .v false [.val (.sl (.cons (.int .i64) (.cons (.int .i64) .nil)) x2)]), (4, .v false [.ptr 64064 0]), (7, .v false [.val (.int .i64 v6_1)]), (11, .v false [.val (.sl (.cons (.int .i64) .nil) x0.1)]), (12, .v false [.val (.int .i64 v6_3)]), (13, .v false [.val (.int .i64 v6_4)])], [(64064, .box [.val (.sl (.cons (.int .i64) .nil) x1)])]⟩
theorem impl_CountSigs.r6 (x0 : TKeys) (x1 : List Int) (x2 : List TSig) (R : V.St → Option Int) (v6_1 : Int) (v6_3 : Int) (v6_4 : Int) : V.loopF impl_CountSigs.E Tryz.f319.ntmps [1, 1, 0, 1, 0] [] (V.codeOf Tryz.f319) (impl_CountSigs.kt x0 x1 x2) R (impl_CountSigs.s6 x0 x1 x2 v6_1 v6_3 v6_4) = impl_CountSigs.g6 x0 x1 x2 (fun v6_1 v6_3 v6_4 => R (impl_CountSigs.s6 x0 x1 x2 v6_1 v6_3 v6_4)) v6_1 v6_3 v6_4 := by kernel_rfl
theorem impl_CountSigs.e6 (x0 : TKeys) (x1 : List Int) (x2 : List TSig) : ∀ (n : Nat) (v6_1 : Int) (v6_3 : Int) (v6_4 : Int), V.loopN (V.loopF impl_CountSigs.E Tryz.f319.ntmps [1, 1, 0, 1, 0] [] (V.codeOf Tryz.f319) (impl_CountSigs.kt x0 x1 x2)) n (impl_CountSigs.s6 x0 x1 x2 v6_1 v6_3 v6_4) = impl_CountSigs.l6 x0 x1 x2 n v6_1 v6_3 v6_4 := by
  intro n
  induction n with
  | zero => intros; rw [V.loopN_z]; rfl
  | succ n ih =>
    intro v6_1 v6_3 v6_4
    rw [V.loopN_s, impl_CountSigs.r6]
    simp only [ih]
    first | exact (impl_CountSigs.u6 ..).symm | rfl
theorem impl_CountSigs.v (x0 : TKeys) (x1 : List Int) (x2 : List TSig) : V.evBody impl_CountSigs.E impl_CountSigs.con Tryz.f319 ((x0.1, x0.2, x1, x2) : List Int × Int × List Int × List TSig) = impl_CountSigs.b x0 x1 x2 (fun v6_1 v6_3 v6_4 => V.loopN (V.loopF impl_CountSigs.E Tryz.f319.ntmps [1, 1, 0, 1, 0] [] (V.codeOf Tryz.f319) (impl_CountSigs.kt x0 x1 x2)) V.KK (impl_CountSigs.s6 x0 x1 x2 v6_1 v6_3 v6_4)) := by kernel_rfl
theorem impl_CountSigs.eq (x0 : TKeys) (x1 : List Int) (x2 : List TSig) : V.evBody impl_CountSigs.E impl_CountSigs.con Tryz.f319 ((x0.1, x0.2, x1, x2) : List Int × Int × List Int × List TSig) = impl_CountSigs x0 x1 x2 := by
  rw [impl_CountSigs.v]
  simp only [impl_CountSigs.e6]
  rfl
theorem impl_CountSigs.ok : V.Valid Tryz.prog 319 impl_CountSigs.con :=
  V.fo (V.tab_cons slices_ContainsFunc_impl_Sig__CountSigs_1.ok V.tab_nil) Tryz.func319 (by kernel_rfl) (fun x y h => (show V.evBody impl_CountSigs.E impl_CountSigs.con Tryz.f319 x = _ from impl_CountSigs.eq (x.1, x.2.1) x.2.2.1 x.2.2.2).trans (V.cfl (by kernel_rfl) h))
noncomputable abbrev impl_IsSigned.con : V.Con := ⟨(.cons (.sl (.cons (.int .i64) .nil)) (.cons (.int .i64) (.cons (.sl (.cons (.int .i64) .nil)) (.cons (.sl (.cons (.int .i64) (.cons (.int .i64) .nil))) .nil)))), (.cons .bool .nil), fun (x : List Int × Int × List Int × List TSig) => impl_IsSigned (x.1, x.2.1) x.2.2.1 x.2.2.2, [], [(true, 2), (false, 1), (false, 1)], [(false, 1)], [false], []⟩
noncomputable abbrev impl_IsSigned.E : V.Env := V.mkE V.tys [(256, impl_IsKeys.con), (319, impl_CountSigs.con)] [] [(1, 9)] [] [] []
theorem impl_IsSigned.eq (x0 : TKeys) (x1 : List Int) (x2 : List TSig) : V.evBody impl_IsSigned.E impl_IsSigned.con Tryz.f315 ((x0.1, x0.2, x1, x2) : List Int × Int × List Int × List TSig) = impl_IsSigned x0 x1 x2 := by kernel_rfl
theorem impl_IsSigned.ok : V.Valid Tryz.prog 315 impl_IsSigned.con :=
  V.fo (V.tab_cons impl_IsKeys.ok (V.tab_cons impl_CountSigs.ok V.tab_nil)) Tryz.func315 (by kernel_rfl) (fun x y h => (show V.evBody impl_IsSigned.E impl_IsSigned.con Tryz.f315 x = _ from impl_IsSigned.eq (x.1, x.2.1) x.2.2.1 x.2.2.2).trans (V.cfl (by kernel_rfl) h))
noncomputable abbrev impl_Signed_isSignedBy.con : V.Con := ⟨V.A6, (.cons .bool .nil), fun (x : V.D6) => impl_Signed_isSignedBy (V.p6_0 x) (V.p6_1 x), [], [(true, 17), (true, 2)], [(false, 1)], [false], []⟩
noncomputable abbrev impl_Signed_isSignedBy.E : V.Env := V.mkE V.tys [(210, impl_HeadInts.con), (315, impl_IsSigned.con)] [] [(1, 6)] [] [] []
noncomputable abbrev impl_Signed_isSignedBy.kt (x0 : TSigned) (x1 : TKeys) : V.Kt Bool := V.ktOf impl_Signed_isSignedBy.E impl_Signed_isSignedBy.con Tryz.f302 (V.fl6 x0 x1)
noncomputable abbrev impl_Signed_isSignedBy.s (x0 : TSigned) (x1 : TKeys) : V.St := ⟨[(0, .v true [.val (.int .i64 x0.1), .val (.int .i64 x0.2.1), .val (.int .i64 x0.2.2.1), .val (.int .i64 x0.2.2.2.1), .val (.int .i64 x0.2.2.2.2.1), .val (.int .i64 x0.2.2.2.2.2.1), .val (.int .i64 x0.2.2.2.2.2.2.1), .val (.int .i64 x0.2.2.2.2.2.2.2.1), .val (.sl (.cons (.int .i64) .nil) x0.2.2.2.2.2.2.2.2.1), .val (.int .i64 x0.2.2.2.2.2.2.2.2.2.1), .val (.sl (.cons (.int .i64) .nil) x0.2.2.2.2.2.2.2.2.2.2.1), .val (.int .i64 x0.2.2.2.2.2.2.2.2.2.2.2.1), .val (.int .i64 x0.2.2.2.2.2.2.2.2.2.2.2.2.1), .val (.sl (.cons (.int .i64) .nil) x0.2.2.2.2.2.2.2.2.2.2.2.2.2.1), .val (.int .i64 x0.2.2.2.2.2.2.2.2.2.2.2.2.2.2.1), .val (.bool x0.2.2.2.2.2.2.2.2.2.2.2.2.2.2.2.1), .val (.sl (.cons (.int .i64) (.cons (.int .i64) .nil)) x0.2.2.2.2.2.2.2.2.2.2.2.2.2.2.2.2)]), (1, .v true [.val (.sl (.cons (.int .i64) .nil) x1.1), .val (.int .i64 x1.2)])], []⟩
theorem impl_Signed_isSignedBy.v0 (x0 : TSigned) (x1 : TKeys) : V.evBody impl_Signed_isSignedBy.E impl_Signed_isSignedBy.con Tryz.f302 (V.fl6 x0 x1) = V.evC impl_Signed_isSignedBy.E Tryz.f302.ntmps (V.codeOf Tryz.f302) (impl_Signed_isSignedBy.kt x0 x1) (impl_Signed_isSignedBy.s x0 x1) := by kernel_rfl
theorem impl_Signed_isSignedBy.v (x0 : TSigned) (x1 : TKeys) : V.evC impl_Signed_isSignedBy.E Tryz.f302.ntmps (V.codeOf Tryz.f302) (impl_Signed_isSignedBy.kt x0 x1) (impl_Signed_isSignedBy.s x0 x1) = impl_Signed_isSignedBy x0 x1 := by kernel_rfl
theorem impl_Signed_isSignedBy.eq (x0 : TSigned) (x1 : TKeys) : V.evBody impl_Signed_isSignedBy.E impl_Signed_isSignedBy.con Tryz.f302 (V.fl6 x0 x1) = impl_Signed_isSignedBy x0 x1 := (impl_Signed_isSignedBy.v0 x0 x1).trans (impl_Signed_isSignedBy.v x0 x1)
theorem impl_Signed_isSignedBy.ok : V.Valid Tryz.prog 302 impl_Signed_isSignedBy.con :=
  V.fo (V.tab_cons impl_HeadInts.ok (V.tab_cons impl_IsSigned.ok V.tab_nil)) Tryz.func302 (by kernel_rfl) (fun x y h => (show V.evBody impl_Signed_isSignedBy.E impl_Signed_isSignedBy.con Tryz.f302 x = _ from impl_Signed_isSignedBy.eq (V.p6_0 x) (V.p6_1 x)).trans (V.cfl (by kernel_rfl) h))
noncomputable abbrev impl_IsFirst.con : V.Con := ⟨V.A3, (.cons .bool .nil), fun (x : V.D3) => impl_IsFirst (V.p3_0 x), [], [(true, 17)], [(false, 1)], [false], []⟩
noncomputable abbrev impl_IsFirst.E : V.Env := V.mkE V.tys [(194, impl_IsHead.con), (227, impl_ZoneOf.con), (302, impl_Signed_isSignedBy.con)] [] [(2, 31)] [] [] []
noncomputable abbrev impl_IsFirst.kt (x0 : TSigned) : V.Kt Bool := V.ktOf impl_IsFirst.E impl_IsFirst.con Tryz.f268 (V.fl3 x0)
noncomputable abbrev impl_IsFirst.s (x0 : TSigned) : V.St := ⟨[(0, .v true [.val (.int .i64 x0.1), .val (.int .i64 x0.2.1), .val (.int .i64 x0.2.2.1), .val (.int .i64 x0.2.2.2.1), .val (.int .i64 x0.2.2.2.2.1), .val (.int .i64 x0.2.2.2.2.2.1), .val (.int .i64 x0.2.2.2.2.2.2.1), .val (.int .i64 x0.2.2.2.2.2.2.2.1), .val (.sl (.cons (.int .i64) .nil) x0.2.2.2.2.2.2.2.2.1), .val (.int .i64 x0.2.2.2.2.2.2.2.2.2.1), .val (.sl (.cons (.int .i64) .nil) x0.2.2.2.2.2.2.2.2.2.2.1), .val (.int .i64 x0.2.2.2.2.2.2.2.2.2.2.2.1), .val (.int .i64 x0.2.2.2.2.2.2.2.2.2.2.2.2.1), .val (.sl (.cons (.int .i64) .nil) x0.2.2.2.2.2.2.2.2.2.2.2.2.2.1), .val (.int .i64 x0.2.2.2.2.2.2.2.2.2.2.2.2.2.2.1), .val (.bool x0.2.2.2.2.2.2.2.2.2.2.2.2.2.2.2.1), .val (.sl (.cons (.int .i64) (.cons (.int .i64) .nil)) x0.2.2.2.2.2.2.2.2.2.2.2.2.2.2.2.2)])], []⟩
theorem impl_IsFirst.v0 (x0 : TSigned) : V.evBody impl_IsFirst.E impl_IsFirst.con Tryz.f268 (V.fl3 x0) = V.evC impl_IsFirst.E Tryz.f268.ntmps (V.codeOf Tryz.f268) (impl_IsFirst.kt x0) (impl_IsFirst.s x0) := by kernel_rfl
theorem impl_IsFirst.v (x0 : TSigned) : V.evC impl_IsFirst.E Tryz.f268.ntmps (V.codeOf Tryz.f268) (impl_IsFirst.kt x0) (impl_IsFirst.s x0) = impl_IsFirst x0 := by kernel_rfl
theorem impl_IsFirst.eq (x0 : TSigned) : V.evBody impl_IsFirst.E impl_IsFirst.con Tryz.f268 (V.fl3 x0) = impl_IsFirst x0 := (impl_IsFirst.v0 x0).trans (impl_IsFirst.v x0)
theorem impl_IsFirst.ok : V.Valid Tryz.prog 268 impl_IsFirst.con :=
  V.fo (V.tab_cons impl_IsHead.ok (V.tab_cons impl_ZoneOf.ok (V.tab_cons impl_Signed_isSignedBy.ok V.tab_nil))) Tryz.func268 (by kernel_rfl) (fun x y h => (show V.evBody impl_IsFirst.E impl_IsFirst.con Tryz.f268 x = _ from impl_IsFirst.eq (V.p3_0 x)).trans (V.cfl (by kernel_rfl) h))
noncomputable abbrev impl_HeadDigest.con : V.Con := ⟨V.A2, (.cons (.int .i64) .nil), fun (x : V.D2) => impl_HeadDigest (V.p2_0 x), [], [(true, 16)], [(false, 1)], [false], []⟩
noncomputable abbrev impl_HeadDigest.E : V.Env := V.mkE V.tys [(210, impl_HeadInts.con), (260, impl_Hash.con)] [] [] [] [] []
noncomputable abbrev impl_HeadDigest.kt (x0 : THead) : V.Kt Int := V.ktOf impl_HeadDigest.E impl_HeadDigest.con Tryz.f197 (V.fl2 x0)
noncomputable abbrev impl_HeadDigest.s (x0 : THead) : V.St := ⟨[(0, .v true [.val (.int .i64 x0.1), .val (.int .i64 x0.2.1), .val (.int .i64 x0.2.2.1), .val (.int .i64 x0.2.2.2.1), .val (.int .i64 x0.2.2.2.2.1), .val (.int .i64 x0.2.2.2.2.2.1), .val (.int .i64 x0.2.2.2.2.2.2.1), .val (.int .i64 x0.2.2.2.2.2.2.2.1), .val (.sl (.cons (.int .i64) .nil) x0.2.2.2.2.2.2.2.2.1), .val (.int .i64 x0.2.2.2.2.2.2.2.2.2.1), .val (.sl (.cons (.int .i64) .nil) x0.2.2.2.2.2.2.2.2.2.2.1), .val (.int .i64 x0.2.2.2.2.2.2.2.2.2.2.2.1), .val (.int .i64 x0.2.2.2.2.2.2.2.2.2.2.2.2.1), .val (.sl (.cons (.int .i64) .nil) x0.2.2.2.2.2.2.2.2.2.2.2.2.2.1), .val (.int .i64 x0.2.2.2.2.2.2.2.2.2.2.2.2.2.2.1), .val (.bool x0.2.2.2.2.2.2.2.2.2.2.2.2.2.2.2)])], []⟩
theorem impl_HeadDigest.v0 (x0 : THead) : V.evBody impl_HeadDigest.E impl_HeadDigest.con Tryz.f197 (V.fl2 x0) = V.evC impl_HeadDigest.E Tryz.f197.ntmps (V.codeOf Tryz.f197) (impl_HeadDigest.kt x0) (impl_HeadDigest.s x0) := by kernel_rfl
theorem impl_HeadDigest.v (x0 : THead) : V.evC impl_HeadDigest.E Tryz.f197.ntmps (V.codeOf Tryz.f197) (impl_HeadDigest.kt x0) (impl_HeadDigest.s x0) = impl_HeadDigest x0 := by kernel_rfl
theorem impl_HeadDigest.eq (x0 : THead) : V.evBody impl_HeadDigest.E impl_HeadDigest.con Tryz.f197 (V.fl2 x0) = impl_HeadDigest x0 := (impl_HeadDigest.v0 x0).trans (impl_HeadDigest.v x0)
theorem impl_HeadDigest.ok : V.Valid Tryz.prog 197 impl_HeadDigest.con :=
  V.fo (V.tab_cons impl_HeadInts.ok (V.tab_cons impl_Hash.ok V.tab_nil)) Tryz.func197 (by kernel_rfl) (fun x y h => (show V.evBody impl_HeadDigest.E impl_HeadDigest.con Tryz.f197 x = _ from impl_HeadDigest.eq (V.p2_0 x)).trans (V.cfl (by kernel_rfl) h))
noncomputable abbrev impl_isNext.con : V.Con := ⟨V.A4, (.cons .bool .nil), fun (x : V.D4) => impl_isNext (V.p4_0 x) (V.p4_1 x), [], [(true, 16), (true, 16)], [(false, 1)], [false], []⟩
noncomputable abbrev impl_isNext.E : V.Env := V.mkE V.tys [(197, impl_HeadDigest.con)] [] [(1, 25)] [] [] []
noncomputable abbrev impl_isNext.kt (x0 : THead) (x1 : THead) : V.Kt Bool := V.ktOf impl_isNext.E impl_isNext.con Tryz.f288 (V.fl4 x0 x1)
noncomputable abbrev impl_isNext.s (x0 : THead) (x1 : THead) : V.St := ⟨[(0, .v true [.val (.int .i64 x0.1), .val (.int .i64 x0.2.1), .val (.int .i64 x0.2.2.1), .val (.int .i64 x0.2.2.2.1), .val (.int .i64 x0.2.2.2.2.1), .val (.int .i64 x0.2.2.2.2.2.1), .val (.int .i64 x0.2.2.2.2.2.2.1), .val (.int .i64 x0.2.2.2.2.2.2.2.1), .val (.sl (.cons (.int .i64) .nil) x0.2.2.2.2.2.2.2.2.1), .val (.int .i64 x0.2.2.2.2.2.2.2.2.2.1), .val (.sl (.cons (.int .i64) .nil) x0.2.2.2.2.2.2.2.2.2.2.1), .val (.int .i64 x0.2.2.2.2.2.2.2.2.2.2.2.1), .val (.int .i64 x0.2.2.2.2.2.2.2.2.2.2.2.2.1), .val (.sl (.cons (.int .i64) .nil) x0.2.2.2.2.2.2.2.2.2.2.2.2.2.1), .val (.int .i64 x0.2.2.2.2.2.2.2.2.2.2.2.2.2.2.1), .val (.bool x0.2.2.2.2.2.2.2.2.2.2.2.2.2.2.2)]), (1, .v true [.val (.int .i64 x1.1), .val (.int .i64 x1.2.1), .val (.int .i64 x1.2.2.1), .val (.int .i64 x1.2.2.2.1), .val (.int .i64 x1.2.2.2.2.1), .val (.int .i64 x1.2.2.2.2.2.1), .val (.int .i64 x1.2.2.2.2.2.2.1), .val (.int .i64 x1.2.2.2.2.2.2.2.1), .val (.sl (.cons (.int .i64) .nil) x1.2.2.2.2.2.2.2.2.1), .val (.int .i64 x1.2.2.2.2.2.2.2.2.2.1), .val (.sl (.cons (.int .i64) .nil) x1.2.2.2.2.2.2.2.2.2.2.1), .val (.int .i64 x1.2.2.2.2.2.2.2.2.2.2.2.1), .val (.int .i64 x1.2.2.2.2.2.2.2.2.2.2.2.2.1), .val (.sl (.cons (.int .i64) .nil) x1.2.2.2.2.2.2.2.2.2.2.2.2.2.1), .val (.int .i64 x1.2.2.2.2.2.2.2.2.2.2.2.2.2.2.1), .val (.bool x1.2.2.2.2.2.2.2.2.2.2.2.2.2.2.2)])], []⟩
theorem impl_isNext.v0 (x0 : THead) (x1 : THead) : V.evBody impl_isNext.E impl_isNext.con Tryz.f288 (V.fl4 x0 x1) = V.evC impl_isNext.E Tryz.f288.ntmps (V.codeOf Tryz.f288) (impl_isNext.kt x0 x1) (impl_isNext.s x0 x1) := by kernel_rfl
theorem impl_isNext.v (x0 : THead) (x1 : THead) : V.evC impl_isNext.E Tryz.f288.ntmps (V.codeOf Tryz.f288) (impl_isNext.kt x0 x1) (impl_isNext.s x0 x1) = impl_isNext x0 x1 := by kernel_rfl
theorem impl_isNext.eq (x0 : THead) (x1 : THead) : V.evBody impl_isNext.E impl_isNext.con Tryz.f288 (V.fl4 x0 x1) = impl_isNext x0 x1 := (impl_isNext.v0 x0 x1).trans (impl_isNext.v x0 x1)
theorem impl_isNext.ok : V.Valid Tryz.prog 288 impl_isNext.con :=
  V.fo (V.tab_cons impl_HeadDigest.ok V.tab_nil) Tryz.func288 (by kernel_rfl) (fun x y h => (show V.evBody impl_isNext.E impl_isNext.con Tryz.f288 x = _ from impl_isNext.eq (V.p4_0 x) (V.p4_1 x)).trans (V.cfl (by kernel_rfl) h))
noncomputable abbrev impl_ownerCode.con : V.Con := ⟨V.A5, (.cons (.int .i64) .nil), fun (x : V.D5) => impl_ownerCode (V.p5_0 x) (V.p5_1 x), [], [(true, 16), (true, 17)], [(false, 1)], [false], []⟩
noncomputable abbrev impl_ownerCode.E : V.Env := V.mkE V.tys [(302, impl_Signed_isSignedBy.con)] [] [] [] [] []
noncomputable abbrev impl_ownerCode.kt (x0 : THead) (x1 : TSigned) : V.Kt Int := V.ktOf impl_ownerCode.E impl_ownerCode.con Tryz.f289 (V.fl5 x0 x1)
noncomputable abbrev impl_ownerCode.s (x0 : THead) (x1 : TSigned) : V.St := ⟨[(0, .v true [.val (.int .i64 x0.1), .val (.int .i64 x0.2.1), .val (.int .i64 x0.2.2.1), .val (.int .i64 x0.2.2.2.1), .val (.int .i64 x0.2.2.2.2.1), .val (.int .i64 x0.2.2.2.2.2.1), .val (.int .i64 x0.2.2.2.2.2.2.1), .val (.int .i64 x0.2.2.2.2.2.2.2.1), .val (.sl (.cons (.int .i64) .nil) x0.2.2.2.2.2.2.2.2.1), .val (.int .i64 x0.2.2.2.2.2.2.2.2.2.1), .val (.sl (.cons (.int .i64) .nil) x0.2.2.2.2.2.2.2.2.2.2.1), .val (.int .i64 x0.2.2.2.2.2.2.2.2.2.2.2.1), .val (.int .i64 x0.2.2.2.2.2.2.2.2.2.2.2.2.1), .val (.sl (.cons (.int .i64) .nil) x0.2.2.2.2.2.2.2.2.2.2.2.2.2.1), .val (.int .i64 x0.2.2.2.2.2.2.2.2.2.2.2.2.2.2.1), .val (.bool x0.2.2.2.2.2.2.2.2.2.2.2.2.2.2.2)]), (1, .v true [.val (.int .i64 x1.1), .val (.int .i64 x1.2.1), .val (.int .i64 x1.2.2.1), .val (.int .i64 x1.2.2.2.1), .val (.int .i64 x1.2.2.2.2.1), .val (.int .i64 x1.2.2.2.2.2.1), .val (.int .i64 x1.2.2.2.2.2.2.1), .val (.int .i64 x1.2.2.2.2.2.2.2.1), .val (.sl (.cons (.int .i64) .nil) x1.2.2.2.2.2.2.2.2.1), .val (.int .i64 x1.2.2.2.2.2.2.2.2.2.1), .val (.sl (.cons (.int .i64) .nil) x1.2.2.2.2.2.2.2.2.2.2.1), .val (.int .i64 x1.2.2.2.2.2.2.2.2.2.2.2.1), .val (.int .i64 x1.2.2.2.2.2.2.2.2.2.2.2.2.1), .val (.sl (.cons (.int .i64) .nil) x1.2.2.2.2.2.2.2.2.2.2.2.2.2.1), .val (.int .i64 x1.2.2.2.2.2.2.2.2.2.2.2.2.2.2.1), .val (.bool x1.2.2.2.2.2.2.2.2.2.2.2.2.2.2.2.1), .val (.sl (.cons (.int .i64) (.cons (.int .i64) .nil)) x1.2.2.2.2.2.2.2.2.2.2.2.2.2.2.2.2)])], []⟩
theorem impl_ownerCode.v0 (x0 : THead) (x1 : TSigned) : V.evBody impl_ownerCode.E impl_ownerCode.con Tryz.f289 (V.fl5 x0 x1) = V.evC impl_ownerCode.E Tryz.f289.ntmps (V.codeOf Tryz.f289) (impl_ownerCode.kt x0 x1) (impl_ownerCode.s x0 x1) := by kernel_rfl
theorem impl_ownerCode.v (x0 : THead) (x1 : TSigned) : V.evC impl_ownerCode.E Tryz.f289.ntmps (V.codeOf Tryz.f289) (impl_ownerCode.kt x0 x1) (impl_ownerCode.s x0 x1) = impl_ownerCode x0 x1 := by kernel_rfl
theorem impl_ownerCode.eq (x0 : THead) (x1 : TSigned) : V.evBody impl_ownerCode.E impl_ownerCode.con Tryz.f289 (V.fl5 x0 x1) = impl_ownerCode x0 x1 := (impl_ownerCode.v0 x0 x1).trans (impl_ownerCode.v x0 x1)
theorem impl_ownerCode.ok : V.Valid Tryz.prog 289 impl_ownerCode.con :=
  V.fo (V.tab_cons impl_Signed_isSignedBy.ok V.tab_nil) Tryz.func289 (by kernel_rfl) (fun x y h => (show V.evBody impl_ownerCode.E impl_ownerCode.con Tryz.f289 x = _ from impl_ownerCode.eq (V.p5_0 x) (V.p5_1 x)).trans (V.cfl (by kernel_rfl) h))
noncomputable abbrev slices_Equal_int.con : V.Con := ⟨(.cons (.sl (.cons (.int .i64) .nil)) (.cons (.sl (.cons (.int .i64) .nil)) .nil)), (.cons .bool .nil), fun (x : List Int × List Int) => slices_Equal_int x.1 x.2, [], [(false, 1), (false, 1)], [(false, 1)], [false], []⟩
noncomputable abbrev slices_Equal_int.E : V.Env := V.mkE V.tys [] [(8, [0, 1, 12, 13], [])] [(6, 8)] [] [] []
noncomputable abbrev slices_Equal_int.kt (x0 : List Int) (x1 : List Int) : V.Kt Bool := V.ktOf slices_Equal_int.E slices_Equal_int.con Tryz.f209 ((x0, x1) : List Int × List Int)
noncomputable abbrev slices_Equal_int.s8 (x0 : List Int) (x1 : List Int) (v8_2 : Int) (v8_3 : Int) : V.St := ⟨[(0, .v false [.val (.sl (.cons (.int .i64) .nil) x0)]), (1, .v false [.val (.sl (.cons (.int .i64) .nil) x1)]), (12, .v false [.val (.int .i64 v8_2)]), (13, .v false [.val (.int .i64 v8_3)])], []⟩
theorem slices_Equal_int.r8 (x0 : List Int) (x1 : List Int) (R : V.St → Option Bool) (v8_2 : Int) (v8_3 : Int) : V.loopF slices_Equal_int.E Tryz.f209.ntmps [1, 1, 0, 1, 0] [] (V.codeOf Tryz.f209) (slices_Equal_int.kt x0 x1) R (slices_Equal_int.s8 x0 x1 v8_2 v8_3) = slices_Equal_int.g8 x0 x1 (fun v8_2 v8_3 => R (slices_Equal_int.s8 x0 x1 v8_2 v8_3)) v8_2 v8_3 := by kernel_rfl
theorem slices_Equal_int.e8 (x0 : List Int) (x1 : List Int) : ∀ (n : Nat) (v8_2 : Int) (v8_3 : Int), V.loopN (V.loopF slices_Equal_int.E Tryz.f209.ntmps [1, 1, 0, 1, 0] [] (V.codeOf Tryz.f209) (slices_Equal_int.kt x0 x1)) n (slices_Equal_int.s8 x0 x1 v8_2 v8_3) = slices_Equal_int.l8 x0 x1 n v8_2 v8_3 := by
  intro n
  induction n with
  | zero => intros; rw [V.loopN_z]; rfl
  | succ n ih =>
    intro v8_2 v8_3
    rw [V.loopN_s, slices_Equal_int.r8]
    simp only [ih]
    first | exact (slices_Equal_int.u8 ..).symm | rfl
theorem slices_Equal_int.v (x0 : List Int) (x1 : List Int) : V.evBody slices_Equal_int.E slices_Equal_int.con Tryz.f209 ((x0, x1) : List Int × List Int) = slices_Equal_int.b x0 x1 (fun v8_2 v8_3 => V.loopN (V.loopF slices_Equal_int.E Tryz.f209.ntmps [1, 1, 0, 1, 0] [] (V.codeOf Tryz.f209) (slices_Equal_int.kt x0 x1)) V.KK (slices_Equal_int.s8 x0 x1 v8_2 v8_3)) := by kernel_rfl
theorem slices_Equal_int.eq (x0 : List Int) (x1 : List Int) : V.evBody slices_Equal_int.E slices_Equal_int.con Tryz.f209 ((x0, x1) : List Int × List Int) = slices_Equal_int x0 x1 := by
  rw [slices_Equal_int.v]
  simp only [slices_Equal_int.e8]
  rfl
theorem slices_Equal_int.ok : V.Valid Tryz.prog 209 slices_Equal_int.con :=
  V.fo V.tab_nil Tryz.func209 (by kernel_rfl) (fun x y h => (show V.evBody slices_Equal_int.E slices_Equal_int.con Tryz.f209 x = _ from slices_Equal_int.eq x.1 x.2).trans (V.cfl (by kernel_rfl) h))
noncomputable abbrev impl_EqualKeys.con : V.Con := ⟨(.cons (.sl (.cons (.int .i64) .nil)) (.cons (.int .i64) (.cons (.sl (.cons (.int .i64) .nil)) (.cons (.int .i64) .nil)))), (.cons .bool .nil), fun (x : List Int × Int × List Int × Int) => impl_EqualKeys (x.1, x.2.1) x.2.2, [], [(true, 2), (true, 2)], [(false, 1)], [false], []⟩
noncomputable abbrev impl_EqualKeys.E : V.Env := V.mkE V.tys [(209, slices_Equal_int.con)] [] [] [] [] []
theorem impl_EqualKeys.eq (x0 : TKeys) (x1 : TKeys) : V.evBody impl_EqualKeys.E impl_EqualKeys.con Tryz.f208 ((x0.1, x0.2, x1.1, x1.2) : List Int × Int × List Int × Int) = impl_EqualKeys x0 x1 := by kernel_rfl
theorem impl_EqualKeys.ok : V.Valid Tryz.prog 208 impl_EqualKeys.con :=
  V.fo (V.tab_cons slices_Equal_int.ok V.tab_nil) Tryz.func208 (by kernel_rfl) (fun x y h => (show V.evBody impl_EqualKeys.E impl_EqualKeys.con Tryz.f208 x = _ from impl_EqualKeys.eq (x.1, x.2.1) x.2.2).trans (V.cfl (by kernel_rfl) h))
noncomputable abbrev impl_SameContents.con : V.Con := ⟨V.A4, (.cons .bool .nil), fun (x : V.D4) => impl_SameContents (V.p4_0 x) (V.p4_1 x), [], [(true, 16), (true, 16)], [(false, 1)], [false], []⟩
noncomputable abbrev impl_SameContents.E : V.Env := V.mkE V.tys [] [] [] [] [] []
noncomputable abbrev impl_SameContents.kt (x0 : THead) (x1 : THead) : V.Kt Bool := V.ktOf impl_SameContents.E impl_SameContents.con Tryz.f310 (V.fl4 x0 x1)
noncomputable abbrev impl_SameContents.s (x0 : THead) (x1 : THead) : V.St := ⟨[(0, .v true [.val (.int .i64 x0.1), .val (.int .i64 x0.2.1), .val (.int .i64 x0.2.2.1), .val (.int .i64 x0.2.2.2.1), .val (.int .i64 x0.2.2.2.2.1), .val (.int .i64 x0.2.2.2.2.2.1), .val (.int .i64 x0.2.2.2.2.2.2.1), .val (.int .i64 x0.2.2.2.2.2.2.2.1), .val (.sl (.cons (.int .i64) .nil) x0.2.2.2.2.2.2.2.2.1), .val (.int .i64 x0.2.2.2.2.2.2.2.2.2.1), .val (.sl (.cons (.int .i64) .nil) x0.2.2.2.2.2.2.2.2.2.2.1), .val (.int .i64 x0.2.2.2.2.2.2.2.2.2.2.2.1), .val (.int .i64 x0.2.2.2.2.2.2.2.2.2.2.2.2.1), .val (.sl (.cons (.int .i64) .nil) x0.2.2.2.2.2.2.2.2.2.2.2.2.2.1), .val (.int .i64 x0.2.2.2.2.2.2.2.2.2.2.2.2.2.2.1), .val (.bool x0.2.2.2.2.2.2.2.2.2.2.2.2.2.2.2)]), (1, .v true [.val (.int .i64 x1.1), .val (.int .i64 x1.2.1), .val (.int .i64 x1.2.2.1), .val (.int .i64 x1.2.2.2.1), .val (.int .i64 x1.2.2.2.2.1), .val (.int .i64 x1.2.2.2.2.2.1), .val (.int .i64 x1.2.2.2.2.2.2.1), .val (.int .i64 x1.2.2.2.2.2.2.2.1), .val (.sl (.cons (.int .i64) .nil) x1.2.2.2.2.2.2.2.2.1), .val (.int .i64 x1.2.2.2.2.2.2.2.2.2.1), .val (.sl (.cons (.int .i64) .nil) x1.2.2.2.2.2.2.2.2.2.2.1), .val (.int .i64 x1.2.2.2.2.2.2.2.2.2.2.2.1), .val (.int .i64 x1.2.2.2.2.2.2.2.2.2.2.2.2.1), .val (.sl (.cons (.int .i64) .nil) x1.2.2.2.2.2.2.2.2.2.2.2.2.2.1), .val (.int .i64 x1.2.2.2.2.2.2.2.2.2.2.2.2.2.2.1), .val (.bool x1.2.2.2.2.2.2.2.2.2.2.2.2.2.2.2)])], []⟩
theorem impl_SameContents.v0 (x0 : THead) (x1 : THead) : V.evBody impl_SameContents.E impl_SameContents.con Tryz.f310 (V.fl4 x0 x1) = V.evC impl_SameContents.E Tryz.f310.ntmps (V.codeOf Tryz.f310) (impl_SameContents.kt x0 x1) (impl_SameContents.s x0 x1) := by kernel_rfl
theorem impl_SameContents.v (x0 : THead) (x1 : THead) : V.evC impl_SameContents.E Tryz.f310.ntmps (V.codeOf Tryz.f310) (impl_SameContents.kt x0 x1) (impl_SameContents.s x0 x1) = impl_SameContents x0 x1 := by kernel_rfl
theorem impl_SameContents.eq (x0 : THead) (x1 : THead) : V.evBody impl_SameContents.E impl_SameContents.con Tryz.f310 (V.fl4 x0 x1) = impl_SameContents x0 x1 := (impl_SameContents.v0 x0 x1).trans (impl_SameContents.v x0 x1)
theorem impl_SameContents.ok : V.Valid Tryz.prog 310 impl_SameContents.con :=
  V.fo V.tab_nil Tryz.func310 (by kernel_rfl) (fun x y h => (show V.evBody impl_SameContents.E impl_SameContents.con Tryz.f310 x = _ from impl_SameContents.eq (V.p4_0 x) (V.p4_1 x)).trans (V.cfl (by kernel_rfl) h))
noncomputable abbrev impl_heirCode.con : V.Con := ⟨V.A5, (.cons (.int .i64) .nil), fun (x : V.D5) => impl_heirCode (V.p5_0 x) (V.p5_1 x), [], [(true, 16), (true, 17)], [(false, 1)], [false], []⟩
noncomputable abbrev impl_heirCode.E : V.Env := V.mkE V.tys [(208, impl_EqualKeys.con), (259, impl_NoKeys.con), (302, impl_Signed_isSignedBy.con), (310, impl_SameContents.con)] [(11, [2, 3, 5, 11], []), (15, [2, 3, 25], [])] [] [] [] []
noncomputable abbrev impl_heirCode.kt (x0 : THead) (x1 : TSigned) : V.Kt Int := V.ktOf impl_heirCode.E impl_heirCode.con Tryz.f290 (V.fl5 x0 x1)
noncomputable abbrev impl_heirCode.s15 (x0 : THead) (x1 : TSigned) (v15_0 : Bool) : V.St := ⟨[(2, .v false [.ptr 64000 0]), (3, .v false [.ptr 64064 0]), (25, .v false [.val (.bool v15_0)])], [(64000, .box [.val (.int .i64 x0.1), .val (.int .i64 x0.2.1), .val (.int .i64 x0.2.2.1), .val (.int .i64 x0.2.2.2.1), .val (.int .i64 x0.2.2.2.2.1), .val (.int .i64 x0.2.2.2.2.2.1), .val (.int .i64 x0.2.2.2.2.2.2.1), .val (.int .i64 x0.2.2.2.2.2.2.2.1), .val (.sl (.cons (.int .i64) .nil) x0.2.2.2.2.2.2.2.2.1), .val (.int .i64 x0.2.2.2.2.2.2.2.2.2.1), .val (.sl (.cons (.int .i64) .nil) x0.2.2.2.2.2.2.2.2.2.2.1), .val (.int .i64 x0.2.2.2.2.2.2.2.2.2.2.2.1), .val (.int .i64 x0.2.2.2.2.2.2.2.2.2.2.2.2.1), .val (.sl (.cons (.int .i64) .nil) x0.2.2.2.2.2.2.2.2.2.2.2.2.2.1), .val (.int .i64 x0.2.2.2.2.2.2.2.2.2.2.2.2.2.2.1), .val (.bool x0.2.2.2.2.2.2.2.2.2.2.2.2.2.2.2)]), (64064, .box [.val (.int .i64 x1.1), .val (.int .i64 x1.2.1), .val (.int .i64 x1.2.2.1), .val (.int .i64 x1.2.2.2.1), .val (.int .i64 x1.2.2.2.2.1), .val (.int .i64 x1.2.2.2.2.2.1), .val (.int .i64 x1.2.2.2.2.2.2.1), .val (.int .i64 x1.2.2.2.2.2.2.2.1), .val (.sl (.cons (.int .i64) .nil) x1.2.2.2.2.2.2.2.2.1), .val (.int .i64 x1.2.2.2.2.2.2.2.2.2.1), .val (.sl (.cons (.int .i64) .nil) x1.2.2.2.2.2.2.2.2.2.2.1), .val (.int .i64 x1.2.2.2.2.2.2.2.2.2.2.2.1), .val (.int .i64 x1.2.2.2.2.2.2.2.2.2.2.2.2.1), .val (.sl (.cons (.int .i64) .nil) x1.2.2.2.2.2.2.2.2.2.2.2.2.2.1), .val (.int .i64 x1.2.2.2.2.2.2.2.2.2.2.2.2.2.2.1), .val (.bool x1.2.2.2.2.2.2.2.2.2.2.2.2.2.2.2.1), .val (.sl (.cons (.int .i64) (.cons (.int .i64) .nil)) x1.2.2.2.2.2.2.2.2.2.2.2.2.2.2.2.2)])]⟩
noncomputable abbrev impl_heirCode.s11 (x0 : THead) (x1 : TSigned) (v11_0 : Bool) : V.St := ⟨[(2, .v false [.ptr 64000 0]), (3, .v false [.ptr 64064 0]), (5, .v false [.ptr 128128 0]), (11, .v false [.val (.bool v11_0)])], [(64000, .box [.val (.int .i64 x0.1), .val (.int .i64 x0.2.1), .val (.int .i64 x0.2.2.1), .val (.int .i64 x0.2.2.2.1), .val (.int .i64 x0.2.2.2.2.1), .val (.int .i64 x0.2.2.2.2.2.1), .val (.int .i64 x0.2.2.2.2.2.2.1), .val (.int .i64 x0.2.2.2.2.2.2.2.1), .val (.sl (.cons (.int .i64) .nil) x0.2.2.2.2.2.2.2.2.1), .val (.int .i64 x0.2.2.2.2.2.2.2.2.2.1), .val (.sl (.cons (.int .i64) .nil) x0.2.2.2.2.2.2.2.2.2.2.1), .val (.int .i64 x0.2.2.2.2.2.2.2.2.2.2.2.1), .val (.int .i64 x0.2.2.2.2.2.2.2.2.2.2.2.2.1), .val (.sl (.cons (.int .i64) .nil) x0.2.2.2.2.2.2.2.2.2.2.2.2.2.1), .val (.int .i64 x0.2.2.2.2.2.2.2.2.2.2.2.2.2.2.1), .val (.bool x0.2.2.2.2.2.2.2.2.2.2.2.2.2.2.2)]), (64064, .box [.val (.int .i64 x1.1), .val (.int .i64 x1.2.1), .val (.int .i64 x1.2.2.1), .val (.int .i64 x1.2.2.2.1), .val (.int .i64 x1.2.2.2.2.1), .val (.int .i64 x1.2.2.2.2.2.1), .val (.int .i64 x1.2.2.2.2.2.2.1), .val (.int .i64 x1.2.2.2.2.2.2.2.1), .val (.sl (.cons (.int .i64) .nil) x1.2.2.2.2.2.2.2.2.1), .val (.int .i64 x1.2.2.2.2.2.2.2.2.2.1), .val (.sl (.cons (.int .i64) .nil) x1.2.2.2.2.2.2.2.2.2.2.1), .val (.int .i64 x1.2.2.2.2.2.2.2.2.2.2.2.1), .val (.int .i64 x1.2.2.2.2.2.2.2.2.2.2.2.2.1), .val (.sl (.cons (.int .i64) .nil) x1.2.2.2.2.2.2.2.2.2.2.2.2.2.1), .val (.int .i64 x1.2.2.2.2.2.2.2.2.2.2.2.2.2.2.1), .val (.bool x1.2.2.2.2.2.2.2.2.2.2.2.2.2.2.2.1), .val (.sl (.cons (.int .i64) (.cons (.int .i64) .nil)) x1.2.2.2.2.2.2.2.2.2.2.2.2.2.2.2.2)]), (128128, .box [.val (.int .i64 x1.1), .val (.int .i64 x1.2.1), .val (.int .i64 x1.2.2.1), .val (.int .i64 x1.2.2.2.1), .val (.int .i64 x1.2.2.2.2.1), .val (.int .i64 x1.2.2.2.2.2.1), .val (.int .i64 x1.2.2.2.2.2.2.1), .val (.int .i64 x1.2.2.2.2.2.2.2.1), .val (.sl (.cons (.int .i64) .nil) x1.2.2.2.2.2.2.2.2.1), .val (.int .i64 x1.2.2.2.2.2.2.2.2.2.1), .val (.sl (.cons (.int .i64) .nil) x1.2.2.2.2.2.2.2.2.2.2.1), .val (.int .i64 x1.2.2.2.2.2.2.2.2.2.2.2.1), .val (.int .i64 x1.2.2.2.2.2.2.2.2.2.2.2.2.1), .val (.sl (.cons (.int .i64) .nil) x1.2.2.2.2.2.2.2.2.2.2.2.2.2.1), .val (.int .i64 x1.2.2.2.2.2.2.2.2.2.2.2.2.2.2.1), .val (.bool x1.2.2.2.2.2.2.2.2.2.2.2.2.2.2.2.1)])]⟩
theorem impl_heirCode.r15 (x0 : THead) (x1 : TSigned) (v15_0 : Bool) : V.normK 15 ([2, 3, 25], []) (V.joinF impl_heirCode.E Tryz.f290.ntmps [1, 1, 0, 0, 1, 1, 1, 1] [] (V.codeOf Tryz.f290) (impl_heirCode.kt x0 x1)) (impl_heirCode.s15 x0 x1 v15_0) = impl_heirCode.g15 x0 x1 v15_0 := by kernel_rfl
theorem impl_heirCode.e15 (x0 : THead) (x1 : TSigned) (v15_0 : Bool) : V.normK 15 ([2, 3, 25], []) (V.joinF impl_heirCode.E Tryz.f290.ntmps [1, 1, 0, 0, 1, 1, 1, 1] [] (V.codeOf Tryz.f290) (impl_heirCode.kt x0 x1)) (impl_heirCode.s15 x0 x1 v15_0) = impl_heirCode.l15 x0 x1 v15_0 := by
  rw [impl_heirCode.r15]
  rfl
theorem impl_heirCode.r11 (x0 : THead) (x1 : TSigned) (v11_0 : Bool) : V.normK 11 ([2, 3, 5, 11], []) (V.joinF impl_heirCode.E Tryz.f290.ntmps [1, 1, 0, 0, 1, 1] [] (V.codeOf Tryz.f290) (impl_heirCode.kt x0 x1)) (impl_heirCode.s11 x0 x1 v11_0) = impl_heirCode.g11 x0 x1 (fun v15_0 => V.normK 15 ([2, 3, 25], []) (V.joinF impl_heirCode.E Tryz.f290.ntmps [1, 1, 0, 0, 1, 1, 1, 1] [] (V.codeOf Tryz.f290) (impl_heirCode.kt x0 x1)) (impl_heirCode.s15 x0 x1 v15_0)) v11_0 := by kernel_rfl
theorem impl_heirCode.e11 (x0 : THead) (x1 : TSigned) (v11_0 : Bool) : V.normK 11 ([2, 3, 5, 11], []) (V.joinF impl_heirCode.E Tryz.f290.ntmps [1, 1, 0, 0, 1, 1] [] (V.codeOf Tryz.f290) (impl_heirCode.kt x0 x1)) (impl_heirCode.s11 x0 x1 v11_0) = impl_heirCode.l11 x0 x1 v11_0 := by
  rw [impl_heirCode.r11]
  simp only [impl_heirCode.e15]
  rfl
noncomputable abbrev impl_heirCode.s (x0 : THead) (x1 : TSigned) : V.St := ⟨[(0, .v true [.val (.int .i64 x0.1), .val (.int .i64 x0.2.1), .val (.int .i64 x0.2.2.1), .val (.int .i64 x0.2.2.2.1), .val (.int .i64 x0.2.2.2.2.1), .val (.int .i64 x0.2.2.2.2.2.1), .val (.int .i64 x0.2.2.2.2.2.2.1), .val (.int .i64 x0.2.2.2.2.2.2.2.1), .val (.sl (.cons (.int .i64) .nil) x0.2.2.2.2.2.2.2.2.1), .val (.int .i64 x0.2.2.2.2.2.2.2.2.2.1), .val (.sl (.cons (.int .i64) .nil) x0.2.2.2.2.2.2.2.2.2.2.1), .val (.int .i64 x0.2.2.2.2.2.2.2.2.2.2.2.1), .val (.int .i64 x0.2.2.2.2.2.2.2.2.2.2.2.2.1), .val (.sl (.cons (.int .i64) .nil) x0.2.2.2.2.2.2.2.2.2.2.2.2.2.1), .val (.int .i64 x0.2.2.2.2.2.2.2.2.2.2.2.2.2.2.1), .val (.bool x0.2.2.2.2.2.2.2.2.2.2.2.2.2.2.2)]), (1, .v true [.val (.int .i64 x1.1), .val (.int .i64 x1.2.1), .val (.int .i64 x1.2.2.1), .val (.int .i64 x1.2.2.2.1), .val (.int .i64 x1.2.2.2.2.1), .val (.int .i64 x1.2.2.2.2.2.1), .val (.int .i64 x1.2.2.2.2.2.2.1), .val (.int .i64 x1.2.2.2.2.2.2.2.1), .val (.sl (.cons (.int .i64) .nil) x1.2.2.2.2.2.2.2.2.1), .val (.int .i64 x1.2.2.2.2.2.2.2.2.2.1), .val (.sl (.cons (.int .i64) .nil) x1.2.2.2.2.2.2.2.2.2.2.1), .val (.int .i64 x1.2.2.2.2.2.2.2.2.2.2.2.1), .val (.int .i64 x1.2.2.2.2.2.2.2.2.2.2.2.2.1), .val (.sl (.cons (.int .i64) .nil) x1.2.2.2.2.2.2.2.2.2.2.2.2.2.1), .val (.int .i64 x1.2.2.2.2.2.2.2.2.2.2.2.2.2.2.1), .val (.bool x1.2.2.2.2.2.2.2.2.2.2.2.2.2.2.2.1), .val (.sl (.cons (.int .i64) (.cons (.int .i64) .nil)) x1.2.2.2.2.2.2.2.2.2.2.2.2.2.2.2.2)])], []⟩
theorem impl_heirCode.v0 (x0 : THead) (x1 : TSigned) : V.evBody impl_heirCode.E impl_heirCode.con Tryz.f290 (V.fl5 x0 x1) = V.evC impl_heirCode.E Tryz.f290.ntmps (V.codeOf Tryz.f290) (impl_heirCode.kt x0 x1) (impl_heirCode.s x0 x1) := by kernel_rfl
theorem impl_heirCode.v (x0 : THead) (x1 : TSigned) : V.evC impl_heirCode.E Tryz.f290.ntmps (V.codeOf Tryz.f290) (impl_heirCode.kt x0 x1) (impl_heirCode.s x0 x1) = impl_heirCode.b x0 x1 (fun v11_0 => V.normK 11 ([2, 3, 5, 11], []) (V.joinF impl_heirCode.E Tryz.f290.ntmps [1, 1, 0, 0, 1, 1] [] (V.codeOf Tryz.f290) (impl_heirCode.kt x0 x1)) (impl_heirCode.s11 x0 x1 v11_0)) := by kernel_rfl
theorem impl_heirCode.eq (x0 : THead) (x1 : TSigned) : V.evBody impl_heirCode.E impl_heirCode.con Tryz.f290 (V.fl5 x0 x1) = impl_heirCode x0 x1 := by
  rw [impl_heirCode.v0, impl_heirCode.v]
  simp only [impl_heirCode.e11]
  rfl
theorem impl_heirCode.ok : V.Valid Tryz.prog 290 impl_heirCode.con :=
  V.fo (V.tab_cons impl_EqualKeys.ok (V.tab_cons impl_NoKeys.ok (V.tab_cons impl_Signed_isSignedBy.ok (V.tab_cons impl_SameContents.ok V.tab_nil)))) Tryz.func290 (by kernel_rfl) (fun x y h => (show V.evBody impl_heirCode.E impl_heirCode.con Tryz.f290 x = _ from impl_heirCode.eq (V.p5_0 x) (V.p5_1 x)).trans (V.cfl (by kernel_rfl) h))
noncomputable abbrev impl_judgeCode.con : V.Con := ⟨V.A5, (.cons (.int .i64) .nil), fun (x : V.D5) => impl_judgeCode (V.p5_0 x) (V.p5_1 x), [], [(true, 16), (true, 17)], [(false, 1)], [false], []⟩
noncomputable abbrev impl_judgeCode.E : V.Env := V.mkE V.tys [(208, impl_EqualKeys.con), (259, impl_NoKeys.con), (302, impl_Signed_isSignedBy.con), (310, impl_SameContents.con)] [(7, [2, 3, 5, 6], []), (13, [2, 3, 37], [])] [] [] [] []
noncomputable abbrev impl_judgeCode.kt (x0 : THead) (x1 : TSigned) : V.Kt Int := V.ktOf impl_judgeCode.E impl_judgeCode.con Tryz.f291 (V.fl5 x0 x1)
noncomputable abbrev impl_judgeCode.s13 (x0 : THead) (x1 : TSigned) (v13_0 : Bool) : V.St := ⟨[(2, .v false [.ptr 64000 0]), (3, .v false [.ptr 64064 0]), (37, .v false [.val (.bool v13_0)])], [(64000, .box [.val (.int .i64 x0.1), .val (.int .i64 x0.2.1), .val (.int .i64 x0.2.2.1), .val (.int .i64 x0.2.2.2.1), .val (.int .i64 x0.2.2.2.2.1), .val (.int .i64 x0.2.2.2.2.2.1), .val (.int .i64 x0.2.2.2.2.2.2.1), .val (.int .i64 x0.2.2.2.2.2.2.2.1), .val (.sl (.cons (.int .i64) .nil) x0.2.2.2.2.2.2.2.2.1), .val (.int .i64 x0.2.2.2.2.2.2.2.2.2.1), .val (.sl (.cons (.int .i64) .nil) x0.2.2.2.2.2.2.2.2.2.2.1), .val (.int .i64 x0.2.2.2.2.2.2.2.2.2.2.2.1), .val (.int .i64 x0.2.2.2.2.2.2.2.2.2.2.2.2.1), .val (.sl (.cons (.int .i64) .nil) x0.2.2.2.2.2.2.2.2.2.2.2.2.2.1), .val (.int .i64 x0.2.2.2.2.2.2.2.2.2.2.2.2.2.2.1), .val (.bool x0.2.2.2.2.2.2.2.2.2.2.2.2.2.2.2)]), (64064, .box [.val (.int .i64 x1.1), .val (.int .i64 x1.2.1), .val (.int .i64 x1.2.2.1), .val (.int .i64 x1.2.2.2.1), .val (.int .i64 x1.2.2.2.2.1), .val (.int .i64 x1.2.2.2.2.2.1), .val (.int .i64 x1.2.2.2.2.2.2.1), .val (.int .i64 x1.2.2.2.2.2.2.2.1), .val (.sl (.cons (.int .i64) .nil) x1.2.2.2.2.2.2.2.2.1), .val (.int .i64 x1.2.2.2.2.2.2.2.2.2.1), .val (.sl (.cons (.int .i64) .nil) x1.2.2.2.2.2.2.2.2.2.2.1), .val (.int .i64 x1.2.2.2.2.2.2.2.2.2.2.2.1), .val (.int .i64 x1.2.2.2.2.2.2.2.2.2.2.2.2.1), .val (.sl (.cons (.int .i64) .nil) x1.2.2.2.2.2.2.2.2.2.2.2.2.2.1), .val (.int .i64 x1.2.2.2.2.2.2.2.2.2.2.2.2.2.2.1), .val (.bool x1.2.2.2.2.2.2.2.2.2.2.2.2.2.2.2.1), .val (.sl (.cons (.int .i64) (.cons (.int .i64) .nil)) x1.2.2.2.2.2.2.2.2.2.2.2.2.2.2.2.2)])]⟩
noncomputable abbrev impl_judgeCode.s7 (x0 : THead) (x1 : TSigned) (v7_0 : Bool) : V.St := ⟨[(2, .v false [.ptr 64000 0]), (3, .v false [.ptr 64064 0]), (5, .v false [.ptr 128128 0]), (6, .v false [.val (.bool v7_0)])], [(64000, .box [.val (.int .i64 x0.1), .val (.int .i64 x0.2.1), .val (.int .i64 x0.2.2.1), .val (.int .i64 x0.2.2.2.1), .val (.int .i64 x0.2.2.2.2.1), .val (.int .i64 x0.2.2.2.2.2.1), .val (.int .i64 x0.2.2.2.2.2.2.1), .val (.int .i64 x0.2.2.2.2.2.2.2.1), .val (.sl (.cons (.int .i64) .nil) x0.2.2.2.2.2.2.2.2.1), .val (.int .i64 x0.2.2.2.2.2.2.2.2.2.1), .val (.sl (.cons (.int .i64) .nil) x0.2.2.2.2.2.2.2.2.2.2.1), .val (.int .i64 x0.2.2.2.2.2.2.2.2.2.2.2.1), .val (.int .i64 x0.2.2.2.2.2.2.2.2.2.2.2.2.1), .val (.sl (.cons (.int .i64) .nil) x0.2.2.2.2.2.2.2.2.2.2.2.2.2.1), .val (.int .i64 x0.2.2.2.2.2.2.2.2.2.2.2.2.2.2.1), .val (.bool x0.2.2.2.2.2.2.2.2.2.2.2.2.2.2.2)]), (64064, .box [.val (.int .i64 x1.1), .val (.int .i64 x1.2.1), .val (.int .i64 x1.2.2.1), .val (.int .i64 x1.2.2.2.1), .val (.int .i64 x1.2.2.2.2.1), .val (.int .i64 x1.2.2.2.2.2.1), .val (.int .i64 x1.2.2.2.2.2.2.1), .val (.int .i64 x1.2.2.2.2.2.2.2.1), .val (.sl (.cons (.int .i64) .nil) x1.2.2.2.2.2.2.2.2.1), .val (.int .i64 x1.2.2.2.2.2.2.2.2.2.1), .val (.sl (.cons (.int .i64) .nil) x1.2.2.2.2.2.2.2.2.2.2.1), .val (.int .i64 x1.2.2.2.2.2.2.2.2.2.2.2.1), .val (.int .i64 x1.2.2.2.2.2.2.2.2.2.2.2.2.1), .val (.sl (.cons (.int .i64) .nil) x1.2.2.2.2.2.2.2.2.2.2.2.2.2.1), .val (.int .i64 x1.2.2.2.2.2.2.2.2.2.2.2.2.2.2.1), .val (.bool x1.2.2.2.2.2.2.2.2.2.2.2.2.2.2.2.1), .val (.sl (.cons (.int .i64) (.cons (.int .i64) .nil)) x1.2.2.2.2.2.2.2.2.2.2.2.2.2.2.2.2)]), (128128, .box [.val (.int .i64 x1.1), .val (.int .i64 x1.2.1), .val (.int .i64 x1.2.2.1), .val (.int .i64 x1.2.2.2.1), .val (.int .i64 x1.2.2.2.2.1), .val (.int .i64 x1.2.2.2.2.2.1), .val (.int .i64 x1.2.2.2.2.2.2.1), .val (.int .i64 x1.2.2.2.2.2.2.2.1), .val (.sl (.cons (.int .i64) .nil) x1.2.2.2.2.2.2.2.2.1), .val (.int .i64 x1.2.2.2.2.2.2.2.2.2.1), .val (.sl (.cons (.int .i64) .nil) x1.2.2.2.2.2.2.2.2.2.2.1), .val (.int .i64 x1.2.2.2.2.2.2.2.2.2.2.2.1), .val (.int .i64 x1.2.2.2.2.2.2.2.2.2.2.2.2.1), .val (.sl (.cons (.int .i64) .nil) x1.2.2.2.2.2.2.2.2.2.2.2.2.2.1), .val (.int .i64 x1.2.2.2.2.2.2.2.2.2.2.2.2.2.2.1), .val (.bool x1.2.2.2.2.2.2.2.2.2.2.2.2.2.2.2.1)])]⟩
theorem impl_judgeCode.r13 (x0 : THead) (x1 : TSigned) (v13_0 : Bool) : V.normK 13 ([2, 3, 37], []) (V.joinF impl_judgeCode.E Tryz.f291.ntmps [1, 1, 1, 0, 0, 1, 1] [] (V.codeOf Tryz.f291) (impl_judgeCode.kt x0 x1)) (impl_judgeCode.s13 x0 x1 v13_0) = impl_judgeCode.g13 x0 x1 v13_0 := by kernel_rfl
theorem impl_judgeCode.e13 (x0 : THead) (x1 : TSigned) (v13_0 : Bool) : V.normK 13 ([2, 3, 37], []) (V.joinF impl_judgeCode.E Tryz.f291.ntmps [1, 1, 1, 0, 0, 1, 1] [] (V.codeOf Tryz.f291) (impl_judgeCode.kt x0 x1)) (impl_judgeCode.s13 x0 x1 v13_0) = impl_judgeCode.l13 x0 x1 v13_0 := by
  rw [impl_judgeCode.r13]
  rfl
theorem impl_judgeCode.r7 (x0 : THead) (x1 : TSigned) (v7_0 : Bool) : V.normK 7 ([2, 3, 5, 6], []) (V.joinF impl_judgeCode.E Tryz.f291.ntmps [1, 1] [] (V.codeOf Tryz.f291) (impl_judgeCode.kt x0 x1)) (impl_judgeCode.s7 x0 x1 v7_0) = impl_judgeCode.g7 x0 x1 (fun v13_0 => V.normK 13 ([2, 3, 37], []) (V.joinF impl_judgeCode.E Tryz.f291.ntmps [1, 1, 1, 0, 0, 1, 1] [] (V.codeOf Tryz.f291) (impl_judgeCode.kt x0 x1)) (impl_judgeCode.s13 x0 x1 v13_0)) v7_0 := by kernel_rfl
theorem impl_judgeCode.e7 (x0 : THead) (x1 : TSigned) (v7_0 : Bool) : V.normK 7 ([2, 3, 5, 6], []) (V.joinF impl_judgeCode.E Tryz.f291.ntmps [1, 1] [] (V.codeOf Tryz.f291) (impl_judgeCode.kt x0 x1)) (impl_judgeCode.s7 x0 x1 v7_0) = impl_judgeCode.l7 x0 x1 v7_0 := by
  rw [impl_judgeCode.r7]
  simp only [impl_judgeCode.e13]
  rfl
noncomputable abbrev impl_judgeCode.s (x0 : THead) (x1 : TSigned) : V.St := ⟨[(0, .v true [.val (.int .i64 x0.1), .val (.int .i64 x0.2.1), .val (.int .i64 x0.2.2.1), .val (.int .i64 x0.2.2.2.1), .val (.int .i64 x0.2.2.2.2.1), .val (.int .i64 x0.2.2.2.2.2.1), .val (.int .i64 x0.2.2.2.2.2.2.1), .val (.int .i64 x0.2.2.2.2.2.2.2.1), .val (.sl (.cons (.int .i64) .nil) x0.2.2.2.2.2.2.2.2.1), .val (.int .i64 x0.2.2.2.2.2.2.2.2.2.1), .val (.sl (.cons (.int .i64) .nil) x0.2.2.2.2.2.2.2.2.2.2.1), .val (.int .i64 x0.2.2.2.2.2.2.2.2.2.2.2.1), .val (.int .i64 x0.2.2.2.2.2.2.2.2.2.2.2.2.1), .val (.sl (.cons (.int .i64) .nil) x0.2.2.2.2.2.2.2.2.2.2.2.2.2.1), .val (.int .i64 x0.2.2.2.2.2.2.2.2.2.2.2.2.2.2.1), .val (.bool x0.2.2.2.2.2.2.2.2.2.2.2.2.2.2.2)]), (1, .v true [.val (.int .i64 x1.1), .val (.int .i64 x1.2.1), .val (.int .i64 x1.2.2.1), .val (.int .i64 x1.2.2.2.1), .val (.int .i64 x1.2.2.2.2.1), .val (.int .i64 x1.2.2.2.2.2.1), .val (.int .i64 x1.2.2.2.2.2.2.1), .val (.int .i64 x1.2.2.2.2.2.2.2.1), .val (.sl (.cons (.int .i64) .nil) x1.2.2.2.2.2.2.2.2.1), .val (.int .i64 x1.2.2.2.2.2.2.2.2.2.1), .val (.sl (.cons (.int .i64) .nil) x1.2.2.2.2.2.2.2.2.2.2.1), .val (.int .i64 x1.2.2.2.2.2.2.2.2.2.2.2.1), .val (.int .i64 x1.2.2.2.2.2.2.2.2.2.2.2.2.1), .val (.sl (.cons (.int .i64) .nil) x1.2.2.2.2.2.2.2.2.2.2.2.2.2.1), .val (.int .i64 x1.2.2.2.2.2.2.2.2.2.2.2.2.2.2.1), .val (.bool x1.2.2.2.2.2.2.2.2.2.2.2.2.2.2.2.1), .val (.sl (.cons (.int .i64) (.cons (.int .i64) .nil)) x1.2.2.2.2.2.2.2.2.2.2.2.2.2.2.2.2)])], []⟩
theorem impl_judgeCode.v0 (x0 : THead) (x1 : TSigned) : V.evBody impl_judgeCode.E impl_judgeCode.con Tryz.f291 (V.fl5 x0 x1) = V.evC impl_judgeCode.E Tryz.f291.ntmps (V.codeOf Tryz.f291) (impl_judgeCode.kt x0 x1) (impl_judgeCode.s x0 x1) := by kernel_rfl
theorem impl_judgeCode.v (x0 : THead) (x1 : TSigned) : V.evC impl_judgeCode.E Tryz.f291.ntmps (V.codeOf Tryz.f291) (impl_judgeCode.kt x0 x1) (impl_judgeCode.s x0 x1) = impl_judgeCode.b x0 x1 (fun v7_0 => V.normK 7 ([2, 3, 5, 6], []) (V.joinF impl_judgeCode.E Tryz.f291.ntmps [1, 1] [] (V.codeOf Tryz.f291) (impl_judgeCode.kt x0 x1)) (impl_judgeCode.s7 x0 x1 v7_0)) := by kernel_rfl
theorem impl_judgeCode.eq (x0 : THead) (x1 : TSigned) : V.evBody impl_judgeCode.E impl_judgeCode.con Tryz.f291 (V.fl5 x0 x1) = impl_judgeCode x0 x1 := by
  rw [impl_judgeCode.v0, impl_judgeCode.v]
  simp only [impl_judgeCode.e7]
  rfl
theorem impl_judgeCode.ok : V.Valid Tryz.prog 291 impl_judgeCode.con :=
  V.fo (V.tab_cons impl_EqualKeys.ok (V.tab_cons impl_NoKeys.ok (V.tab_cons impl_Signed_isSignedBy.ok (V.tab_cons impl_SameContents.ok V.tab_nil)))) Tryz.func291 (by kernel_rfl) (fun x y h => (show V.evBody impl_judgeCode.E impl_judgeCode.con Tryz.f291 x = _ from impl_judgeCode.eq (V.p5_0 x) (V.p5_1 x)).trans (V.cfl (by kernel_rfl) h))
noncomputable abbrev impl_NextCode.con : V.Con := ⟨V.A5, (.cons (.int .i64) .nil), fun (x : V.D5) => impl_NextCode (V.p5_0 x) (V.p5_1 x), [], [(true, 16), (true, 17)], [(false, 1)], [false], []⟩
noncomputable abbrev impl_NextCode.E : V.Env := V.mkE V.tys [(194, impl_IsHead.con), (288, impl_isNext.con), (289, impl_ownerCode.con), (290, impl_heirCode.con), (291, impl_judgeCode.con)] [(5, [2, 3, 5], [])] [] [] [] []
noncomputable abbrev impl_NextCode.kt (x0 : THead) (x1 : TSigned) : V.Kt Int := V.ktOf impl_NextCode.E impl_NextCode.con Tryz.f244 (V.fl5 x0 x1)
noncomputable abbrev impl_NextCode.s5 (x0 : THead) (x1 : TSigned) (v5_0 : Bool) : V.St := ⟨[(2, .v false [.ptr 64000 0]), (3, .v false [.ptr 64064 0]), (5, .v false [.val (.bool v5_0)])], [(64000, .box [.val (.int .i64 x0.1), .val (.int .i64 x0.2.1), .val (.int .i64 x0.2.2.1), .val (.int .i64 x0.2.2.2.1), .val (.int .i64 x0.2.2.2.2.1), .val (.int .i64 x0.2.2.2.2.2.1), .val (.int .i64 x0.2.2.2.2.2.2.1), .val (.int .i64 x0.2.2.2.2.2.2.2.1), .val (.sl (.cons (.int .i64) .nil) x0.2.2.2.2.2.2.2.2.1), .val (.int .i64 x0.2.2.2.2.2.2.2.2.2.1), .val (.sl (.cons (.int .i64) .nil) x0.2.2.2.2.2.2.2.2.2.2.1), .val (.int .i64 x0.2.2.2.2.2.2.2.2.2.2.2.1), .val (.int .i64 x0.2.2.2.2.2.2.2.2.2.2.2.2.1), .val (.sl (.cons (.int .i64) .nil) x0.2.2.2.2.2.2.2.2.2.2.2.2.2.1), .val (.int .i64 x0.2.2.2.2.2.2.2.2.2.2.2.2.2.2.1), .val (.bool x0.2.2.2.2.2.2.2.2.2.2.2.2.2.2.2)]), (64064, .box [.val (.int .i64 x1.1), .val (.int .i64 x1.2.1), .val (.int .i64 x1.2.2.1), .val (.int .i64 x1.2.2.2.1), .val (.int .i64 x1.2.2.2.2.1), .val (.int .i64 x1.2.2.2.2.2.1), .val (.int .i64 x1.2.2.2.2.2.2.1), .val (.int .i64 x1.2.2.2.2.2.2.2.1), .val (.sl (.cons (.int .i64) .nil) x1.2.2.2.2.2.2.2.2.1), .val (.int .i64 x1.2.2.2.2.2.2.2.2.2.1), .val (.sl (.cons (.int .i64) .nil) x1.2.2.2.2.2.2.2.2.2.2.1), .val (.int .i64 x1.2.2.2.2.2.2.2.2.2.2.2.1), .val (.int .i64 x1.2.2.2.2.2.2.2.2.2.2.2.2.1), .val (.sl (.cons (.int .i64) .nil) x1.2.2.2.2.2.2.2.2.2.2.2.2.2.1), .val (.int .i64 x1.2.2.2.2.2.2.2.2.2.2.2.2.2.2.1), .val (.bool x1.2.2.2.2.2.2.2.2.2.2.2.2.2.2.2.1), .val (.sl (.cons (.int .i64) (.cons (.int .i64) .nil)) x1.2.2.2.2.2.2.2.2.2.2.2.2.2.2.2.2)])]⟩
theorem impl_NextCode.r5 (x0 : THead) (x1 : TSigned) (v5_0 : Bool) : V.normK 5 ([2, 3, 5], []) (V.joinF impl_NextCode.E Tryz.f244.ntmps [1, 0, 0] [] (V.codeOf Tryz.f244) (impl_NextCode.kt x0 x1)) (impl_NextCode.s5 x0 x1 v5_0) = impl_NextCode.g5 x0 x1 v5_0 := by kernel_rfl
theorem impl_NextCode.e5 (x0 : THead) (x1 : TSigned) (v5_0 : Bool) : V.normK 5 ([2, 3, 5], []) (V.joinF impl_NextCode.E Tryz.f244.ntmps [1, 0, 0] [] (V.codeOf Tryz.f244) (impl_NextCode.kt x0 x1)) (impl_NextCode.s5 x0 x1 v5_0) = impl_NextCode.l5 x0 x1 v5_0 := by
  rw [impl_NextCode.r5]
  rfl
noncomputable abbrev impl_NextCode.s (x0 : THead) (x1 : TSigned) : V.St := ⟨[(0, .v true [.val (.int .i64 x0.1), .val (.int .i64 x0.2.1), .val (.int .i64 x0.2.2.1), .val (.int .i64 x0.2.2.2.1), .val (.int .i64 x0.2.2.2.2.1), .val (.int .i64 x0.2.2.2.2.2.1), .val (.int .i64 x0.2.2.2.2.2.2.1), .val (.int .i64 x0.2.2.2.2.2.2.2.1), .val (.sl (.cons (.int .i64) .nil) x0.2.2.2.2.2.2.2.2.1), .val (.int .i64 x0.2.2.2.2.2.2.2.2.2.1), .val (.sl (.cons (.int .i64) .nil) x0.2.2.2.2.2.2.2.2.2.2.1), .val (.int .i64 x0.2.2.2.2.2.2.2.2.2.2.2.1), .val (.int .i64 x0.2.2.2.2.2.2.2.2.2.2.2.2.1), .val (.sl (.cons (.int .i64) .nil) x0.2.2.2.2.2.2.2.2.2.2.2.2.2.1), .val (.int .i64 x0.2.2.2.2.2.2.2.2.2.2.2.2.2.2.1), .val (.bool x0.2.2.2.2.2.2.2.2.2.2.2.2.2.2.2)]), (1, .v true [.val (.int .i64 x1.1), .val (.int .i64 x1.2.1), .val (.int .i64 x1.2.2.1), .val (.int .i64 x1.2.2.2.1), .val (.int .i64 x1.2.2.2.2.1), .val (.int .i64 x1.2.2.2.2.2.1), .val (.int .i64 x1.2.2.2.2.2.2.1), .val (.int .i64 x1.2.2.2.2.2.2.2.1), .val (.sl (.cons (.int .i64) .nil) x1.2.2.2.2.2.2.2.2.1), .val (.int .i64 x1.2.2.2.2.2.2.2.2.2.1), .val (.sl (.cons (.int .i64) .nil) x1.2.2.2.2.2.2.2.2.2.2.1), .val (.int .i64 x1.2.2.2.2.2.2.2.2.2.2.2.1), .val (.int .i64 x1.2.2.2.2.2.2.2.2.2.2.2.2.1), .val (.sl (.cons (.int .i64) .nil) x1.2.2.2.2.2.2.2.2.2.2.2.2.2.1), .val (.int .i64 x1.2.2.2.2.2.2.2.2.2.2.2.2.2.2.1), .val (.bool x1.2.2.2.2.2.2.2.2.2.2.2.2.2.2.2.1), .val (.sl (.cons (.int .i64) (.cons (.int .i64) .nil)) x1.2.2.2.2.2.2.2.2.2.2.2.2.2.2.2.2)])], []⟩
theorem impl_NextCode.v0 (x0 : THead) (x1 : TSigned) : V.evBody impl_NextCode.E impl_NextCode.con Tryz.f244 (V.fl5 x0 x1) = V.evC impl_NextCode.E Tryz.f244.ntmps (V.codeOf Tryz.f244) (impl_NextCode.kt x0 x1) (impl_NextCode.s x0 x1) := by kernel_rfl
theorem impl_NextCode.v (x0 : THead) (x1 : TSigned) : V.evC impl_NextCode.E Tryz.f244.ntmps (V.codeOf Tryz.f244) (impl_NextCode.kt x0 x1) (impl_NextCode.s x0 x1) = impl_NextCode.b x0 x1 (fun v5_0 => V.normK 5 ([2, 3, 5], []) (V.joinF impl_NextCode.E Tryz.f244.ntmps [1, 0, 0] [] (V.codeOf Tryz.f244) (impl_NextCode.kt x0 x1)) (impl_NextCode.s5 x0 x1 v5_0)) := by kernel_rfl
theorem impl_NextCode.eq (x0 : THead) (x1 : TSigned) : V.evBody impl_NextCode.E impl_NextCode.con Tryz.f244 (V.fl5 x0 x1) = impl_NextCode x0 x1 := by
  rw [impl_NextCode.v0, impl_NextCode.v]
  simp only [impl_NextCode.e5]
  rfl
theorem impl_NextCode.ok : V.Valid Tryz.prog 244 impl_NextCode.con :=
  V.fo (V.tab_cons impl_IsHead.ok (V.tab_cons impl_isNext.ok (V.tab_cons impl_ownerCode.ok (V.tab_cons impl_heirCode.ok (V.tab_cons impl_judgeCode.ok V.tab_nil))))) Tryz.func244 (by kernel_rfl) (fun x y h => (show V.evBody impl_NextCode.E impl_NextCode.con Tryz.f244 x = _ from impl_NextCode.eq (V.p5_0 x) (V.p5_1 x)).trans (V.cfl (by kernel_rfl) h))
noncomputable abbrev impl_MayFollow.con : V.Con := ⟨V.A5, (.cons .bool .nil), fun (x : V.D5) => impl_MayFollow (V.p5_0 x) (V.p5_1 x), [], [(true, 16), (true, 17)], [(false, 1)], [false], []⟩
noncomputable abbrev impl_MayFollow.E : V.Env := V.mkE V.tys [(244, impl_NextCode.con)] [] [] [] [] []
noncomputable abbrev impl_MayFollow.kt (x0 : THead) (x1 : TSigned) : V.Kt Bool := V.ktOf impl_MayFollow.E impl_MayFollow.con Tryz.f269 (V.fl5 x0 x1)
noncomputable abbrev impl_MayFollow.s (x0 : THead) (x1 : TSigned) : V.St := ⟨[(0, .v true [.val (.int .i64 x0.1), .val (.int .i64 x0.2.1), .val (.int .i64 x0.2.2.1), .val (.int .i64 x0.2.2.2.1), .val (.int .i64 x0.2.2.2.2.1), .val (.int .i64 x0.2.2.2.2.2.1), .val (.int .i64 x0.2.2.2.2.2.2.1), .val (.int .i64 x0.2.2.2.2.2.2.2.1), .val (.sl (.cons (.int .i64) .nil) x0.2.2.2.2.2.2.2.2.1), .val (.int .i64 x0.2.2.2.2.2.2.2.2.2.1), .val (.sl (.cons (.int .i64) .nil) x0.2.2.2.2.2.2.2.2.2.2.1), .val (.int .i64 x0.2.2.2.2.2.2.2.2.2.2.2.1), .val (.int .i64 x0.2.2.2.2.2.2.2.2.2.2.2.2.1), .val (.sl (.cons (.int .i64) .nil) x0.2.2.2.2.2.2.2.2.2.2.2.2.2.1), .val (.int .i64 x0.2.2.2.2.2.2.2.2.2.2.2.2.2.2.1), .val (.bool x0.2.2.2.2.2.2.2.2.2.2.2.2.2.2.2)]), (1, .v true [.val (.int .i64 x1.1), .val (.int .i64 x1.2.1), .val (.int .i64 x1.2.2.1), .val (.int .i64 x1.2.2.2.1), .val (.int .i64 x1.2.2.2.2.1), .val (.int .i64 x1.2.2.2.2.2.1), .val (.int .i64 x1.2.2.2.2.2.2.1), .val (.int .i64 x1.2.2.2.2.2.2.2.1), .val (.sl (.cons (.int .i64) .nil) x1.2.2.2.2.2.2.2.2.1), .val (.int .i64 x1.2.2.2.2.2.2.2.2.2.1), .val (.sl (.cons (.int .i64) .nil) x1.2.2.2.2.2.2.2.2.2.2.1), .val (.int .i64 x1.2.2.2.2.2.2.2.2.2.2.2.1), .val (.int .i64 x1.2.2.2.2.2.2.2.2.2.2.2.2.1), .val (.sl (.cons (.int .i64) .nil) x1.2.2.2.2.2.2.2.2.2.2.2.2.2.1), .val (.int .i64 x1.2.2.2.2.2.2.2.2.2.2.2.2.2.2.1), .val (.bool x1.2.2.2.2.2.2.2.2.2.2.2.2.2.2.2.1), .val (.sl (.cons (.int .i64) (.cons (.int .i64) .nil)) x1.2.2.2.2.2.2.2.2.2.2.2.2.2.2.2.2)])], []⟩
theorem impl_MayFollow.v0 (x0 : THead) (x1 : TSigned) : V.evBody impl_MayFollow.E impl_MayFollow.con Tryz.f269 (V.fl5 x0 x1) = V.evC impl_MayFollow.E Tryz.f269.ntmps (V.codeOf Tryz.f269) (impl_MayFollow.kt x0 x1) (impl_MayFollow.s x0 x1) := by kernel_rfl
theorem impl_MayFollow.v (x0 : THead) (x1 : TSigned) : V.evC impl_MayFollow.E Tryz.f269.ntmps (V.codeOf Tryz.f269) (impl_MayFollow.kt x0 x1) (impl_MayFollow.s x0 x1) = impl_MayFollow x0 x1 := by kernel_rfl
theorem impl_MayFollow.eq (x0 : THead) (x1 : TSigned) : V.evBody impl_MayFollow.E impl_MayFollow.con Tryz.f269 (V.fl5 x0 x1) = impl_MayFollow x0 x1 := (impl_MayFollow.v0 x0 x1).trans (impl_MayFollow.v x0 x1)
theorem impl_MayFollow.ok : V.Valid Tryz.prog 269 impl_MayFollow.con :=
  V.fo (V.tab_cons impl_NextCode.ok V.tab_nil) Tryz.func269 (by kernel_rfl) (fun x y h => (show V.evBody impl_MayFollow.E impl_MayFollow.con Tryz.f269 x = _ from impl_MayFollow.eq (V.p5_0 x) (V.p5_1 x)).trans (V.cfl (by kernel_rfl) h))
noncomputable abbrev impl_FirstWrong.con : V.Con := ⟨(.cons (.sl V.eSigned) .nil), (.cons (.int .i64) .nil), fun (x : List TSigned) => impl_FirstWrong x, [], [(false, 1)], [(false, 1)], [false], []⟩
noncomputable abbrev impl_FirstWrong.E : V.Env := V.mkE V.tys [(268, impl_IsFirst.con), (269, impl_MayFollow.con)] [(4, [0, 5, 6, 7], [])] [(4, 18)] [] [] []
noncomputable abbrev impl_FirstWrong.kt (x0 : List TSigned) : V.Kt Int := V.ktOf impl_FirstWrong.E impl_FirstWrong.con Tryz.f207 ((x0) : List TSigned)
noncomputable abbrev impl_FirstWrong.s4 (x0 : List TSigned) (v4_2 : Int) (v4_3 : Int) : V.St := ⟨[(0, .v false [.val (.sl V.eSigned x0)]), (5, .v false [.val (.sl V.eSigned x0)]), (6, .v false [.val (.int .i64 v4_2)]), (7, .v false [.val (.int .i64 v4_3)])], []⟩
theorem impl_FirstWrong.r4 (x0 : List TSigned) (R : V.St → Option Int) (v4_2 : Int) (v4_3 : Int) : V.loopF impl_FirstWrong.E Tryz.f207.ntmps [1, 0, 1, 0] [] (V.codeOf Tryz.f207) (impl_FirstWrong.kt x0) R (impl_FirstWrong.s4 x0 v4_2 v4_3) = impl_FirstWrong.g4 x0 (fun v4_2 v4_3 => R (impl_FirstWrong.s4 x0 v4_2 v4_3)) v4_2 v4_3 := by kernel_rfl
theorem impl_FirstWrong.e4 (x0 : List TSigned) : ∀ (n : Nat) (v4_2 : Int) (v4_3 : Int), V.loopN (V.loopF impl_FirstWrong.E Tryz.f207.ntmps [1, 0, 1, 0] [] (V.codeOf Tryz.f207) (impl_FirstWrong.kt x0)) n (impl_FirstWrong.s4 x0 v4_2 v4_3) = impl_FirstWrong.l4 x0 n v4_2 v4_3 := by
  intro n
  induction n with
  | zero => intros; rw [V.loopN_z]; rfl
  | succ n ih =>
    intro v4_2 v4_3
    rw [V.loopN_s, impl_FirstWrong.r4]
    simp only [ih]
    first | exact (impl_FirstWrong.u4 ..).symm | rfl
theorem impl_FirstWrong.v (x0 : List TSigned) : V.evBody impl_FirstWrong.E impl_FirstWrong.con Tryz.f207 ((x0) : List TSigned) = impl_FirstWrong.b x0 (fun v4_2 v4_3 => V.loopN (V.loopF impl_FirstWrong.E Tryz.f207.ntmps [1, 0, 1, 0] [] (V.codeOf Tryz.f207) (impl_FirstWrong.kt x0)) V.KK (impl_FirstWrong.s4 x0 v4_2 v4_3)) := by kernel_rfl
theorem impl_FirstWrong.eq (x0 : List TSigned) : V.evBody impl_FirstWrong.E impl_FirstWrong.con Tryz.f207 ((x0) : List TSigned) = impl_FirstWrong x0 := by
  rw [impl_FirstWrong.v]
  simp only [impl_FirstWrong.e4]
  rfl
theorem impl_FirstWrong.ok : V.Valid Tryz.prog 207 impl_FirstWrong.con :=
  V.fo (V.tab_cons impl_IsFirst.ok (V.tab_cons impl_MayFollow.ok V.tab_nil)) Tryz.func207 (by kernel_rfl) (fun x y h => (show V.evBody impl_FirstWrong.E impl_FirstWrong.con Tryz.f207 x = _ from impl_FirstWrong.eq x).trans (V.cfl (by kernel_rfl) h))
noncomputable abbrev impl_IsChain.con : V.Con := ⟨(.cons (.sl V.eSigned) .nil), (.cons .bool .nil), fun (x : List TSigned) => impl_IsChain x, [], [(false, 1)], [(false, 1)], [false], []⟩
noncomputable abbrev impl_IsChain.E : V.Env := V.mkE V.tys [(151, impl_InRange.con), (207, impl_FirstWrong.con)] [] [] [] [] []
theorem impl_IsChain.eq (x0 : List TSigned) : V.evBody impl_IsChain.E impl_IsChain.con Tryz.f104 ((x0) : List TSigned) = impl_IsChain x0 := by kernel_rfl
theorem impl_IsChain.ok : V.Valid Tryz.prog 104 impl_IsChain.con :=
  V.fo (V.tab_cons impl_InRange.ok (V.tab_cons impl_FirstWrong.ok V.tab_nil)) Tryz.func104 (by kernel_rfl) (fun x y h => (show V.evBody impl_IsChain.E impl_IsChain.con Tryz.f104 x = _ from impl_IsChain.eq x).trans (V.cfl (by kernel_rfl) h))
noncomputable abbrev impl_last.con : V.Con := ⟨(.cons (.sl V.eSigned) .nil), V.eHead, fun (x : List TSigned) => impl_last x, [], [(false, 1)], [(true, 16)], [false, false, false, false, false, false, false, false, false, false, false, false, false, false, false, false], []⟩
noncomputable abbrev impl_last.E : V.Env := V.mkE V.tys [] [] [] [] [] []
theorem impl_last.eq (x0 : List TSigned) : V.evBody impl_last.E impl_last.con Tryz.f130 ((x0) : List TSigned) = impl_last x0 := by kernel_rfl
theorem impl_last.ok : V.Valid Tryz.prog 130 impl_last.con :=
  V.fo V.tab_nil Tryz.func130 (by kernel_rfl) (fun x y h => (show V.evBody impl_last.E impl_last.con Tryz.f130 x = _ from impl_last.eq x).trans (V.cfl (by kernel_rfl) h))
noncomputable abbrev impl_MarkOf.con : V.Con := ⟨V.A2, (.cons (.int .i64) (.cons (.int .i64) (.cons (.int .i64) .nil))), fun (x : V.D2) => impl_MarkOf (V.p2_0 x), [], [(true, 16)], [(true, 3)], [false, false, false], []⟩
noncomputable abbrev impl_MarkOf.E : V.Env := V.mkE V.tys [(197, impl_HeadDigest.con)] [] [(1, 6)] [] [] []
noncomputable abbrev impl_MarkOf.kt (x0 : THead) : V.Kt TMark := V.ktOf impl_MarkOf.E impl_MarkOf.con Tryz.f126 (V.fl2 x0)
noncomputable abbrev impl_MarkOf.s (x0 : THead) : V.St := ⟨[(0, .v true [.val (.int .i64 x0.1), .val (.int .i64 x0.2.1), .val (.int .i64 x0.2.2.1), .val (.int .i64 x0.2.2.2.1), .val (.int .i64 x0.2.2.2.2.1), .val (.int .i64 x0.2.2.2.2.2.1), .val (.int .i64 x0.2.2.2.2.2.2.1), .val (.int .i64 x0.2.2.2.2.2.2.2.1), .val (.sl (.cons (.int .i64) .nil) x0.2.2.2.2.2.2.2.2.1), .val (.int .i64 x0.2.2.2.2.2.2.2.2.2.1), .val (.sl (.cons (.int .i64) .nil) x0.2.2.2.2.2.2.2.2.2.2.1), .val (.int .i64 x0.2.2.2.2.2.2.2.2.2.2.2.1), .val (.int .i64 x0.2.2.2.2.2.2.2.2.2.2.2.2.1), .val (.sl (.cons (.int .i64) .nil) x0.2.2.2.2.2.2.2.2.2.2.2.2.2.1), .val (.int .i64 x0.2.2.2.2.2.2.2.2.2.2.2.2.2.2.1), .val (.bool x0.2.2.2.2.2.2.2.2.2.2.2.2.2.2.2)])], []⟩
theorem impl_MarkOf.v0 (x0 : THead) : V.evBody impl_MarkOf.E impl_MarkOf.con Tryz.f126 (V.fl2 x0) = V.evC impl_MarkOf.E Tryz.f126.ntmps (V.codeOf Tryz.f126) (impl_MarkOf.kt x0) (impl_MarkOf.s x0) := by kernel_rfl
theorem impl_MarkOf.v (x0 : THead) : V.evC impl_MarkOf.E Tryz.f126.ntmps (V.codeOf Tryz.f126) (impl_MarkOf.kt x0) (impl_MarkOf.s x0) = impl_MarkOf x0 := by kernel_rfl
theorem impl_MarkOf.eq (x0 : THead) : V.evBody impl_MarkOf.E impl_MarkOf.con Tryz.f126 (V.fl2 x0) = impl_MarkOf x0 := (impl_MarkOf.v0 x0).trans (impl_MarkOf.v x0)
theorem impl_MarkOf.ok : V.Valid Tryz.prog 126 impl_MarkOf.con :=
  V.fo (V.tab_cons impl_HeadDigest.ok V.tab_nil) Tryz.func126 (by kernel_rfl) (fun x y h => (show V.evBody impl_MarkOf.E impl_MarkOf.con Tryz.f126 x = _ from impl_MarkOf.eq (V.p2_0 x)).trans (V.cfl (by kernel_rfl) h))
noncomputable abbrev impl_contradicts_1.con : V.Con := ⟨V.A7, (.cons .bool .nil), fun (x : V.D7) => impl_contradicts_1 (V.p7_0 x) (V.p7_1 x), [], [(true, 17), (false, 1)], [(false, 1)], [false], []⟩
noncomputable abbrev impl_contradicts_1.E : V.Env := V.mkE V.tys [(126, impl_MarkOf.con), (127, impl_Mark_isOf.con)] [] [] [] [] []
noncomputable abbrev impl_contradicts_1.kt (x0 : TSigned) (x1 : (TMark)) : V.Kt Bool := V.ktOf impl_contradicts_1.E impl_contradicts_1.con Tryz.f221 (V.fl7 x0 x1)
noncomputable abbrev impl_contradicts_1.s (x0 : TSigned) (x1 : (TMark)) : V.St := ⟨[(0, .v true [.val (.int .i64 x0.1), .val (.int .i64 x0.2.1), .val (.int .i64 x0.2.2.1), .val (.int .i64 x0.2.2.2.1), .val (.int .i64 x0.2.2.2.2.1), .val (.int .i64 x0.2.2.2.2.2.1), .val (.int .i64 x0.2.2.2.2.2.2.1), .val (.int .i64 x0.2.2.2.2.2.2.2.1), .val (.sl (.cons (.int .i64) .nil) x0.2.2.2.2.2.2.2.2.1), .val (.int .i64 x0.2.2.2.2.2.2.2.2.2.1), .val (.sl (.cons (.int .i64) .nil) x0.2.2.2.2.2.2.2.2.2.2.1), .val (.int .i64 x0.2.2.2.2.2.2.2.2.2.2.2.1), .val (.int .i64 x0.2.2.2.2.2.2.2.2.2.2.2.2.1), .val (.sl (.cons (.int .i64) .nil) x0.2.2.2.2.2.2.2.2.2.2.2.2.2.1), .val (.int .i64 x0.2.2.2.2.2.2.2.2.2.2.2.2.2.2.1), .val (.bool x0.2.2.2.2.2.2.2.2.2.2.2.2.2.2.2.1), .val (.sl (.cons (.int .i64) (.cons (.int .i64) .nil)) x0.2.2.2.2.2.2.2.2.2.2.2.2.2.2.2.2)]), (1, .v false [.val (.ptr (.cons (.int .i64) (.cons (.int .i64) (.cons (.int .i64) .nil))) x1)])], []⟩
theorem impl_contradicts_1.v0 (x0 : TSigned) (x1 : (TMark)) : V.evBody impl_contradicts_1.E impl_contradicts_1.con Tryz.f221 (V.fl7 x0 x1) = V.evC impl_contradicts_1.E Tryz.f221.ntmps (V.codeOf Tryz.f221) (impl_contradicts_1.kt x0 x1) (impl_contradicts_1.s x0 x1) := by kernel_rfl
theorem impl_contradicts_1.v (x0 : TSigned) (x1 : (TMark)) : V.evC impl_contradicts_1.E Tryz.f221.ntmps (V.codeOf Tryz.f221) (impl_contradicts_1.kt x0 x1) (impl_contradicts_1.s x0 x1) = impl_contradicts_1 x0 x1 := by kernel_rfl
theorem impl_contradicts_1.eq (x0 : TSigned) (x1 : (TMark)) : V.evBody impl_contradicts_1.E impl_contradicts_1.con Tryz.f221 (V.fl7 x0 x1) = impl_contradicts_1 x0 x1 := (impl_contradicts_1.v0 x0 x1).trans (impl_contradicts_1.v x0 x1)
theorem impl_contradicts_1.ok : V.Valid Tryz.prog 221 impl_contradicts_1.con :=
  V.fo (V.tab_cons impl_MarkOf.ok (V.tab_cons impl_Mark_isOf.ok V.tab_nil)) Tryz.func221 (by kernel_rfl) (fun x y h => (show V.evBody impl_contradicts_1.E impl_contradicts_1.con Tryz.f221 x = _ from impl_contradicts_1.eq (V.p7_0 x) (V.p7_1 x)).trans (V.cfl (by kernel_rfl) h))
noncomputable abbrev slices_IndexFunc_impl_Signed__contradicts_1.con : V.Con := ⟨(.cons (.sl V.eSigned) (.cons (.fn 221 false .nil (.cons (.ptr (.cons (.int .i64) (.cons (.int .i64) (.cons (.int .i64) .nil)))) .nil)) .nil)), (.cons (.int .i64) .nil), fun (x : List TSigned × (Unit) × ((TMark))) => slices_IndexFunc_impl_Signed__contradicts_1 x.1 x.2, [], [(false, 1), (false, 1)], [(false, 1)], [false], []⟩
noncomputable abbrev slices_IndexFunc_impl_Signed__contradicts_1.E : V.Env := V.mkE V.tys [(221, impl_contradicts_1.con)] [(4, [0, 1, 7, 8], [])] [] [] [] []
noncomputable abbrev slices_IndexFunc_impl_Signed__contradicts_1.kt (x0 : List TSigned) (x1 : (Unit) × ((TMark))) : V.Kt Int := V.ktOf slices_IndexFunc_impl_Signed__contradicts_1.E slices_IndexFunc_impl_Signed__contradicts_1.con Tryz.f273 ((x0, x1) : List TSigned × (Unit) × ((TMark)))
noncomputable abbrev slices_IndexFunc_impl_Signed__contradicts_1.s4 (x0 : List TSigned) (x1 : (Unit) × ((TMark))) (v4_2 : Int) (v4_3 : Int) : V.St := ⟨[(0, .v false [.val (.sl V.eSigned x0)]), (1, .v false [.val (.fn 221 false .nil (.cons (.ptr (.cons (.int .i64) (.cons (.int .i64) (.cons (.int .i64) .nil)))) .nil) () x1.2)]), (7, .v false [.val (.int .i64 v4_2)]), (8, .v false [.val (.int .i64 v4_3)])], []⟩
theorem slices_IndexFunc_impl_Signed__contradicts_1.r4 (x0 : List TSigned) (x1 : (Unit) × ((TMark))) (R : V.St → Option Int) (v4_2 : Int) (v4_3 : Int) : V.loopF slices_IndexFunc_impl_Signed__contradicts_1.E Tryz.f273.ntmps [1, 0, 1, 0] [] (V.codeOf Tryz.f273) (slices_IndexFunc_impl_Signed__contradicts_1.kt x0 x1) R (slices_IndexFunc_impl_Signed__contradicts_1.s4 x0 x1 v4_2 v4_3) = slices_IndexFunc_impl_Signed__contradicts_1.g4 x0 x1 (fun v4_2 v4_3 => R (slices_IndexFunc_impl_Signed__contradicts_1.s4 x0 x1 v4_2 v4_3)) v4_2 v4_3 := by kernel_rfl
theorem slices_IndexFunc_impl_Signed__contradicts_1.e4 (x0 : List TSigned) (x1 : (Unit) × ((TMark))) : ∀ (n : Nat) (v4_2 : Int) (v4_3 : Int), V.loopN (V.loopF slices_IndexFunc_impl_Signed__contradicts_1.E Tryz.f273.ntmps [1, 0, 1, 0] [] (V.codeOf Tryz.f273) (slices_IndexFunc_impl_Signed__contradicts_1.kt x0 x1)) n (slices_IndexFunc_impl_Signed__contradicts_1.s4 x0 x1 v4_2 v4_3) = slices_IndexFunc_impl_Signed__contradicts_1.l4 x0 x1 n v4_2 v4_3 := by
  intro n
  induction n with
  | zero => intros; rw [V.loopN_z]; rfl
  | succ n ih =>
    intro v4_2 v4_3
    rw [V.loopN_s, slices_IndexFunc_impl_Signed__contradicts_1.r4]
    simp only [ih]
    first | exact (slices_IndexFunc_impl_Signed__contradicts_1.u4 ..).symm | rfl
theorem slices_IndexFunc_impl_Signed__contradicts_1.v (x0 : List TSigned) (x1 : (Unit) × ((TMark))) : V.evBody slices_IndexFunc_impl_Signed__contradicts_1.E slices_IndexFunc_impl_Signed__contradicts_1.con Tryz.f273 ((x0, x1) : List TSigned × (Unit) × ((TMark))) = slices_IndexFunc_impl_Signed__contradicts_1.b x0 x1 (fun v4_2 v4_3 => V.loopN (V.loopF slices_IndexFunc_impl_Signed__contradicts_1.E Tryz.f273.ntmps [1, 0, 1, 0] [] (V.codeOf Tryz.f273) (slices_IndexFunc_impl_Signed__contradicts_1.kt x0 x1)) V.KK (slices_IndexFunc_impl_Signed__contradicts_1.s4 x0 x1 v4_2 v4_3)) := by kernel_rfl
theorem slices_IndexFunc_impl_Signed__contradicts_1.eq (x0 : List TSigned) (x1 : (Unit) × ((TMark))) : V.evBody slices_IndexFunc_impl_Signed__contradicts_1.E slices_IndexFunc_impl_Signed__contradicts_1.con Tryz.f273 ((x0, x1) : List TSigned × (Unit) × ((TMark))) = slices_IndexFunc_impl_Signed__contradicts_1 x0 x1 := by
  rw [slices_IndexFunc_impl_Signed__contradicts_1.v]
  simp only [slices_IndexFunc_impl_Signed__contradicts_1.e4]
  rfl
theorem slices_IndexFunc_impl_Signed__contradicts_1.ok : V.Valid Tryz.prog 273 slices_IndexFunc_impl_Signed__contradicts_1.con :=
  V.fo (V.tab_cons impl_contradicts_1.ok V.tab_nil) Tryz.func273 (by kernel_rfl) (fun x y h => (show V.evBody slices_IndexFunc_impl_Signed__contradicts_1.E slices_IndexFunc_impl_Signed__contradicts_1.con Tryz.f273 x = _ from slices_IndexFunc_impl_Signed__contradicts_1.eq x.1 x.2).trans (V.cfl (by kernel_rfl) h))
noncomputable abbrev slices_ContainsFunc_impl_Signed__contradicts_1.con : V.Con := ⟨(.cons (.sl V.eSigned) (.cons (.fn 221 false .nil (.cons (.ptr (.cons (.int .i64) (.cons (.int .i64) (.cons (.int .i64) .nil)))) .nil)) .nil)), (.cons .bool .nil), fun (x : List TSigned × (Unit) × ((TMark))) => slices_ContainsFunc_impl_Signed__contradicts_1 x.1 x.2, [], [(false, 1), (false, 1)], [(false, 1)], [false], []⟩
noncomputable abbrev slices_ContainsFunc_impl_Signed__contradicts_1.E : V.Env := V.mkE V.tys [(273, slices_IndexFunc_impl_Signed__contradicts_1.con)] [] [] [] [] []
theorem slices_ContainsFunc_impl_Signed__contradicts_1.eq (x0 : List TSigned) (x1 : (Unit) × ((TMark))) : V.evBody slices_ContainsFunc_impl_Signed__contradicts_1.E slices_ContainsFunc_impl_Signed__contradicts_1.con Tryz.f220 ((x0, x1) : List TSigned × (Unit) × ((TMark))) = slices_ContainsFunc_impl_Signed__contradicts_1 x0 x1 := by kernel_rfl
theorem slices_ContainsFunc_impl_Signed__contradicts_1.ok : V.Valid Tryz.prog 220 slices_ContainsFunc_impl_Signed__contradicts_1.con :=
  V.fo (V.tab_cons slices_IndexFunc_impl_Signed__contradicts_1.ok V.tab_nil) Tryz.func220 (by kernel_rfl) (fun x y h => (show V.evBody slices_ContainsFunc_impl_Signed__contradicts_1.E slices_ContainsFunc_impl_Signed__contradicts_1.con Tryz.f220 x = _ from slices_ContainsFunc_impl_Signed__contradicts_1.eq x.1 x.2).trans (V.cfl (by kernel_rfl) h))
noncomputable abbrev impl_contradicts.con : V.Con := ⟨(.cons (.int .i64) (.cons (.int .i64) (.cons (.int .i64) (.cons (.sl V.eSigned) .nil)))), (.cons .bool .nil), fun (x : Int × Int × Int × List TSigned) => impl_contradicts (x.1, x.2.1, x.2.2.1) x.2.2.2, [], [(true, 3), (false, 1)], [(false, 1)], [false], []⟩
noncomputable abbrev impl_contradicts.E : V.Env := V.mkE V.tys [(130, impl_last.con), (220, slices_ContainsFunc_impl_Signed__contradicts_1.con)] [] [] [] [] []
theorem impl_contradicts.eq (x0 : TMark) (x1 : List TSigned) : V.evBody impl_contradicts.E impl_contradicts.con Tryz.f125 ((x0.1, x0.2.1, x0.2.2, x1) : Int × Int × Int × List TSigned) = impl_contradicts x0 x1 := by kernel_rfl
theorem impl_contradicts.ok : V.Valid Tryz.prog 125 impl_contradicts.con :=
  V.fo (V.tab_cons impl_last.ok (V.tab_cons slices_ContainsFunc_impl_Signed__contradicts_1.ok V.tab_nil)) Tryz.func125 (by kernel_rfl) (fun x y h => (show V.evBody impl_contradicts.E impl_contradicts.con Tryz.f125 x = _ from impl_contradicts.eq (x.1, x.2.1, x.2.2.1) x.2.2.2).trans (V.cfl (by kernel_rfl) h))
noncomputable abbrev impl_Confirm_1.con : V.Con := ⟨(.cons (.int .i64) (.cons (.int .i64) (.cons (.int .i64) (.cons (.ptr (.cons (.sl V.eSigned) .nil)) .nil)))), (.cons .bool .nil), fun (x : Int × Int × Int × List TSigned) => impl_Confirm_1 (x.1, x.2.1, x.2.2.1) x.2.2.2, [], [(true, 3), (false, 1)], [(false, 1)], [false], []⟩
noncomputable abbrev impl_Confirm_1.E : V.Env := V.mkE V.tys [(125, impl_contradicts.con)] [] [] [] [] []
theorem impl_Confirm_1.eq (x0 : TMark) (x1 : List TSigned) : V.evBody impl_Confirm_1.E impl_Confirm_1.con Tryz.f124 ((x0.1, x0.2.1, x0.2.2, x1) : Int × Int × Int × List TSigned) = impl_Confirm_1 x0 x1 := by kernel_rfl
theorem impl_Confirm_1.ok : V.Valid Tryz.prog 124 impl_Confirm_1.con :=
  V.fo (V.tab_cons impl_contradicts.ok V.tab_nil) Tryz.func124 (by kernel_rfl) (fun x y h => (show V.evBody impl_Confirm_1.E impl_Confirm_1.con Tryz.f124 x = _ from impl_Confirm_1.eq (x.1, x.2.1, x.2.2.1) x.2.2.2).trans (V.cfl (by kernel_rfl) h))
noncomputable abbrev slices_IndexFunc_impl_Mark__Confirm_1.con : V.Con := ⟨(.cons (.sl (.cons (.int .i64) (.cons (.int .i64) (.cons (.int .i64) .nil)))) (.cons (.fn 124 false .nil (.cons (.ptr (.cons (.sl V.eSigned) .nil)) .nil)) .nil)), (.cons (.int .i64) .nil), fun (x : List TMark × (Unit) × (List TSigned)) => slices_IndexFunc_impl_Mark__Confirm_1 x.1 x.2, [], [(false, 1), (false, 1)], [(false, 1)], [false], []⟩
noncomputable abbrev slices_IndexFunc_impl_Mark__Confirm_1.E : V.Env := V.mkE V.tys [(124, impl_Confirm_1.con)] [(4, [0, 1, 7, 8], [])] [] [] [] []
noncomputable abbrev slices_IndexFunc_impl_Mark__Confirm_1.kt (x0 : List TMark) (x1 : (Unit) × (List TSigned)) : V.Kt Int := V.ktOf slices_IndexFunc_impl_Mark__Confirm_1.E slices_IndexFunc_impl_Mark__Confirm_1.con Tryz.f219 ((x0, x1) : List TMark × (Unit) × (List TSigned))
noncomputable abbrev slices_IndexFunc_impl_Mark__Confirm_1.s4 (x0 : List TMark) (x1 : (Unit) × (List TSigned)) (v4_2 : Int) (v4_3 : Int) : V.St := ⟨[(0, .v false [.val (.sl (.cons (.int .i64) (.cons (.int .i64) (.cons (.int .i64) .nil))) x0)]), (1, .v false [.val (.fn 124 false .nil (.cons (.ptr (.cons (.sl V.eSigned) .nil)) .nil) () x1.2)]), (7, .v false [.val (.int .i64 v4_2)]), (8, .v false [.val (.int .i64 v4_3)])], []⟩
theorem slices_IndexFunc_impl_Mark__Confirm_1.r4 (x0 : List TMark) (x1 : (Unit) × (List TSigned)) (R : V.St → Option Int) (v4_2 : Int) (v4_3 : Int) : V.loopF slices_IndexFunc_impl_Mark__Confirm_1.E Tryz.f219.ntmps [1, 0, 1, 0] [] (V.codeOf Tryz.f219) (slices_IndexFunc_impl_Mark__Confirm_1.kt x0 x1) R (slices_IndexFunc_impl_Mark__Confirm_1.s4 x0 x1 v4_2 v4_3) = slices_IndexFunc_impl_Mark__Confirm_1.g4 x0 x1 (fun v4_2 v4_3 => R (slices_IndexFunc_impl_Mark__Confirm_1.s4 x0 x1 v4_2 v4_3)) v4_2 v4_3 := by kernel_rfl
theorem slices_IndexFunc_impl_Mark__Confirm_1.e4 (x0 : List TMark) (x1 : (Unit) × (List TSigned)) : ∀ (n : Nat) (v4_2 : Int) (v4_3 : Int), V.loopN (V.loopF slices_IndexFunc_impl_Mark__Confirm_1.E Tryz.f219.ntmps [1, 0, 1, 0] [] (V.codeOf Tryz.f219) (slices_IndexFunc_impl_Mark__Confirm_1.kt x0 x1)) n (slices_IndexFunc_impl_Mark__Confirm_1.s4 x0 x1 v4_2 v4_3) = slices_IndexFunc_impl_Mark__Confirm_1.l4 x0 x1 n v4_2 v4_3 := by
  intro n
  induction n with
  | zero => intros; rw [V.loopN_z]; rfl
  | succ n ih =>
    intro v4_2 v4_3
    rw [V.loopN_s, slices_IndexFunc_impl_Mark__Confirm_1.r4]
    simp only [ih]
    first | exact (slices_IndexFunc_impl_Mark__Confirm_1.u4 ..).symm | rfl
theorem slices_IndexFunc_impl_Mark__Confirm_1.v (x0 : List TMark) (x1 : (Unit) × (List TSigned)) : V.evBody slices_IndexFunc_impl_Mark__Confirm_1.E slices_IndexFunc_impl_Mark__Confirm_1.con Tryz.f219 ((x0, x1) : List TMark × (Unit) × (List TSigned)) = slices_IndexFunc_impl_Mark__Confirm_1.b x0 x1 (fun v4_2 v4_3 => V.loopN (V.loopF slices_IndexFunc_impl_Mark__Confirm_1.E Tryz.f219.ntmps [1, 0, 1, 0] [] (V.codeOf Tryz.f219) (slices_IndexFunc_impl_Mark__Confirm_1.kt x0 x1)) V.KK (slices_IndexFunc_impl_Mark__Confirm_1.s4 x0 x1 v4_2 v4_3)) := by kernel_rfl
theorem slices_IndexFunc_impl_Mark__Confirm_1.eq (x0 : List TMark) (x1 : (Unit) × (List TSigned)) : V.evBody slices_IndexFunc_impl_Mark__Confirm_1.E slices_IndexFunc_impl_Mark__Confirm_1.con Tryz.f219 ((x0, x1) : List TMark × (Unit) × (List TSigned)) = slices_IndexFunc_impl_Mark__Confirm_1 x0 x1 := by
  rw [slices_IndexFunc_impl_Mark__Confirm_1.v]
  simp only [slices_IndexFunc_impl_Mark__Confirm_1.e4]
  rfl
theorem slices_IndexFunc_impl_Mark__Confirm_1.ok : V.Valid Tryz.prog 219 slices_IndexFunc_impl_Mark__Confirm_1.con :=
  V.fo (V.tab_cons impl_Confirm_1.ok V.tab_nil) Tryz.func219 (by kernel_rfl) (fun x y h => (show V.evBody slices_IndexFunc_impl_Mark__Confirm_1.E slices_IndexFunc_impl_Mark__Confirm_1.con Tryz.f219 x = _ from slices_IndexFunc_impl_Mark__Confirm_1.eq x.1 x.2).trans (V.cfl (by kernel_rfl) h))
noncomputable abbrev slices_ContainsFunc_impl_Mark__Confirm_1.con : V.Con := ⟨(.cons (.sl (.cons (.int .i64) (.cons (.int .i64) (.cons (.int .i64) .nil)))) (.cons (.fn 124 false .nil (.cons (.ptr (.cons (.sl V.eSigned) .nil)) .nil)) .nil)), (.cons .bool .nil), fun (x : List TMark × (Unit) × (List TSigned)) => slices_ContainsFunc_impl_Mark__Confirm_1 x.1 x.2, [], [(false, 1), (false, 1)], [(false, 1)], [false], []⟩
noncomputable abbrev slices_ContainsFunc_impl_Mark__Confirm_1.E : V.Env := V.mkE V.tys [(219, slices_IndexFunc_impl_Mark__Confirm_1.con)] [] [] [] [] []
theorem slices_ContainsFunc_impl_Mark__Confirm_1.eq (x0 : List TMark) (x1 : (Unit) × (List TSigned)) : V.evBody slices_ContainsFunc_impl_Mark__Confirm_1.E slices_ContainsFunc_impl_Mark__Confirm_1.con Tryz.f123 ((x0, x1) : List TMark × (Unit) × (List TSigned)) = slices_ContainsFunc_impl_Mark__Confirm_1 x0 x1 := by kernel_rfl
theorem slices_ContainsFunc_impl_Mark__Confirm_1.ok : V.Valid Tryz.prog 123 slices_ContainsFunc_impl_Mark__Confirm_1.con :=
  V.fo (V.tab_cons slices_IndexFunc_impl_Mark__Confirm_1.ok V.tab_nil) Tryz.func123 (by kernel_rfl) (fun x y h => (show V.evBody slices_ContainsFunc_impl_Mark__Confirm_1.E slices_ContainsFunc_impl_Mark__Confirm_1.con Tryz.f123 x = _ from slices_ContainsFunc_impl_Mark__Confirm_1.eq x.1 x.2).trans (V.cfl (by kernel_rfl) h))
noncomputable abbrev impl_MarkInts.con : V.Con := ⟨(.cons (.int .i64) (.cons (.int .i64) (.cons (.int .i64) .nil))), (.cons (.sl (.cons (.int .i64) .nil)) .nil), fun (x : Int × Int × Int) => impl_MarkInts x, [], [(true, 3)], [(false, 1)], [true], []⟩
noncomputable abbrev impl_MarkInts.E : V.Env := V.mkE V.tys [] [] [] [] [] []
theorem impl_MarkInts.eq (x0 : TMark) : V.evBody impl_MarkInts.E impl_MarkInts.con Tryz.f129 ((x0.1, x0.2.1, x0.2.2) : Int × Int × Int) = impl_MarkInts x0 := by kernel_rfl
theorem impl_MarkInts.ok : V.Valid Tryz.prog 129 impl_MarkInts.con :=
  V.fo V.tab_nil Tryz.func129 (by kernel_rfl) (fun x y h => (show V.evBody impl_MarkInts.E impl_MarkInts.con Tryz.f129 x = _ from impl_MarkInts.eq x).trans (V.cfl (by kernel_rfl) h))
noncomputable abbrev impl_Confirm.con : V.Con := ⟨(.cons (.int .i64) (.cons (.sl (.cons (.int .i64) (.cons (.int .i64) (.cons (.int .i64) .nil)))) (.cons (.sl V.eSigned) .nil))), V.eRWitnessSigBool, fun (x : Int × List TMark × List TSigned) => impl_Confirm (x.1, x.2.1) x.2.2, [], [(true, 2), (false, 1)], [(true, 2), (true, 2), (false, 1)], [false, true, false, false, false], []⟩
noncomputable abbrev impl_Confirm.E : V.Env := V.mkE2 V.tys [(104, impl_IsChain.con), (121, impl_copyWitness.con), (122, impl_IsWitness.con), (123, slices_ContainsFunc_impl_Mark__Mark_isOf.con), (126, impl_MarkOf.con), (128, impl_TagOf.con), (129, impl_MarkInts.con), (130, impl_last.con)] [3012] [(123, slices_ContainsFunc_impl_Mark__Confirm_1.con)] [(7, [2, 3, 4, 5, 7, 26], []), (10, [2, 3, 4, 5, 7, 29, 30, 31], [])] [(13, 11)] [] [] [(13, [1, 2, 10])]
noncomputable abbrev impl_Confirm.kt (x0 : TWitness) (x1 : List TSigned) : V.Kt TRWitnessSigBool := V.ktOf impl_Confirm.E impl_Confirm.con Tryz.f38 ((x0.1, x0.2, x1) : Int × List TMark × List TSigned)
noncomputable abbrev impl_Confirm.s10 (x0 : TWitness) (x1 : List TSigned) (y1 : TWitness) (v10_1 : Int) (v10_2 : Int) (v10_10 : List TMark) : V.St := ⟨[(2, .v false [.ptr 64000 0]), (3, .v false [.ptr 64064 0]), (4, .v false [.ptr 64128 0]), (5, .v false [.ptr 64192 0]), (7, .v false [.ptr 128128 0]), (29, .v false [.val (.sl V.eSigned x1)]), (30, .v false [.val (.int .i64 v10_1)]), (31, .v false [.val (.int .i64 v10_2)])], [(64000, .box [.val (.int .i64 x0.1), .val (.sl (.cons (.int .i64) (.cons (.int .i64) (.cons (.int .i64) .nil))) x0.2)]), (64064, .box [.val (.sl V.eSigned x1)]), (64128, .box [.val (.int .i64 (0 : Int)), .nil0]), (64192, .box [.val (.int .i64 (0 : Int)), .val (.int .i64 (0 : Int))]), (128128, .box [.val (.int .i64 y1.1), .ref 64000000000008200193]), (64000000000008200193, .row (.cons (.int .i64) (.cons (.int .i64) (.cons (.int .i64) .nil))) true v10_10)]⟩
noncomputable abbrev impl_Confirm.s7 (x0 : TWitness) (x1 : List TSigned) (y1 : TWitness) (v7_0 : Bool) : V.St := ⟨[(2, .v false [.ptr 64000 0]), (3, .v false [.ptr 64064 0]), (4, .v false [.ptr 64128 0]), (5, .v false [.ptr 64192 0]), (7, .v false [.ptr 128128 0]), (26, .v false [.val (.bool v7_0)])], [(64000, .box [.val (.int .i64 x0.1), .val (.sl (.cons (.int .i64) (.cons (.int .i64) (.cons (.int .i64) .nil))) x0.2)]), (64064, .box [.val (.sl V.eSigned x1)]), (64128, .box [.val (.int .i64 (0 : Int)), .nil0]), (64192, .box [.val (.int .i64 (0 : Int)), .val (.int .i64 (0 : Int))]), (128128, .box [.val (.int .i64 y1.1), .ref 64000000000008200193]), (64000000000008200193, .row (.cons (.int .i64) (.cons (.int .i64) (.cons (.int .i64) .nil))) true y1.2)]⟩
theorem impl_Confirm.r10 (x0 : TWitness) (x1 : List TSigned) (y1 : TWitness) (R : V.St → Option TRWitnessSigBool) (v10_1 : Int) (v10_2 : Int) (v10_10 : List TMark) : V.loopF impl_Confirm.E Tryz.f38.ntmps [1, 1, 1, 0, 1, 0] [] (V.codeOf Tryz.f38) (impl_Confirm.kt x0 x1) R (impl_Confirm.s10 x0 x1 y1 v10_1 v10_2 v10_10) = impl_Confirm.g10 x0 x1 y1 (fun v10_1 v10_2 v10_10 => R (impl_Confirm.s10 x0 x1 y1 v10_1 v10_2 v10_10)) v10_1 v10_2 v10_10 := by kernel_rfl
theorem impl_Confirm.e10 (x0 : TWitness) (x1 : List TSigned) (y1 : TWitness) : ∀ (n : Nat) (v10_1 : Int) (v10_2 : Int) (v10_10 : List TMark), V.loopN (V.loopF impl_Confirm.E Tryz.f38.ntmps [1, 1, 1, 0, 1, 0] [] (V.codeOf Tryz.f38) (impl_Confirm.kt x0 x1)) n (impl_Confirm.s10 x0 x1 y1 v10_1 v10_2 v10_10) = impl_Confirm.l10 x0 x1 y1 n v10_1 v10_2 v10_10 := by
  intro n
  induction n with
  | zero => intros; rw [V.loopN_z]; rfl
  | succ n ih =>
    intro v10_1 v10_2 v10_10
    rw [V.loopN_s, impl_Confirm.r10]
    simp only [ih]
    first | exact (impl_Confirm.u10 ..).symm | rfl
theorem impl_Confirm.r7 (x0 : TWitness) (x1 : List TSigned) (y1 : TWitness) (v7_0 : Bool) : V.normK 7 ([2, 3, 4, 5, 7, 26], []) (V.joinF impl_Confirm.E Tryz.f38.ntmps [1, 1, 0] [] (V.codeOf Tryz.f38) (impl_Confirm.kt x0 x1)) (impl_Confirm.s7 x0 x1 y1 v7_0) = impl_Confirm.g7 x0 x1 y1 (fun y1 v10_1 v10_2 v10_10 => V.loopN (V.loopF impl_Confirm.E Tryz.f38.ntmps [1, 1, 1, 0, 1, 0] [] (V.codeOf Tryz.f38) (impl_Confirm.kt x0 x1)) V.KK (impl_Confirm.s10 x0 x1 y1 v10_1 v10_2 v10_10)) v7_0 := by kernel_rfl
theorem impl_Confirm.e7 (x0 : TWitness) (x1 : List TSigned) (y1 : TWitness) (v7_0 : Bool) : V.normK 7 ([2, 3, 4, 5, 7, 26], []) (V.joinF impl_Confirm.E Tryz.f38.ntmps [1, 1, 0] [] (V.codeOf Tryz.f38) (impl_Confirm.kt x0 x1)) (impl_Confirm.s7 x0 x1 y1 v7_0) = impl_Confirm.l7 x0 x1 y1 v7_0 := by
  rw [impl_Confirm.r7]
  simp only [impl_Confirm.e10]
  rfl
theorem impl_Confirm.v (x0 : TWitness) (x1 : List TSigned) : V.evBody impl_Confirm.E impl_Confirm.con Tryz.f38 ((x0.1, x0.2, x1) : Int × List TMark × List TSigned) = impl_Confirm.b x0 x1 (fun y1 v7_0 => V.normK 7 ([2, 3, 4, 5, 7, 26], []) (V.joinF impl_Confirm.E Tryz.f38.ntmps [1, 1, 0] [] (V.codeOf Tryz.f38) (impl_Confirm.kt x0 x1)) (impl_Confirm.s7 x0 x1 y1 v7_0)) := by kernel_rfl
theorem impl_Confirm.eq (x0 : TWitness) (x1 : List TSigned) : V.evBody impl_Confirm.E impl_Confirm.con Tryz.f38 ((x0.1, x0.2, x1) : Int × List TMark × List TSigned) = impl_Confirm x0 x1 := by
  rw [impl_Confirm.v]
  simp only [impl_Confirm.e7]
  rfl
theorem impl_Confirm.ok : V.Valid Tryz.prog 38 impl_Confirm.con :=
  V.fo2 (V.tab_cons impl_IsChain.ok (V.tab_cons impl_copyWitness.ok (V.tab_cons impl_IsWitness.ok (V.tab_cons slices_ContainsFunc_impl_Mark__Mark_isOf.ok (V.tab_cons impl_MarkOf.ok (V.tab_cons impl_TagOf.ok (V.tab_cons impl_MarkInts.ok (V.tab_cons impl_last.ok V.tab_nil)))))))) (V.tab_cons slices_ContainsFunc_impl_Mark__Confirm_1.ok V.tab_nil) Tryz.func38 (by kernel_rfl) (fun x y h => (show V.evBody impl_Confirm.E impl_Confirm.con Tryz.f38 x = _ from impl_Confirm.eq (x.1, x.2.1) x.2.2).trans (V.cfl (by kernel_rfl) h))
noncomputable abbrev laws_eqMark.con : V.Con := ⟨(.cons (.int .i64) (.cons (.int .i64) (.cons (.int .i64) (.cons (.int .i64) (.cons (.int .i64) (.cons (.int .i64) .nil)))))), (.cons .bool .nil), fun (x : Int × Int × Int × Int × Int × Int) => laws_eqMark (x.1, x.2.1, x.2.2.1) x.2.2.2, [], [(true, 3), (true, 3)], [(false, 1)], [false], []⟩
noncomputable abbrev laws_eqMark.E : V.Env := V.mkE V.tys [] [] [] [] [] []
theorem laws_eqMark.eq (x0 : TMark) (x1 : TMark) : V.evBody laws_eqMark.E laws_eqMark.con Tryz.f223 ((x0.1, x0.2.1, x0.2.2, x1.1, x1.2.1, x1.2.2) : Int × Int × Int × Int × Int × Int) = laws_eqMark x0 x1 := by kernel_rfl
theorem laws_eqMark.ok : V.Valid Tryz.prog 223 laws_eqMark.con :=
  V.fo V.tab_nil Tryz.func223 (by kernel_rfl) (fun x y h => (show V.evBody laws_eqMark.E laws_eqMark.con Tryz.f223 x = _ from laws_eqMark.eq (x.1, x.2.1, x.2.2.1) x.2.2.2).trans (V.cfl (by kernel_rfl) h))
noncomputable abbrev laws_eqMarkS.con : V.Con := ⟨(.cons (.sl (.cons (.int .i64) (.cons (.int .i64) (.cons (.int .i64) .nil)))) (.cons (.sl (.cons (.int .i64) (.cons (.int .i64) (.cons (.int .i64) .nil)))) .nil)), (.cons .bool .nil), fun (x : List TMark × List TMark) => laws_eqMarkS x.1 x.2, [], [(false, 1), (false, 1)], [(false, 1)], [false], []⟩
noncomputable abbrev laws_eqMarkS.E : V.Env := V.mkE V.tys [(223, laws_eqMark.con)] [(8, [0, 1, 5], [])] [(6, 8)] [] [] []
noncomputable abbrev laws_eqMarkS.kt (x0 : List TMark) (x1 : List TMark) : V.Kt Bool := V.ktOf laws_eqMarkS.E laws_eqMarkS.con Tryz.f131 ((x0, x1) : List TMark × List TMark)
noncomputable abbrev laws_eqMarkS.s8 (x0 : List TMark) (x1 : List TMark) (v8_2 : Int) : V.St := ⟨[(0, .v false [.val (.sl (.cons (.int .i64) (.cons (.int .i64) (.cons (.int .i64) .nil))) x0)]), (1, .v false [.val (.sl (.cons (.int .i64) (.cons (.int .i64) (.cons (.int .i64) .nil))) x1)]), (5, .v false [.val (.int .i64 v8_2)])], []⟩
theorem laws_eqMarkS.r8 (x0 : List TMark) (x1 : List TMark) (R : V.St → Option Bool) (v8_2 : Int) : V.loopF laws_eqMarkS.E Tryz.f131.ntmps [1, 1, 0, 1, 0] [] (V.codeOf Tryz.f131) (laws_eqMarkS.kt x0 x1) R (laws_eqMarkS.s8 x0 x1 v8_2) = laws_eqMarkS.g8 x0 x1 (fun v8_2 => R (laws_eqMarkS.s8 x0 x1 v8_2)) v8_2 := by kernel_rfl
theorem laws_eqMarkS.e8 (x0 : List TMark) (x1 : List TMark) : ∀ (n : Nat) (v8_2 : Int), V.loopN (V.loopF laws_eqMarkS.E Tryz.f131.ntmps [1, 1, 0, 1, 0] [] (V.codeOf Tryz.f131) (laws_eqMarkS.kt x0 x1)) n (laws_eqMarkS.s8 x0 x1 v8_2) = laws_eqMarkS.l8 x0 x1 n v8_2 := by
  intro n
  induction n with
  | zero => intros; rw [V.loopN_z]; rfl
  | succ n ih =>
    intro v8_2
    rw [V.loopN_s, laws_eqMarkS.r8]
    simp only [ih]
    first | exact (laws_eqMarkS.u8 ..).symm | rfl
theorem laws_eqMarkS.v (x0 : List TMark) (x1 : List TMark) : V.evBody laws_eqMarkS.E laws_eqMarkS.con Tryz.f131 ((x0, x1) : List TMark × List TMark) = laws_eqMarkS.b x0 x1 (fun v8_2 => V.loopN (V.loopF laws_eqMarkS.E Tryz.f131.ntmps [1, 1, 0, 1, 0] [] (V.codeOf Tryz.f131) (laws_eqMarkS.kt x0 x1)) V.KK (laws_eqMarkS.s8 x0 x1 v8_2)) := by kernel_rfl
theorem laws_eqMarkS.eq (x0 : List TMark) (x1 : List TMark) : V.evBody laws_eqMarkS.E laws_eqMarkS.con Tryz.f131 ((x0, x1) : List TMark × List TMark) = laws_eqMarkS x0 x1 := by
  rw [laws_eqMarkS.v]
  simp only [laws_eqMarkS.e8]
  rfl
theorem laws_eqMarkS.ok : V.Valid Tryz.prog 131 laws_eqMarkS.con :=
  V.fo (V.tab_cons laws_eqMark.ok V.tab_nil) Tryz.func131 (by kernel_rfl) (fun x y h => (show V.evBody laws_eqMarkS.E laws_eqMarkS.con Tryz.f131 x = _ from laws_eqMarkS.eq x.1 x.2).trans (V.cfl (by kernel_rfl) h))
noncomputable abbrev laws_eqWitness.con : V.Con := ⟨(.cons (.int .i64) (.cons (.sl (.cons (.int .i64) (.cons (.int .i64) (.cons (.int .i64) .nil)))) (.cons (.int .i64) (.cons (.sl (.cons (.int .i64) (.cons (.int .i64) (.cons (.int .i64) .nil)))) .nil)))), (.cons .bool .nil), fun (x : Int × List TMark × Int × List TMark) => laws_eqWitness (x.1, x.2.1) x.2.2, [], [(true, 2), (true, 2)], [(false, 1)], [false], []⟩
noncomputable abbrev laws_eqWitness.E : V.Env := V.mkE V.tys [(131, laws_eqMarkS.con)] [] [] [] [] []
theorem laws_eqWitness.eq (x0 : TWitness) (x1 : TWitness) : V.evBody laws_eqWitness.E laws_eqWitness.con Tryz.f39 ((x0.1, x0.2, x1.1, x1.2) : Int × List TMark × Int × List TMark) = laws_eqWitness x0 x1 := by kernel_rfl
theorem laws_eqWitness.ok : V.Valid Tryz.prog 39 laws_eqWitness.con :=
  V.fo (V.tab_cons laws_eqMarkS.ok V.tab_nil) Tryz.func39 (by kernel_rfl) (fun x y h => (show V.evBody laws_eqWitness.E laws_eqWitness.con Tryz.f39 x = _ from laws_eqWitness.eq (x.1, x.2.1) x.2.2).trans (V.cfl (by kernel_rfl) h))
noncomputable abbrev laws_eqSig.con : V.Con := ⟨(.cons (.int .i64) (.cons (.int .i64) (.cons (.int .i64) (.cons (.int .i64) .nil)))), (.cons .bool .nil), fun (x : Int × Int × Int × Int) => laws_eqSig (x.1, x.2.1) x.2.2, [], [(true, 2), (true, 2)], [(false, 1)], [false], []⟩
noncomputable abbrev laws_eqSig.E : V.Env := V.mkE V.tys [] [] [] [] [] []
theorem laws_eqSig.eq (x0 : TSig) (x1 : TSig) : V.evBody laws_eqSig.E laws_eqSig.con Tryz.f40 ((x0.1, x0.2, x1.1, x1.2) : Int × Int × Int × Int) = laws_eqSig x0 x1 := by kernel_rfl
theorem laws_eqSig.ok : V.Valid Tryz.prog 40 laws_eqSig.con :=
  V.fo V.tab_nil Tryz.func40 (by kernel_rfl) (fun x y h => (show V.evBody laws_eqSig.E laws_eqSig.con Tryz.f40 x = _ from laws_eqSig.eq (x.1, x.2.1) x.2.2).trans (V.cfl (by kernel_rfl) h))
noncomputable abbrev laws_eqIntS.con : V.Con := ⟨(.cons (.sl (.cons (.int .i64) .nil)) (.cons (.sl (.cons (.int .i64) .nil)) .nil)), (.cons .bool .nil), fun (x : List Int × List Int) => laws_eqIntS x.1 x.2, [], [(false, 1), (false, 1)], [(false, 1)], [false], []⟩
noncomputable abbrev laws_eqIntS.E : V.Env := V.mkE V.tys [] [(8, [0, 1, 5], [])] [(6, 8)] [] [] []
noncomputable abbrev laws_eqIntS.kt (x0 : List Int) (x1 : List Int) : V.Kt Bool := V.ktOf laws_eqIntS.E laws_eqIntS.con Tryz.f79 ((x0, x1) : List Int × List Int)
noncomputable abbrev laws_eqIntS.s8 (x0 : List Int) (x1 : List Int) (v8_2 : Int) : V.St := ⟨[(0, .v false [.val (.sl (.cons (.int .i64) .nil) x0)]), (1, .v false [.val (.sl (.cons (.int .i64) .nil) x1)]), (5, .v false [.val (.int .i64 v8_2)])], []⟩
theorem laws_eqIntS.r8 (x0 : List Int) (x1 : List Int) (R : V.St → Option Bool) (v8_2 : Int) : V.loopF laws_eqIntS.E Tryz.f79.ntmps [1, 1, 0, 1, 0] [] (V.codeOf Tryz.f79) (laws_eqIntS.kt x0 x1) R (laws_eqIntS.s8 x0 x1 v8_2) = laws_eqIntS.g8 x0 x1 (fun v8_2 => R (laws_eqIntS.s8 x0 x1 v8_2)) v8_2 := by kernel_rfl
theorem laws_eqIntS.e8 (x0 : List Int) (x1 : List Int) : ∀ (n : Nat) (v8_2 : Int), V.loopN (V.loopF laws_eqIntS.E Tryz.f79.ntmps [1, 1, 0, 1, 0] [] (V.codeOf Tryz.f79) (laws_eqIntS.kt x0 x1)) n (laws_eqIntS.s8 x0 x1 v8_2) = laws_eqIntS.l8 x0 x1 n v8_2 := by
  intro n
  induction n with
  | zero => intros; rw [V.loopN_z]; rfl
  | succ n ih =>
    intro v8_2
    rw [V.loopN_s, laws_eqIntS.r8]
    simp only [ih]
    first | exact (laws_eqIntS.u8 ..).symm | rfl
theorem laws_eqIntS.v (x0 : List Int) (x1 : List Int) : V.evBody laws_eqIntS.E laws_eqIntS.con Tryz.f79 ((x0, x1) : List Int × List Int) = laws_eqIntS.b x0 x1 (fun v8_2 => V.loopN (V.loopF laws_eqIntS.E Tryz.f79.ntmps [1, 1, 0, 1, 0] [] (V.codeOf Tryz.f79) (laws_eqIntS.kt x0 x1)) V.KK (laws_eqIntS.s8 x0 x1 v8_2)) := by kernel_rfl
theorem laws_eqIntS.eq (x0 : List Int) (x1 : List Int) : V.evBody laws_eqIntS.E laws_eqIntS.con Tryz.f79 ((x0, x1) : List Int × List Int) = laws_eqIntS x0 x1 := by
  rw [laws_eqIntS.v]
  simp only [laws_eqIntS.e8]
  rfl
theorem laws_eqIntS.ok : V.Valid Tryz.prog 79 laws_eqIntS.con :=
  V.fo V.tab_nil Tryz.func79 (by kernel_rfl) (fun x y h => (show V.evBody laws_eqIntS.E laws_eqIntS.con Tryz.f79 x = _ from laws_eqIntS.eq x.1 x.2).trans (V.cfl (by kernel_rfl) h))
noncomputable abbrev laws_eqKeys.con : V.Con := ⟨(.cons (.sl (.cons (.int .i64) .nil)) (.cons (.int .i64) (.cons (.sl (.cons (.int .i64) .nil)) (.cons (.int .i64) .nil)))), (.cons .bool .nil), fun (x : List Int × Int × List Int × Int) => laws_eqKeys (x.1, x.2.1) x.2.2, [], [(true, 2), (true, 2)], [(false, 1)], [false], []⟩
noncomputable abbrev laws_eqKeys.E : V.Env := V.mkE V.tys [(79, laws_eqIntS.con)] [] [] [] [] []
theorem laws_eqKeys.eq (x0 : TKeys) (x1 : TKeys) : V.evBody laws_eqKeys.E laws_eqKeys.con Tryz.f54 ((x0.1, x0.2, x1.1, x1.2) : List Int × Int × List Int × Int) = laws_eqKeys x0 x1 := by kernel_rfl
theorem laws_eqKeys.ok : V.Valid Tryz.prog 54 laws_eqKeys.con :=
  V.fo (V.tab_cons laws_eqIntS.ok V.tab_nil) Tryz.func54 (by kernel_rfl) (fun x y h => (show V.evBody laws_eqKeys.E laws_eqKeys.con Tryz.f54 x = _ from laws_eqKeys.eq (x.1, x.2.1) x.2.2).trans (V.cfl (by kernel_rfl) h))
noncomputable abbrev laws_eqHead.con : V.Con := ⟨V.A4, (.cons .bool .nil), fun (x : V.D4) => laws_eqHead (V.p4_0 x) (V.p4_1 x), [], [(true, 16), (true, 16)], [(false, 1)], [false], []⟩
noncomputable abbrev laws_eqHead.E : V.Env := V.mkE V.tys [(54, laws_eqKeys.con)] [] [] [] [] []
noncomputable abbrev laws_eqHead.kt (x0 : THead) (x1 : THead) : V.Kt Bool := V.ktOf laws_eqHead.E laws_eqHead.con Tryz.f21 (V.fl4 x0 x1)
noncomputable abbrev laws_eqHead.s (x0 : THead) (x1 : THead) : V.St := ⟨[(0, .v true [.val (.int .i64 x0.1), .val (.int .i64 x0.2.1), .val (.int .i64 x0.2.2.1), .val (.int .i64 x0.2.2.2.1), .val (.int .i64 x0.2.2.2.2.1), .val (.int .i64 x0.2.2.2.2.2.1), .val (.int .i64 x0.2.2.2.2.2.2.1), .val (.int .i64 x0.2.2.2.2.2.2.2.1), .val (.sl (.cons (.int .i64) .nil) x0.2.2.2.2.2.2.2.2.1), .val (.int .i64 x0.2.2.2.2.2.2.2.2.2.1), .val (.sl (.cons (.int .i64) .nil) x0.2.2.2.2.2.2.2.2.2.2.1), .val (.int .i64 x0.2.2.2.2.2.2.2.2.2.2.2.1), .val (.int .i64 x0.2.2.2.2.2.2.2.2.2.2.2.2.1), .val (.sl (.cons (.int .i64) .nil) x0.2.2.2.2.2.2.2.2.2.2.2.2.2.1), .val (.int .i64 x0.2.2.2.2.2.2.2.2.2.2.2.2.2.2.1), .val (.bool x0.2.2.2.2.2.2.2.2.2.2.2.2.2.2.2)]), (1, .v true [.val (.int .i64 x1.1), .val (.int .i64 x1.2.1), .val (.int .i64 x1.2.2.1), .val (.int .i64 x1.2.2.2.1), .val (.int .i64 x1.2.2.2.2.1), .val (.int .i64 x1.2.2.2.2.2.1), .val (.int .i64 x1.2.2.2.2.2.2.1), .val (.int .i64 x1.2.2.2.2.2.2.2.1), .val (.sl (.cons (.int .i64) .nil) x1.2.2.2.2.2.2.2.2.1), .val (.int .i64 x1.2.2.2.2.2.2.2.2.2.1), .val (.sl (.cons (.int .i64) .nil) x1.2.2.2.2.2.2.2.2.2.2.1), .val (.int .i64 x1.2.2.2.2.2.2.2.2.2.2.2.1), .val (.int .i64 x1.2.2.2.2.2.2.2.2.2.2.2.2.1), .val (.sl (.cons (.int .i64) .nil) x1.2.2.2.2.2.2.2.2.2.2.2.2.2.1), .val (.int .i64 x1.2.2.2.2.2.2.2.2.2.2.2.2.2.2.1), .val (.bool x1.2.2.2.2.2.2.2.2.2.2.2.2.2.2.2)])], []⟩
theorem laws_eqHead.v0 (x0 : THead) (x1 : THead) : V.evBody laws_eqHead.E laws_eqHead.con Tryz.f21 (V.fl4 x0 x1) = V.evC laws_eqHead.E Tryz.f21.ntmps (V.codeOf Tryz.f21) (laws_eqHead.kt x0 x1) (laws_eqHead.s x0 x1) := by kernel_rfl
theorem laws_eqHead.v (x0 : THead) (x1 : THead) : V.evC laws_eqHead.E Tryz.f21.ntmps (V.codeOf Tryz.f21) (laws_eqHead.kt x0 x1) (laws_eqHead.s x0 x1) = laws_eqHead x0 x1 := by kernel_rfl
theorem laws_eqHead.eq (x0 : THead) (x1 : THead) : V.evBody laws_eqHead.E laws_eqHead.con Tryz.f21 (V.fl4 x0 x1) = laws_eqHead x0 x1 := (laws_eqHead.v0 x0 x1).trans (laws_eqHead.v x0 x1)
theorem laws_eqHead.ok : V.Valid Tryz.prog 21 laws_eqHead.con :=
  V.fo (V.tab_cons laws_eqKeys.ok V.tab_nil) Tryz.func21 (by kernel_rfl) (fun x y h => (show V.evBody laws_eqHead.E laws_eqHead.con Tryz.f21 x = _ from laws_eqHead.eq (V.p4_0 x) (V.p4_1 x)).trans (V.cfl (by kernel_rfl) h))
noncomputable abbrev laws_eqSigS.con : V.Con := ⟨(.cons (.sl (.cons (.int .i64) (.cons (.int .i64) .nil))) (.cons (.sl (.cons (.int .i64) (.cons (.int .i64) .nil))) .nil)), (.cons .bool .nil), fun (x : List TSig × List TSig) => laws_eqSigS x.1 x.2, [], [(false, 1), (false, 1)], [(false, 1)], [false], []⟩
noncomputable abbrev laws_eqSigS.E : V.Env := V.mkE V.tys [(40, laws_eqSig.con)] [(8, [0, 1, 5], [])] [(6, 8)] [] [] []
noncomputable abbrev laws_eqSigS.kt (x0 : List TSig) (x1 : List TSig) : V.Kt Bool := V.ktOf laws_eqSigS.E laws_eqSigS.con Tryz.f212 ((x0, x1) : List TSig × List TSig)
noncomputable abbrev laws_eqSigS.s8 (x0 : List TSig) (x1 : List TSig) (v8_2 : Int) : V.St := ⟨[(0, .v false [.val (.sl (.cons (.int .i64) (.cons (.int .i64) .nil)) x0)]), (1, .v false [.val (.sl (.cons (.int .i64) (.cons (.int .i64) .nil)) x1)]), (5, .v false [.val (.int .i64 v8_2)])], []⟩
theorem laws_eqSigS.r8 (x0 : List TSig) (x1 : List TSig) (R : V.St → Option Bool) (v8_2 : Int) : V.loopF laws_eqSigS.E Tryz.f212.ntmps [1, 1, 0, 1, 0] [] (V.codeOf Tryz.f212) (laws_eqSigS.kt x0 x1) R (laws_eqSigS.s8 x0 x1 v8_2) = laws_eqSigS.g8 x0 x1 (fun v8_2 => R (laws_eqSigS.s8 x0 x1 v8_2)) v8_2 := by kernel_rfl
theorem laws_eqSigS.e8 (x0 : List TSig) (x1 : List TSig) : ∀ (n : Nat) (v8_2 : Int), V.loopN (V.loopF laws_eqSigS.E Tryz.f212.ntmps [1, 1, 0, 1, 0] [] (V.codeOf Tryz.f212) (laws_eqSigS.kt x0 x1)) n (laws_eqSigS.s8 x0 x1 v8_2) = laws_eqSigS.l8 x0 x1 n v8_2 := by
  intro n
  induction n with
  | zero => intros; rw [V.loopN_z]; rfl
  | succ n ih =>
    intro v8_2
    rw [V.loopN_s, laws_eqSigS.r8]
    simp only [ih]
    first | exact (laws_eqSigS.u8 ..).symm | rfl
theorem laws_eqSigS.v (x0 : List TSig) (x1 : List TSig) : V.evBody laws_eqSigS.E laws_eqSigS.con Tryz.f212 ((x0, x1) : List TSig × List TSig) = laws_eqSigS.b x0 x1 (fun v8_2 => V.loopN (V.loopF laws_eqSigS.E Tryz.f212.ntmps [1, 1, 0, 1, 0] [] (V.codeOf Tryz.f212) (laws_eqSigS.kt x0 x1)) V.KK (laws_eqSigS.s8 x0 x1 v8_2)) := by kernel_rfl
theorem laws_eqSigS.eq (x0 : List TSig) (x1 : List TSig) : V.evBody laws_eqSigS.E laws_eqSigS.con Tryz.f212 ((x0, x1) : List TSig × List TSig) = laws_eqSigS x0 x1 := by
  rw [laws_eqSigS.v]
  simp only [laws_eqSigS.e8]
  rfl
theorem laws_eqSigS.ok : V.Valid Tryz.prog 212 laws_eqSigS.con :=
  V.fo (V.tab_cons laws_eqSig.ok V.tab_nil) Tryz.func212 (by kernel_rfl) (fun x y h => (show V.evBody laws_eqSigS.E laws_eqSigS.con Tryz.f212 x = _ from laws_eqSigS.eq x.1 x.2).trans (V.cfl (by kernel_rfl) h))
noncomputable abbrev laws_eqSigned.con : V.Con := ⟨V.A8, (.cons .bool .nil), fun (x : V.D8) => laws_eqSigned (V.p8_0 x) (V.p8_1 x), [], [(true, 17), (true, 17)], [(false, 1)], [false], []⟩
noncomputable abbrev laws_eqSigned.E : V.Env := V.mkE V.tys [(21, laws_eqHead.con), (212, laws_eqSigS.con)] [] [] [] [] []
noncomputable abbrev laws_eqSigned.kt (x0 : TSigned) (x1 : TSigned) : V.Kt Bool := V.ktOf laws_eqSigned.E laws_eqSigned.con Tryz.f108 (V.fl8 x0 x1)
noncomputable abbrev laws_eqSigned.s (x0 : TSigned) (x1 : TSigned) : V.St := ⟨[(0, .v true [.val (.int .i64 x0.1), .val (.int .i64 x0.2.1), .val (.int .i64 x0.2.2.1), .val (.int .i64 x0.2.2.2.1), .val (.int .i64 x0.2.2.2.2.1), .val (.int .i64 x0.2.2.2.2.2.1), .val (.int .i64 x0.2.2.2.2.2.2.1), .val (.int .i64 x0.2.2.2.2.2.2.2.1), .val (.sl (.cons (.int .i64) .nil) x0.2.2.2.2.2.2.2.2.1), .val (.int .i64 x0.2.2.2.2.2.2.2.2.2.1), .val (.sl (.cons (.int .i64) .nil) x0.2.2.2.2.2.2.2.2.2.2.1), .val (.int .i64 x0.2.2.2.2.2.2.2.2.2.2.2.1), .val (.int .i64 x0.2.2.2.2.2.2.2.2.2.2.2.2.1), .val (.sl (.cons (.int .i64) .nil) x0.2.2.2.2.2.2.2.2.2.2.2.2.2.1), .val (.int .i64 x0.2.2.2.2.2.2.2.2.2.2.2.2.2.2.1), .val (.bool x0.2.2.2.2.2.2.2.2.2.2.2.2.2.2.2.1), .val (.sl (.cons (.int .i64) (.cons (.int .i64) .nil)) x0.2.2.2.2.2.2.2.2.2.2.2.2.2.2.2.2)]), (1, .v true [.val (.int .i64 x1.1), .val (.int .i64 x1.2.1), .val (.int .i64 x1.2.2.1), .val (.int .i64 x1.2.2.2.1), .val (.int .i64 x1.2.2.2.2.1), .val (.int .i64 x1.2.2.2.2.2.1), .val (.int .i64 x1.2.2.2.2.2.2.1), .val (.int .i64 x1.2.2.2.2.2.2.2.1), .val (.sl (.cons (.int .i64) .nil) x1.2.2.2.2.2.2.2.2.1), .val (.int .i64 x1.2.2.2.2.2.2.2.2.2.1), .val (.sl (.cons (.int .i64) .nil) x1.2.2.2.2.2.2.2.2.2.2.1), .val (.int .i64 x1.2.2.2.2.2.2.2.2.2.2.2.1), .val (.int .i64 x1.2.2.2.2.2.2.2.2.2.2.2.2.1), .val (.sl (.cons (.int .i64) .nil) x1.2.2.2.2.2.2.2.2.2.2.2.2.2.1), .val (.int .i64 x1.2.2.2.2.2.2.2.2.2.2.2.2.2.2.1), .val (.bool x1.2.2.2.2.2.2.2.2.2.2.2.2.2.2.2.1), .val (.sl (.cons (.int .i64) (.cons (.int .i64) .nil)) x1.2.2.2.2.2.2.2.2.2.2.2.2.2.2.2.2)])], []⟩
theorem laws_eqSigned.v0 (x0 : TSigned) (x1 : TSigned) : V.evBody laws_eqSigned.E laws_eqSigned.con Tryz.f108 (V.fl8 x0 x1) = V.evC laws_eqSigned.E Tryz.f108.ntmps (V.codeOf Tryz.f108) (laws_eqSigned.kt x0 x1) (laws_eqSigned.s x0 x1) := by kernel_rfl
theorem laws_eqSigned.v (x0 : TSigned) (x1 : TSigned) : V.evC laws_eqSigned.E Tryz.f108.ntmps (V.codeOf Tryz.f108) (laws_eqSigned.kt x0 x1) (laws_eqSigned.s x0 x1) = laws_eqSigned x0 x1 := by kernel_rfl
theorem laws_eqSigned.eq (x0 : TSigned) (x1 : TSigned) : V.evBody laws_eqSigned.E laws_eqSigned.con Tryz.f108 (V.fl8 x0 x1) = laws_eqSigned x0 x1 := (laws_eqSigned.v0 x0 x1).trans (laws_eqSigned.v x0 x1)
theorem laws_eqSigned.ok : V.Valid Tryz.prog 108 laws_eqSigned.con :=
  V.fo (V.tab_cons laws_eqHead.ok (V.tab_cons laws_eqSigS.ok V.tab_nil)) Tryz.func108 (by kernel_rfl) (fun x y h => (show V.evBody laws_eqSigned.E laws_eqSigned.con Tryz.f108 x = _ from laws_eqSigned.eq (V.p8_0 x) (V.p8_1 x)).trans (V.cfl (by kernel_rfl) h))
end Go.Proofs.YtpioofmdambjoaaGreat
