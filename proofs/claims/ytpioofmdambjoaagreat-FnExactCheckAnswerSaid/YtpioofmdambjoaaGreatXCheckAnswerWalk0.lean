/- That the functions compute it. -/
import Derived.Test.YtpioofmdambjoaaGreatXCheckAnswerPure0
import Derived.Test.YtpioofmdambjoaaGreatProg
namespace Go.Proofs.YtpioofmdambjoaaGreat
set_option linter.unusedVariables false
set_option maxRecDepth 100000
namespace V
abbrev eSigned : ETy := (.cons (.int .i64) (.cons (.int .i64) (.cons (.int .i64) (.cons (.int .i64) (.cons (.int .i64) (.cons (.int .i64) (.cons (.int .i64) (.cons (.int .i64) (.cons (.sl (.cons (.int .i64) .nil)) (.cons (.int .i64) (.cons (.sl (.cons (.int .i64) .nil)) (.cons (.int .i64) (.cons (.int .i64) (.cons (.sl (.cons (.int .i64) .nil)) (.cons (.int .i64) (.cons .bool (.cons (.sl (.cons (.int .i64) (.cons (.int .i64) .nil))) .nil)))))))))))))))))
abbrev eAnswer : ETy := (.cons (.sl eSigned) (.cons .bool (.cons .str (.cons (.int .i64) (.cons (.int .i64) (.cons (.sl (.cons .str .nil)) (.cons (.int .i64) (.cons (.sl (.cons (.int .i64) .nil)) (.cons (.int .i64) (.cons .str (.cons (.int .i64) (.cons (.int .i64) (.cons (.sl (.cons .str .nil)) (.cons .str (.cons (.int .i64) (.cons (.int .i64) (.cons (.sl (.cons .str .nil)) (.cons (.int .i64) (.cons (.sl (.cons (.int .i64) .nil)) (.cons (.int .i64) (.cons (.sl (.cons (.int .i64) .nil)) .nil)))))))))))))))))))))
abbrev eEntry : ETy := (.cons .str (.cons (.int .i64) (.cons (.int .i64) (.cons (.sl (.cons .str .nil)) .nil))))
abbrev eGap : ETy := (.cons (.int .i64) (.cons .str (.cons (.int .i64) (.cons (.int .i64) (.cons (.sl (.cons .str .nil)) (.cons .str (.cons (.int .i64) (.cons (.int .i64) (.cons (.sl (.cons .str .nil)) (.cons (.int .i64) (.cons (.sl (.cons (.int .i64) .nil)) (.cons (.int .i64) (.cons (.sl (.cons (.int .i64) .nil)) .nil)))))))))))))
abbrev eHead : ETy := (.cons (.int .i64) (.cons (.int .i64) (.cons (.int .i64) (.cons (.int .i64) (.cons (.int .i64) (.cons (.int .i64) (.cons (.int .i64) (.cons (.int .i64) (.cons (.sl (.cons (.int .i64) .nil)) (.cons (.int .i64) (.cons (.sl (.cons (.int .i64) .nil)) (.cons (.int .i64) (.cons (.int .i64) (.cons (.sl (.cons (.int .i64) .nil)) (.cons (.int .i64) (.cons .bool .nil))))))))))))))))
abbrev eRHeadBool : ETy := (.cons (.int .i64) (.cons (.int .i64) (.cons (.int .i64) (.cons (.int .i64) (.cons (.int .i64) (.cons (.int .i64) (.cons (.int .i64) (.cons (.int .i64) (.cons (.sl (.cons (.int .i64) .nil)) (.cons (.int .i64) (.cons (.sl (.cons (.int .i64) .nil)) (.cons (.int .i64) (.cons (.int .i64) (.cons (.sl (.cons (.int .i64) .nil)) (.cons (.int .i64) (.cons .bool (.cons .bool .nil)))))))))))))))))
abbrev D0 : Type := Int × Int × Int × Int × Int × Int × Int × Int × List Int × Int × List Int × Int × Int × List Int × Int × Bool × Int
abbrev A0 : ETy := (.cons (.int .i64) (.cons (.int .i64) (.cons (.int .i64) (.cons (.int .i64) (.cons (.int .i64) (.cons (.int .i64) (.cons (.int .i64) (.cons (.int .i64) (.cons (.sl (.cons (.int .i64) .nil)) (.cons (.int .i64) (.cons (.sl (.cons (.int .i64) .nil)) (.cons (.int .i64) (.cons (.int .i64) (.cons (.sl (.cons (.int .i64) .nil)) (.cons (.int .i64) (.cons .bool (.cons (.int .i64) .nil)))))))))))))))))
abbrev fl0 (x0 : THead) (x1 : Int) : D0 := (x0.1, x0.2.1, x0.2.2.1, x0.2.2.2.1, x0.2.2.2.2.1, x0.2.2.2.2.2.1, x0.2.2.2.2.2.2.1, x0.2.2.2.2.2.2.2.1, x0.2.2.2.2.2.2.2.2.1, x0.2.2.2.2.2.2.2.2.2.1, x0.2.2.2.2.2.2.2.2.2.2.1, x0.2.2.2.2.2.2.2.2.2.2.2.1, x0.2.2.2.2.2.2.2.2.2.2.2.2.1, x0.2.2.2.2.2.2.2.2.2.2.2.2.2.1, x0.2.2.2.2.2.2.2.2.2.2.2.2.2.2.1, x0.2.2.2.2.2.2.2.2.2.2.2.2.2.2.2, x1)
abbrev p0_0 (x : D0) : THead := (x.1, x.2.1, x.2.2.1, x.2.2.2.1, x.2.2.2.2.1, x.2.2.2.2.2.1, x.2.2.2.2.2.2.1, x.2.2.2.2.2.2.2.1, x.2.2.2.2.2.2.2.2.1, x.2.2.2.2.2.2.2.2.2.1, x.2.2.2.2.2.2.2.2.2.2.1, x.2.2.2.2.2.2.2.2.2.2.2.1, x.2.2.2.2.2.2.2.2.2.2.2.2.1, x.2.2.2.2.2.2.2.2.2.2.2.2.2.1, x.2.2.2.2.2.2.2.2.2.2.2.2.2.2.1, x.2.2.2.2.2.2.2.2.2.2.2.2.2.2.2.1)
abbrev p0_1 (x : D0) : Int := x.2.2.2.2.2.2.2.2.2.2.2.2.2.2.2.2
abbrev D1 : Type := Int × Int × Int × Int × Int × Int × Int × Int × List Int × Int × List Int × Int × Int × List Int × Int × Bool × List TSig × Int
abbrev A1 : ETy := (.cons (.int .i64) (.cons (.int .i64) (.cons (.int .i64) (.cons (.int .i64) (.cons (.int .i64) (.cons (.int .i64) (.cons (.int .i64) (.cons (.int .i64) (.cons (.sl (.cons (.int .i64) .nil)) (.cons (.int .i64) (.cons (.sl (.cons (.int .i64) .nil)) (.cons (.int .i64) (.cons (.int .i64) (.cons (.sl (.cons (.int .i64) .nil)) (.cons (.int .i64) (.cons .bool (.cons (.sl (.cons (.int .i64) (.cons (.int .i64) .nil))) (.cons (.int .i64) .nil))))))))))))))))))
abbrev fl1 (x0 : TSigned) (x1 : Int) : D1 := (x0.1, x0.2.1, x0.2.2.1, x0.2.2.2.1, x0.2.2.2.2.1, x0.2.2.2.2.2.1, x0.2.2.2.2.2.2.1, x0.2.2.2.2.2.2.2.1, x0.2.2.2.2.2.2.2.2.1, x0.2.2.2.2.2.2.2.2.2.1, x0.2.2.2.2.2.2.2.2.2.2.1, x0.2.2.2.2.2.2.2.2.2.2.2.1, x0.2.2.2.2.2.2.2.2.2.2.2.2.1, x0.2.2.2.2.2.2.2.2.2.2.2.2.2.1, x0.2.2.2.2.2.2.2.2.2.2.2.2.2.2.1, x0.2.2.2.2.2.2.2.2.2.2.2.2.2.2.2.1, x0.2.2.2.2.2.2.2.2.2.2.2.2.2.2.2.2, x1)
abbrev p1_0 (x : D1) : TSigned := (x.1, x.2.1, x.2.2.1, x.2.2.2.1, x.2.2.2.2.1, x.2.2.2.2.2.1, x.2.2.2.2.2.2.1, x.2.2.2.2.2.2.2.1, x.2.2.2.2.2.2.2.2.1, x.2.2.2.2.2.2.2.2.2.1, x.2.2.2.2.2.2.2.2.2.2.1, x.2.2.2.2.2.2.2.2.2.2.2.1, x.2.2.2.2.2.2.2.2.2.2.2.2.1, x.2.2.2.2.2.2.2.2.2.2.2.2.2.1, x.2.2.2.2.2.2.2.2.2.2.2.2.2.2.1, x.2.2.2.2.2.2.2.2.2.2.2.2.2.2.2.1, x.2.2.2.2.2.2.2.2.2.2.2.2.2.2.2.2.1)
abbrev p1_1 (x : D1) : Int := x.2.2.2.2.2.2.2.2.2.2.2.2.2.2.2.2.2
abbrev D2 : Type := Int × ByteArray × Int × Int × List ByteArray × ByteArray × Int × Int × List ByteArray × Int × List Int × Int × List Int × Int
abbrev A2 : ETy := (.cons (.int .i64) (.cons .str (.cons (.int .i64) (.cons (.int .i64) (.cons (.sl (.cons .str .nil)) (.cons .str (.cons (.int .i64) (.cons (.int .i64) (.cons (.sl (.cons .str .nil)) (.cons (.int .i64) (.cons (.sl (.cons (.int .i64) .nil)) (.cons (.int .i64) (.cons (.sl (.cons (.int .i64) .nil)) (.cons (.int .i64) .nil))))))))))))))
abbrev fl2 (x0 : TGap) (x1 : Int) : D2 := (x0.1, x0.2.1, x0.2.2.1, x0.2.2.2.1, x0.2.2.2.2.1, x0.2.2.2.2.2.1, x0.2.2.2.2.2.2.1, x0.2.2.2.2.2.2.2.1, x0.2.2.2.2.2.2.2.2.1, x0.2.2.2.2.2.2.2.2.2.1, x0.2.2.2.2.2.2.2.2.2.2.1, x0.2.2.2.2.2.2.2.2.2.2.2.1, x0.2.2.2.2.2.2.2.2.2.2.2.2, x1)
abbrev p2_0 (x : D2) : TGap := (x.1, x.2.1, x.2.2.1, x.2.2.2.1, x.2.2.2.2.1, x.2.2.2.2.2.1, x.2.2.2.2.2.2.1, x.2.2.2.2.2.2.2.1, x.2.2.2.2.2.2.2.2.1, x.2.2.2.2.2.2.2.2.2.1, x.2.2.2.2.2.2.2.2.2.2.1, x.2.2.2.2.2.2.2.2.2.2.2.1, x.2.2.2.2.2.2.2.2.2.2.2.2.1)
abbrev p2_1 (x : D2) : Int := x.2.2.2.2.2.2.2.2.2.2.2.2.2
abbrev D3 : Type := List TSigned × Bool × ByteArray × Int × Int × List ByteArray × Int × List Int × Int × ByteArray × Int × Int × List ByteArray × ByteArray × Int × Int × List ByteArray × Int × List Int × Int × List Int × Int
abbrev A3 : ETy := (.cons (.sl eSigned) (.cons .bool (.cons .str (.cons (.int .i64) (.cons (.int .i64) (.cons (.sl (.cons .str .nil)) (.cons (.int .i64) (.cons (.sl (.cons (.int .i64) .nil)) (.cons (.int .i64) (.cons .str (.cons (.int .i64) (.cons (.int .i64) (.cons (.sl (.cons .str .nil)) (.cons .str (.cons (.int .i64) (.cons (.int .i64) (.cons (.sl (.cons .str .nil)) (.cons (.int .i64) (.cons (.sl (.cons (.int .i64) .nil)) (.cons (.int .i64) (.cons (.sl (.cons (.int .i64) .nil)) (.cons (.int .i64) .nil))))))))))))))))))))))
abbrev fl3 (x0 : TAnswer) (x1 : Int) : D3 := (x0.1, x0.2.1, x0.2.2.1, x0.2.2.2.1, x0.2.2.2.2.1, x0.2.2.2.2.2.1, x0.2.2.2.2.2.2.1, x0.2.2.2.2.2.2.2.1, x0.2.2.2.2.2.2.2.2.1, x0.2.2.2.2.2.2.2.2.2.1, x0.2.2.2.2.2.2.2.2.2.2.1, x0.2.2.2.2.2.2.2.2.2.2.2.1, x0.2.2.2.2.2.2.2.2.2.2.2.2.1, x0.2.2.2.2.2.2.2.2.2.2.2.2.2.1, x0.2.2.2.2.2.2.2.2.2.2.2.2.2.2.1, x0.2.2.2.2.2.2.2.2.2.2.2.2.2.2.2.1, x0.2.2.2.2.2.2.2.2.2.2.2.2.2.2.2.2.1, x0.2.2.2.2.2.2.2.2.2.2.2.2.2.2.2.2.2.1, x0.2.2.2.2.2.2.2.2.2.2.2.2.2.2.2.2.2.2.1, x0.2.2.2.2.2.2.2.2.2.2.2.2.2.2.2.2.2.2.2.1, x0.2.2.2.2.2.2.2.2.2.2.2.2.2.2.2.2.2.2.2.2, x1)
abbrev p3_0 (x : D3) : TAnswer := (x.1, x.2.1, x.2.2.1, x.2.2.2.1, x.2.2.2.2.1, x.2.2.2.2.2.1, x.2.2.2.2.2.2.1, x.2.2.2.2.2.2.2.1, x.2.2.2.2.2.2.2.2.1, x.2.2.2.2.2.2.2.2.2.1, x.2.2.2.2.2.2.2.2.2.2.1, x.2.2.2.2.2.2.2.2.2.2.2.1, x.2.2.2.2.2.2.2.2.2.2.2.2.1, x.2.2.2.2.2.2.2.2.2.2.2.2.2.1, x.2.2.2.2.2.2.2.2.2.2.2.2.2.2.1, x.2.2.2.2.2.2.2.2.2.2.2.2.2.2.2.1, x.2.2.2.2.2.2.2.2.2.2.2.2.2.2.2.2.1, x.2.2.2.2.2.2.2.2.2.2.2.2.2.2.2.2.2.1, x.2.2.2.2.2.2.2.2.2.2.2.2.2.2.2.2.2.2.1, x.2.2.2.2.2.2.2.2.2.2.2.2.2.2.2.2.2.2.2.1, x.2.2.2.2.2.2.2.2.2.2.2.2.2.2.2.2.2.2.2.2.1)
abbrev p3_1 (x : D3) : Int := x.2.2.2.2.2.2.2.2.2.2.2.2.2.2.2.2.2.2.2.2.2
abbrev D4 : Type := Int × Int × Int × Int × Int × Int × Int × Int × List Int × Int × List Int × Int × Int × List Int × Int × Bool
abbrev A4 : ETy := eHead
abbrev fl4 (x0 : THead) : D4 := (x0.1, x0.2.1, x0.2.2.1, x0.2.2.2.1, x0.2.2.2.2.1, x0.2.2.2.2.2.1, x0.2.2.2.2.2.2.1, x0.2.2.2.2.2.2.2.1, x0.2.2.2.2.2.2.2.2.1, x0.2.2.2.2.2.2.2.2.2.1, x0.2.2.2.2.2.2.2.2.2.2.1, x0.2.2.2.2.2.2.2.2.2.2.2.1, x0.2.2.2.2.2.2.2.2.2.2.2.2.1, x0.2.2.2.2.2.2.2.2.2.2.2.2.2.1, x0.2.2.2.2.2.2.2.2.2.2.2.2.2.2.1, x0.2.2.2.2.2.2.2.2.2.2.2.2.2.2.2)
abbrev p4_0 (x : D4) : THead := x
abbrev D5 : Type := Int × Int × Int × Int × Int × Int × Int × Int × List Int × Int × List Int × Int × Int × List Int × Int × Bool × List TSig
abbrev A5 : ETy := eSigned
abbrev fl5 (x0 : TSigned) : D5 := (x0.1, x0.2.1, x0.2.2.1, x0.2.2.2.1, x0.2.2.2.2.1, x0.2.2.2.2.2.1, x0.2.2.2.2.2.2.1, x0.2.2.2.2.2.2.2.1, x0.2.2.2.2.2.2.2.2.1, x0.2.2.2.2.2.2.2.2.2.1, x0.2.2.2.2.2.2.2.2.2.2.1, x0.2.2.2.2.2.2.2.2.2.2.2.1, x0.2.2.2.2.2.2.2.2.2.2.2.2.1, x0.2.2.2.2.2.2.2.2.2.2.2.2.2.1, x0.2.2.2.2.2.2.2.2.2.2.2.2.2.2.1, x0.2.2.2.2.2.2.2.2.2.2.2.2.2.2.2.1, x0.2.2.2.2.2.2.2.2.2.2.2.2.2.2.2.2)
abbrev p5_0 (x : D5) : TSigned := x
abbrev D6 : Type := Int × ByteArray × Int × Int × List ByteArray × ByteArray × Int × Int × List ByteArray × Int × List Int × Int × List Int
abbrev A6 : ETy := eGap
abbrev fl6 (x0 : TGap) : D6 := (x0.1, x0.2.1, x0.2.2.1, x0.2.2.2.1, x0.2.2.2.2.1, x0.2.2.2.2.2.1, x0.2.2.2.2.2.2.1, x0.2.2.2.2.2.2.2.1, x0.2.2.2.2.2.2.2.2.1, x0.2.2.2.2.2.2.2.2.2.1, x0.2.2.2.2.2.2.2.2.2.2.1, x0.2.2.2.2.2.2.2.2.2.2.2.1, x0.2.2.2.2.2.2.2.2.2.2.2.2)
abbrev p6_0 (x : D6) : TGap := x
abbrev D7 : Type := List TSigned × Bool × ByteArray × Int × Int × List ByteArray × Int × List Int × Int × ByteArray × Int × Int × List ByteArray × ByteArray × Int × Int × List ByteArray × Int × List Int × Int × List Int
abbrev A7 : ETy := eAnswer
abbrev fl7 (x0 : TAnswer) : D7 := (x0.1, x0.2.1, x0.2.2.1, x0.2.2.2.1, x0.2.2.2.2.1, x0.2.2.2.2.2.1, x0.2.2.2.2.2.2.1, x0.2.2.2.2.2.2.2.1, x0.2.2.2.2.2.2.2.2.1, x0.2.2.2.2.2.2.2.2.2.1, x0.2.2.2.2.2.2.2.2.2.2.1, x0.2.2.2.2.2.2.2.2.2.2.2.1, x0.2.2.2.2.2.2.2.2.2.2.2.2.1, x0.2.2.2.2.2.2.2.2.2.2.2.2.2.1, x0.2.2.2.2.2.2.2.2.2.2.2.2.2.2.1, x0.2.2.2.2.2.2.2.2.2.2.2.2.2.2.2.1, x0.2.2.2.2.2.2.2.2.2.2.2.2.2.2.2.2.1, x0.2.2.2.2.2.2.2.2.2.2.2.2.2.2.2.2.2.1, x0.2.2.2.2.2.2.2.2.2.2.2.2.2.2.2.2.2.2.1, x0.2.2.2.2.2.2.2.2.2.2.2.2.2.2.2.2.2.2.2.1, x0.2.2.2.2.2.2.2.2.2.2.2.2.2.2.2.2.2.2.2.2)
abbrev p7_0 (x : D7) : TAnswer := x
abbrev D8 : Type := Int × Int × Int × Int × Int × Int × Int × Int × List Int × Int × List Int × Int × Int × List Int × Int × Bool × Int × Int × Int × Int × Int × Int × Int × Int × List Int × Int × List Int × Int × Int × List Int × Int × Bool
abbrev A8 : ETy := (.cons (.int .i64) (.cons (.int .i64) (.cons (.int .i64) (.cons (.int .i64) (.cons (.int .i64) (.cons (.int .i64) (.cons (.int .i64) (.cons (.int .i64) (.cons (.sl (.cons (.int .i64) .nil)) (.cons (.int .i64) (.cons (.sl (.cons (.int .i64) .nil)) (.cons (.int .i64) (.cons (.int .i64) (.cons (.sl (.cons (.int .i64) .nil)) (.cons (.int .i64) (.cons .bool (.cons (.int .i64) (.cons (.int .i64) (.cons (.int .i64) (.cons (.int .i64) (.cons (.int .i64) (.cons (.int .i64) (.cons (.int .i64) (.cons (.int .i64) (.cons (.sl (.cons (.int .i64) .nil)) (.cons (.int .i64) (.cons (.sl (.cons (.int .i64) .nil)) (.cons (.int .i64) (.cons (.int .i64) (.cons (.sl (.cons (.int .i64) .nil)) (.cons (.int .i64) (.cons .bool .nil))))))))))))))))))))))))))))))))
abbrev fl8 (x0 : THead) (x1 : THead) : D8 := (x0.1, x0.2.1, x0.2.2.1, x0.2.2.2.1, x0.2.2.2.2.1, x0.2.2.2.2.2.1, x0.2.2.2.2.2.2.1, x0.2.2.2.2.2.2.2.1, x0.2.2.2.2.2.2.2.2.1, x0.2.2.2.2.2.2.2.2.2.1, x0.2.2.2.2.2.2.2.2.2.2.1, x0.2.2.2.2.2.2.2.2.2.2.2.1, x0.2.2.2.2.2.2.2.2.2.2.2.2.1, x0.2.2.2.2.2.2.2.2.2.2.2.2.2.1, x0.2.2.2.2.2.2.2.2.2.2.2.2.2.2.1, x0.2.2.2.2.2.2.2.2.2.2.2.2.2.2.2, x1.1, x1.2.1, x1.2.2.1, x1.2.2.2.1, x1.2.2.2.2.1, x1.2.2.2.2.2.1, x1.2.2.2.2.2.2.1, x1.2.2.2.2.2.2.2.1, x1.2.2.2.2.2.2.2.2.1, x1.2.2.2.2.2.2.2.2.2.1, x1.2.2.2.2.2.2.2.2.2.2.1, x1.2.2.2.2.2.2.2.2.2.2.2.1, x1.2.2.2.2.2.2.2.2.2.2.2.2.1, x1.2.2.2.2.2.2.2.2.2.2.2.2.2.1, x1.2.2.2.2.2.2.2.2.2.2.2.2.2.2.1, x1.2.2.2.2.2.2.2.2.2.2.2.2.2.2.2)
abbrev p8_0 (x : D8) : THead := (x.1, x.2.1, x.2.2.1, x.2.2.2.1, x.2.2.2.2.1, x.2.2.2.2.2.1, x.2.2.2.2.2.2.1, x.2.2.2.2.2.2.2.1, x.2.2.2.2.2.2.2.2.1, x.2.2.2.2.2.2.2.2.2.1, x.2.2.2.2.2.2.2.2.2.2.1, x.2.2.2.2.2.2.2.2.2.2.2.1, x.2.2.2.2.2.2.2.2.2.2.2.2.1, x.2.2.2.2.2.2.2.2.2.2.2.2.2.1, x.2.2.2.2.2.2.2.2.2.2.2.2.2.2.1, x.2.2.2.2.2.2.2.2.2.2.2.2.2.2.2.1)
abbrev p8_1 (x : D8) : THead := x.2.2.2.2.2.2.2.2.2.2.2.2.2.2.2.2
abbrev D9 : Type := Int × Int × Int × Int × Int × Int × Int × Int × List Int × Int × List Int × Int × Int × List Int × Int × Bool × Int × Int × Int × Int × Int × Int × Int × Int × List Int × Int × List Int × Int × Int × List Int × Int × Bool × List TSig
abbrev A9 : ETy := (.cons (.int .i64) (.cons (.int .i64) (.cons (.int .i64) (.cons (.int .i64) (.cons (.int .i64) (.cons (.int .i64) (.cons (.int .i64) (.cons (.int .i64) (.cons (.sl (.cons (.int .i64) .nil)) (.cons (.int .i64) (.cons (.sl (.cons (.int .i64) .nil)) (.cons (.int .i64) (.cons (.int .i64) (.cons (.sl (.cons (.int .i64) .nil)) (.cons (.int .i64) (.cons .bool (.cons (.int .i64) (.cons (.int .i64) (.cons (.int .i64) (.cons (.int .i64) (.cons (.int .i64) (.cons (.int .i64) (.cons (.int .i64) (.cons (.int .i64) (.cons (.sl (.cons (.int .i64) .nil)) (.cons (.int .i64) (.cons (.sl (.cons (.int .i64) .nil)) (.cons (.int .i64) (.cons (.int .i64) (.cons (.sl (.cons (.int .i64) .nil)) (.cons (.int .i64) (.cons .bool (.cons (.sl (.cons (.int .i64) (.cons (.int .i64) .nil))) .nil)))))))))))))))))))))))))))))))))
abbrev fl9 (x0 : THead) (x1 : TSigned) : D9 := (x0.1, x0.2.1, x0.2.2.1, x0.2.2.2.1, x0.2.2.2.2.1, x0.2.2.2.2.2.1, x0.2.2.2.2.2.2.1, x0.2.2.2.2.2.2.2.1, x0.2.2.2.2.2.2.2.2.1, x0.2.2.2.2.2.2.2.2.2.1, x0.2.2.2.2.2.2.2.2.2.2.1, x0.2.2.2.2.2.2.2.2.2.2.2.1, x0.2.2.2.2.2.2.2.2.2.2.2.2.1, x0.2.2.2.2.2.2.2.2.2.2.2.2.2.1, x0.2.2.2.2.2.2.2.2.2.2.2.2.2.2.1, x0.2.2.2.2.2.2.2.2.2.2.2.2.2.2.2, x1.1, x1.2.1, x1.2.2.1, x1.2.2.2.1, x1.2.2.2.2.1, x1.2.2.2.2.2.1, x1.2.2.2.2.2.2.1, x1.2.2.2.2.2.2.2.1, x1.2.2.2.2.2.2.2.2.1, x1.2.2.2.2.2.2.2.2.2.1, x1.2.2.2.2.2.2.2.2.2.2.1, x1.2.2.2.2.2.2.2.2.2.2.2.1, x1.2.2.2.2.2.2.2.2.2.2.2.2.1, x1.2.2.2.2.2.2.2.2.2.2.2.2.2.1, x1.2.2.2.2.2.2.2.2.2.2.2.2.2.2.1, x1.2.2.2.2.2.2.2.2.2.2.2.2.2.2.2.1, x1.2.2.2.2.2.2.2.2.2.2.2.2.2.2.2.2)
abbrev p9_0 (x : D9) : THead := (x.1, x.2.1, x.2.2.1, x.2.2.2.1, x.2.2.2.2.1, x.2.2.2.2.2.1, x.2.2.2.2.2.2.1, x.2.2.2.2.2.2.2.1, x.2.2.2.2.2.2.2.2.1, x.2.2.2.2.2.2.2.2.2.1, x.2.2.2.2.2.2.2.2.2.2.1, x.2.2.2.2.2.2.2.2.2.2.2.1, x.2.2.2.2.2.2.2.2.2.2.2.2.1, x.2.2.2.2.2.2.2.2.2.2.2.2.2.1, x.2.2.2.2.2.2.2.2.2.2.2.2.2.2.1, x.2.2.2.2.2.2.2.2.2.2.2.2.2.2.2.1)
abbrev p9_1 (x : D9) : TSigned := x.2.2.2.2.2.2.2.2.2.2.2.2.2.2.2.2
abbrev D10 : Type := Int × ByteArray × Int × Int × List ByteArray × ByteArray × Int × Int × List ByteArray × Int × List Int × Int × List Int × Int × ByteArray × Int × Int × List ByteArray × ByteArray × Int × Int × List ByteArray × Int × List Int × Int × List Int
abbrev A10 : ETy := (.cons (.int .i64) (.cons .str (.cons (.int .i64) (.cons (.int .i64) (.cons (.sl (.cons .str .nil)) (.cons .str (.cons (.int .i64) (.cons (.int .i64) (.cons (.sl (.cons .str .nil)) (.cons (.int .i64) (.cons (.sl (.cons (.int .i64) .nil)) (.cons (.int .i64) (.cons (.sl (.cons (.int .i64) .nil)) (.cons (.int .i64) (.cons .str (.cons (.int .i64) (.cons (.int .i64) (.cons (.sl (.cons .str .nil)) (.cons .str (.cons (.int .i64) (.cons (.int .i64) (.cons (.sl (.cons .str .nil)) (.cons (.int .i64) (.cons (.sl (.cons (.int .i64) .nil)) (.cons (.int .i64) (.cons (.sl (.cons (.int .i64) .nil)) .nil))))))))))))))))))))))))))
abbrev fl10 (x0 : TGap) (x1 : TGap) : D10 := (x0.1, x0.2.1, x0.2.2.1, x0.2.2.2.1, x0.2.2.2.2.1, x0.2.2.2.2.2.1, x0.2.2.2.2.2.2.1, x0.2.2.2.2.2.2.2.1, x0.2.2.2.2.2.2.2.2.1, x0.2.2.2.2.2.2.2.2.2.1, x0.2.2.2.2.2.2.2.2.2.2.1, x0.2.2.2.2.2.2.2.2.2.2.2.1, x0.2.2.2.2.2.2.2.2.2.2.2.2, x1.1, x1.2.1, x1.2.2.1, x1.2.2.2.1, x1.2.2.2.2.1, x1.2.2.2.2.2.1, x1.2.2.2.2.2.2.1, x1.2.2.2.2.2.2.2.1, x1.2.2.2.2.2.2.2.2.1, x1.2.2.2.2.2.2.2.2.2.1, x1.2.2.2.2.2.2.2.2.2.2.1, x1.2.2.2.2.2.2.2.2.2.2.2.1, x1.2.2.2.2.2.2.2.2.2.2.2.2)
abbrev p10_0 (x : D10) : TGap := (x.1, x.2.1, x.2.2.1, x.2.2.2.1, x.2.2.2.2.1, x.2.2.2.2.2.1, x.2.2.2.2.2.2.1, x.2.2.2.2.2.2.2.1, x.2.2.2.2.2.2.2.2.1, x.2.2.2.2.2.2.2.2.2.1, x.2.2.2.2.2.2.2.2.2.2.1, x.2.2.2.2.2.2.2.2.2.2.2.1, x.2.2.2.2.2.2.2.2.2.2.2.2.1)
abbrev p10_1 (x : D10) : TGap := x.2.2.2.2.2.2.2.2.2.2.2.2.2
abbrev D11 : Type := Int × Int × ByteArray × Int × ByteArray × Int × Int × List ByteArray × ByteArray × Int × Int × List ByteArray × Int × List Int × Int × List Int
abbrev A11 : ETy := (.cons (.int .i64) (.cons (.int .i64) (.cons .str (.cons (.int .i64) (.cons .str (.cons (.int .i64) (.cons (.int .i64) (.cons (.sl (.cons .str .nil)) (.cons .str (.cons (.int .i64) (.cons (.int .i64) (.cons (.sl (.cons .str .nil)) (.cons (.int .i64) (.cons (.sl (.cons (.int .i64) .nil)) (.cons (.int .i64) (.cons (.sl (.cons (.int .i64) .nil)) .nil))))))))))))))))
abbrev fl11 (x0 : Int) (x1 : Int) (x2 : ByteArray) (x3 : TGap) : D11 := (x0, x1, x2, x3.1, x3.2.1, x3.2.2.1, x3.2.2.2.1, x3.2.2.2.2.1, x3.2.2.2.2.2.1, x3.2.2.2.2.2.2.1, x3.2.2.2.2.2.2.2.1, x3.2.2.2.2.2.2.2.2.1, x3.2.2.2.2.2.2.2.2.2.1, x3.2.2.2.2.2.2.2.2.2.2.1, x3.2.2.2.2.2.2.2.2.2.2.2.1, x3.2.2.2.2.2.2.2.2.2.2.2.2)
abbrev p11_0 (x : D11) : Int := x.1
abbrev p11_1 (x : D11) : Int := x.2.1
abbrev p11_2 (x : D11) : ByteArray := x.2.2.1
abbrev p11_3 (x : D11) : TGap := x.2.2.2
abbrev D12 : Type := Int × Int × Int × Int × Int × Int × Int × Int × List Int × Int × List Int × Int × Int × List Int × Int × Bool × ByteArray × List TSigned × Bool × ByteArray × Int × Int × List ByteArray × Int × List Int × Int × ByteArray × Int × Int × List ByteArray × ByteArray × Int × Int × List ByteArray × Int × List Int × Int × List Int
abbrev A12 : ETy := (.cons (.int .i64) (.cons (.int .i64) (.cons (.int .i64) (.cons (.int .i64) (.cons (.int .i64) (.cons (.int .i64) (.cons (.int .i64) (.cons (.int .i64) (.cons (.sl (.cons (.int .i64) .nil)) (.cons (.int .i64) (.cons (.sl (.cons (.int .i64) .nil)) (.cons (.int .i64) (.cons (.int .i64) (.cons (.sl (.cons (.int .i64) .nil)) (.cons (.int .i64) (.cons .bool (.cons .str (.cons (.sl eSigned) (.cons .bool (.cons .str (.cons (.int .i64) (.cons (.int .i64) (.cons (.sl (.cons .str .nil)) (.cons (.int .i64) (.cons (.sl (.cons (.int .i64) .nil)) (.cons (.int .i64) (.cons .str (.cons (.int .i64) (.cons (.int .i64) (.cons (.sl (.cons .str .nil)) (.cons .str (.cons (.int .i64) (.cons (.int .i64) (.cons (.sl (.cons .str .nil)) (.cons (.int .i64) (.cons (.sl (.cons (.int .i64) .nil)) (.cons (.int .i64) (.cons (.sl (.cons (.int .i64) .nil)) .nil))))))))))))))))))))))))))))))))))))))
abbrev fl12 (x0 : THead) (x1 : ByteArray) (x2 : TAnswer) : D12 := (x0.1, x0.2.1, x0.2.2.1, x0.2.2.2.1, x0.2.2.2.2.1, x0.2.2.2.2.2.1, x0.2.2.2.2.2.2.1, x0.2.2.2.2.2.2.2.1, x0.2.2.2.2.2.2.2.2.1, x0.2.2.2.2.2.2.2.2.2.1, x0.2.2.2.2.2.2.2.2.2.2.1, x0.2.2.2.2.2.2.2.2.2.2.2.1, x0.2.2.2.2.2.2.2.2.2.2.2.2.1, x0.2.2.2.2.2.2.2.2.2.2.2.2.2.1, x0.2.2.2.2.2.2.2.2.2.2.2.2.2.2.1, x0.2.2.2.2.2.2.2.2.2.2.2.2.2.2.2, x1, x2.1, x2.2.1, x2.2.2.1, x2.2.2.2.1, x2.2.2.2.2.1, x2.2.2.2.2.2.1, x2.2.2.2.2.2.2.1, x2.2.2.2.2.2.2.2.1, x2.2.2.2.2.2.2.2.2.1, x2.2.2.2.2.2.2.2.2.2.1, x2.2.2.2.2.2.2.2.2.2.2.1, x2.2.2.2.2.2.2.2.2.2.2.2.1, x2.2.2.2.2.2.2.2.2.2.2.2.2.1, x2.2.2.2.2.2.2.2.2.2.2.2.2.2.1, x2.2.2.2.2.2.2.2.2.2.2.2.2.2.2.1, x2.2.2.2.2.2.2.2.2.2.2.2.2.2.2.2.1, x2.2.2.2.2.2.2.2.2.2.2.2.2.2.2.2.2.1, x2.2.2.2.2.2.2.2.2.2.2.2.2.2.2.2.2.2.1, x2.2.2.2.2.2.2.2.2.2.2.2.2.2.2.2.2.2.2.1, x2.2.2.2.2.2.2.2.2.2.2.2.2.2.2.2.2.2.2.2.1, x2.2.2.2.2.2.2.2.2.2.2.2.2.2.2.2.2.2.2.2.2)
abbrev p12_0 (x : D12) : THead := (x.1, x.2.1, x.2.2.1, x.2.2.2.1, x.2.2.2.2.1, x.2.2.2.2.2.1, x.2.2.2.2.2.2.1, x.2.2.2.2.2.2.2.1, x.2.2.2.2.2.2.2.2.1, x.2.2.2.2.2.2.2.2.2.1, x.2.2.2.2.2.2.2.2.2.2.1, x.2.2.2.2.2.2.2.2.2.2.2.1, x.2.2.2.2.2.2.2.2.2.2.2.2.1, x.2.2.2.2.2.2.2.2.2.2.2.2.2.1, x.2.2.2.2.2.2.2.2.2.2.2.2.2.2.1, x.2.2.2.2.2.2.2.2.2.2.2.2.2.2.2.1)
abbrev p12_1 (x : D12) : ByteArray := x.2.2.2.2.2.2.2.2.2.2.2.2.2.2.2.2.1
abbrev p12_2 (x : D12) : TAnswer := x.2.2.2.2.2.2.2.2.2.2.2.2.2.2.2.2.2
abbrev D13 : Type := Int × ByteArray × List TSigned × Bool × ByteArray × Int × Int × List ByteArray × Int × List Int × Int × ByteArray × Int × Int × List ByteArray × ByteArray × Int × Int × List ByteArray × Int × List Int × Int × List Int × Int
abbrev A13 : ETy := (.cons (.int .i64) (.cons .str (.cons (.sl eSigned) (.cons .bool (.cons .str (.cons (.int .i64) (.cons (.int .i64) (.cons (.sl (.cons .str .nil)) (.cons (.int .i64) (.cons (.sl (.cons (.int .i64) .nil)) (.cons (.int .i64) (.cons .str (.cons (.int .i64) (.cons (.int .i64) (.cons (.sl (.cons .str .nil)) (.cons .str (.cons (.int .i64) (.cons (.int .i64) (.cons (.sl (.cons .str .nil)) (.cons (.int .i64) (.cons (.sl (.cons (.int .i64) .nil)) (.cons (.int .i64) (.cons (.sl (.cons (.int .i64) .nil)) (.cons (.int .i64) .nil))))))))))))))))))))))))
abbrev fl13 (x0 : Int) (x1 : ByteArray) (x2 : TAnswer) (x3 : Int) : D13 := (x0, x1, x2.1, x2.2.1, x2.2.2.1, x2.2.2.2.1, x2.2.2.2.2.1, x2.2.2.2.2.2.1, x2.2.2.2.2.2.2.1, x2.2.2.2.2.2.2.2.1, x2.2.2.2.2.2.2.2.2.1, x2.2.2.2.2.2.2.2.2.2.1, x2.2.2.2.2.2.2.2.2.2.2.1, x2.2.2.2.2.2.2.2.2.2.2.2.1, x2.2.2.2.2.2.2.2.2.2.2.2.2.1, x2.2.2.2.2.2.2.2.2.2.2.2.2.2.1, x2.2.2.2.2.2.2.2.2.2.2.2.2.2.2.1, x2.2.2.2.2.2.2.2.2.2.2.2.2.2.2.2.1, x2.2.2.2.2.2.2.2.2.2.2.2.2.2.2.2.2.1, x2.2.2.2.2.2.2.2.2.2.2.2.2.2.2.2.2.2.1, x2.2.2.2.2.2.2.2.2.2.2.2.2.2.2.2.2.2.2.1, x2.2.2.2.2.2.2.2.2.2.2.2.2.2.2.2.2.2.2.2.1, x2.2.2.2.2.2.2.2.2.2.2.2.2.2.2.2.2.2.2.2.2, x3)
abbrev p13_0 (x : D13) : Int := x.1
abbrev p13_1 (x : D13) : ByteArray := x.2.1
abbrev p13_2 (x : D13) : TAnswer := (x.2.2.1, x.2.2.2.1, x.2.2.2.2.1, x.2.2.2.2.2.1, x.2.2.2.2.2.2.1, x.2.2.2.2.2.2.2.1, x.2.2.2.2.2.2.2.2.1, x.2.2.2.2.2.2.2.2.2.1, x.2.2.2.2.2.2.2.2.2.2.1, x.2.2.2.2.2.2.2.2.2.2.2.1, x.2.2.2.2.2.2.2.2.2.2.2.2.1, x.2.2.2.2.2.2.2.2.2.2.2.2.2.1, x.2.2.2.2.2.2.2.2.2.2.2.2.2.2.1, x.2.2.2.2.2.2.2.2.2.2.2.2.2.2.2.1, x.2.2.2.2.2.2.2.2.2.2.2.2.2.2.2.2.1, x.2.2.2.2.2.2.2.2.2.2.2.2.2.2.2.2.2.1, x.2.2.2.2.2.2.2.2.2.2.2.2.2.2.2.2.2.2.1, x.2.2.2.2.2.2.2.2.2.2.2.2.2.2.2.2.2.2.2.1, x.2.2.2.2.2.2.2.2.2.2.2.2.2.2.2.2.2.2.2.2.1, x.2.2.2.2.2.2.2.2.2.2.2.2.2.2.2.2.2.2.2.2.2.1, x.2.2.2.2.2.2.2.2.2.2.2.2.2.2.2.2.2.2.2.2.2.2.1)
abbrev p13_3 (x : D13) : Int := x.2.2.2.2.2.2.2.2.2.2.2.2.2.2.2.2.2.2.2.2.2.2.2
abbrev D14 : Type := Int × Int × Int × Int × Int × Int × Int × Int × List Int × Int × List Int × Int × Int × List Int × Int × Bool × List TSig × List Int × Int
abbrev A14 : ETy := (.cons (.int .i64) (.cons (.int .i64) (.cons (.int .i64) (.cons (.int .i64) (.cons (.int .i64) (.cons (.int .i64) (.cons (.int .i64) (.cons (.int .i64) (.cons (.sl (.cons (.int .i64) .nil)) (.cons (.int .i64) (.cons (.sl (.cons (.int .i64) .nil)) (.cons (.int .i64) (.cons (.int .i64) (.cons (.sl (.cons (.int .i64) .nil)) (.cons (.int .i64) (.cons .bool (.cons (.sl (.cons (.int .i64) (.cons (.int .i64) .nil))) (.cons (.sl (.cons (.int .i64) .nil)) (.cons (.int .i64) .nil)))))))))))))))))))
abbrev fl14 (x0 : TSigned) (x1 : TKeys) : D14 := (x0.1, x0.2.1, x0.2.2.1, x0.2.2.2.1, x0.2.2.2.2.1, x0.2.2.2.2.2.1, x0.2.2.2.2.2.2.1, x0.2.2.2.2.2.2.2.1, x0.2.2.2.2.2.2.2.2.1, x0.2.2.2.2.2.2.2.2.2.1, x0.2.2.2.2.2.2.2.2.2.2.1, x0.2.2.2.2.2.2.2.2.2.2.2.1, x0.2.2.2.2.2.2.2.2.2.2.2.2.1, x0.2.2.2.2.2.2.2.2.2.2.2.2.2.1, x0.2.2.2.2.2.2.2.2.2.2.2.2.2.2.1, x0.2.2.2.2.2.2.2.2.2.2.2.2.2.2.2.1, x0.2.2.2.2.2.2.2.2.2.2.2.2.2.2.2.2, x1.1, x1.2)
abbrev p14_0 (x : D14) : TSigned := (x.1, x.2.1, x.2.2.1, x.2.2.2.1, x.2.2.2.2.1, x.2.2.2.2.2.1, x.2.2.2.2.2.2.1, x.2.2.2.2.2.2.2.1, x.2.2.2.2.2.2.2.2.1, x.2.2.2.2.2.2.2.2.2.1, x.2.2.2.2.2.2.2.2.2.2.1, x.2.2.2.2.2.2.2.2.2.2.2.1, x.2.2.2.2.2.2.2.2.2.2.2.2.1, x.2.2.2.2.2.2.2.2.2.2.2.2.2.1, x.2.2.2.2.2.2.2.2.2.2.2.2.2.2.1, x.2.2.2.2.2.2.2.2.2.2.2.2.2.2.2.1, x.2.2.2.2.2.2.2.2.2.2.2.2.2.2.2.2.1)
abbrev p14_1 (x : D14) : TKeys := x.2.2.2.2.2.2.2.2.2.2.2.2.2.2.2.2.2
abbrev D15 : Type := Int × Int × Int × Int × Int × Int × Int × Int × List Int × Int × List Int × Int × Int × List Int × Int × Bool × List TSig × Int × Int × Int × Int × Int × Int × Int × Int × List Int × Int × List Int × Int × Int × List Int × Int × Bool × List TSig
abbrev A15 : ETy := (.cons (.int .i64) (.cons (.int .i64) (.cons (.int .i64) (.cons (.int .i64) (.cons (.int .i64) (.cons (.int .i64) (.cons (.int .i64) (.cons (.int .i64) (.cons (.sl (.cons (.int .i64) .nil)) (.cons (.int .i64) (.cons (.sl (.cons (.int .i64) .nil)) (.cons (.int .i64) (.cons (.int .i64) (.cons (.sl (.cons (.int .i64) .nil)) (.cons (.int .i64) (.cons .bool (.cons (.sl (.cons (.int .i64) (.cons (.int .i64) .nil))) (.cons (.int .i64) (.cons (.int .i64) (.cons (.int .i64) (.cons (.int .i64) (.cons (.int .i64) (.cons (.int .i64) (.cons (.int .i64) (.cons (.int .i64) (.cons (.sl (.cons (.int .i64) .nil)) (.cons (.int .i64) (.cons (.sl (.cons (.int .i64) .nil)) (.cons (.int .i64) (.cons (.int .i64) (.cons (.sl (.cons (.int .i64) .nil)) (.cons (.int .i64) (.cons .bool (.cons (.sl (.cons (.int .i64) (.cons (.int .i64) .nil))) .nil))))))))))))))))))))))))))))))))))
abbrev fl15 (x0 : TSigned) (x1 : TSigned) : D15 := (x0.1, x0.2.1, x0.2.2.1, x0.2.2.2.1, x0.2.2.2.2.1, x0.2.2.2.2.2.1, x0.2.2.2.2.2.2.1, x0.2.2.2.2.2.2.2.1, x0.2.2.2.2.2.2.2.2.1, x0.2.2.2.2.2.2.2.2.2.1, x0.2.2.2.2.2.2.2.2.2.2.1, x0.2.2.2.2.2.2.2.2.2.2.2.1, x0.2.2.2.2.2.2.2.2.2.2.2.2.1, x0.2.2.2.2.2.2.2.2.2.2.2.2.2.1, x0.2.2.2.2.2.2.2.2.2.2.2.2.2.2.1, x0.2.2.2.2.2.2.2.2.2.2.2.2.2.2.2.1, x0.2.2.2.2.2.2.2.2.2.2.2.2.2.2.2.2, x1.1, x1.2.1, x1.2.2.1, x1.2.2.2.1, x1.2.2.2.2.1, x1.2.2.2.2.2.1, x1.2.2.2.2.2.2.1, x1.2.2.2.2.2.2.2.1, x1.2.2.2.2.2.2.2.2.1, x1.2.2.2.2.2.2.2.2.2.1, x1.2.2.2.2.2.2.2.2.2.2.1, x1.2.2.2.2.2.2.2.2.2.2.2.1, x1.2.2.2.2.2.2.2.2.2.2.2.2.1, x1.2.2.2.2.2.2.2.2.2.2.2.2.2.1, x1.2.2.2.2.2.2.2.2.2.2.2.2.2.2.1, x1.2.2.2.2.2.2.2.2.2.2.2.2.2.2.2.1, x1.2.2.2.2.2.2.2.2.2.2.2.2.2.2.2.2)
abbrev p15_0 (x : D15) : TSigned := (x.1, x.2.1, x.2.2.1, x.2.2.2.1, x.2.2.2.2.1, x.2.2.2.2.2.1, x.2.2.2.2.2.2.1, x.2.2.2.2.2.2.2.1, x.2.2.2.2.2.2.2.2.1, x.2.2.2.2.2.2.2.2.2.1, x.2.2.2.2.2.2.2.2.2.2.1, x.2.2.2.2.2.2.2.2.2.2.2.1, x.2.2.2.2.2.2.2.2.2.2.2.2.1, x.2.2.2.2.2.2.2.2.2.2.2.2.2.1, x.2.2.2.2.2.2.2.2.2.2.2.2.2.2.1, x.2.2.2.2.2.2.2.2.2.2.2.2.2.2.2.1, x.2.2.2.2.2.2.2.2.2.2.2.2.2.2.2.2.1)
abbrev p15_1 (x : D15) : TSigned := x.2.2.2.2.2.2.2.2.2.2.2.2.2.2.2.2.2
abbrev D16 : Type := List TSigned × Bool × ByteArray × Int × Int × List ByteArray × Int × List Int × Int × ByteArray × Int × Int × List ByteArray × ByteArray × Int × Int × List ByteArray × Int × List Int × Int × List Int × List TSigned × Bool × ByteArray × Int × Int × List ByteArray × Int × List Int × Int × ByteArray × Int × Int × List ByteArray × ByteArray × Int × Int × List ByteArray × Int × List Int × Int × List Int
abbrev A16 : ETy := (.cons (.sl eSigned) (.cons .bool (.cons .str (.cons (.int .i64) (.cons (.int .i64) (.cons (.sl (.cons .str .nil)) (.cons (.int .i64) (.cons (.sl (.cons (.int .i64) .nil)) (.cons (.int .i64) (.cons .str (.cons (.int .i64) (.cons (.int .i64) (.cons (.sl (.cons .str .nil)) (.cons .str (.cons (.int .i64) (.cons (.int .i64) (.cons (.sl (.cons .str .nil)) (.cons (.int .i64) (.cons (.sl (.cons (.int .i64) .nil)) (.cons (.int .i64) (.cons (.sl (.cons (.int .i64) .nil)) (.cons (.sl eSigned) (.cons .bool (.cons .str (.cons (.int .i64) (.cons (.int .i64) (.cons (.sl (.cons .str .nil)) (.cons (.int .i64) (.cons (.sl (.cons (.int .i64) .nil)) (.cons (.int .i64) (.cons .str (.cons (.int .i64) (.cons (.int .i64) (.cons (.sl (.cons .str .nil)) (.cons .str (.cons (.int .i64) (.cons (.int .i64) (.cons (.sl (.cons .str .nil)) (.cons (.int .i64) (.cons (.sl (.cons (.int .i64) .nil)) (.cons (.int .i64) (.cons (.sl (.cons (.int .i64) .nil)) .nil))))))))))))))))))))))))))))))))))))))))))
abbrev fl16 (x0 : TAnswer) (x1 : TAnswer) : D16 := (x0.1, x0.2.1, x0.2.2.1, x0.2.2.2.1, x0.2.2.2.2.1, x0.2.2.2.2.2.1, x0.2.2.2.2.2.2.1, x0.2.2.2.2.2.2.2.1, x0.2.2.2.2.2.2.2.2.1, x0.2.2.2.2.2.2.2.2.2.1, x0.2.2.2.2.2.2.2.2.2.2.1, x0.2.2.2.2.2.2.2.2.2.2.2.1, x0.2.2.2.2.2.2.2.2.2.2.2.2.1, x0.2.2.2.2.2.2.2.2.2.2.2.2.2.1, x0.2.2.2.2.2.2.2.2.2.2.2.2.2.2.1, x0.2.2.2.2.2.2.2.2.2.2.2.2.2.2.2.1, x0.2.2.2.2.2.2.2.2.2.2.2.2.2.2.2.2.1, x0.2.2.2.2.2.2.2.2.2.2.2.2.2.2.2.2.2.1, x0.2.2.2.2.2.2.2.2.2.2.2.2.2.2.2.2.2.2.1, x0.2.2.2.2.2.2.2.2.2.2.2.2.2.2.2.2.2.2.2.1, x0.2.2.2.2.2.2.2.2.2.2.2.2.2.2.2.2.2.2.2.2, x1.1, x1.2.1, x1.2.2.1, x1.2.2.2.1, x1.2.2.2.2.1, x1.2.2.2.2.2.1, x1.2.2.2.2.2.2.1, x1.2.2.2.2.2.2.2.1, x1.2.2.2.2.2.2.2.2.1, x1.2.2.2.2.2.2.2.2.2.1, x1.2.2.2.2.2.2.2.2.2.2.1, x1.2.2.2.2.2.2.2.2.2.2.2.1, x1.2.2.2.2.2.2.2.2.2.2.2.2.1, x1.2.2.2.2.2.2.2.2.2.2.2.2.2.1, x1.2.2.2.2.2.2.2.2.2.2.2.2.2.2.1, x1.2.2.2.2.2.2.2.2.2.2.2.2.2.2.2.1, x1.2.2.2.2.2.2.2.2.2.2.2.2.2.2.2.2.1, x1.2.2.2.2.2.2.2.2.2.2.2.2.2.2.2.2.2.1, x1.2.2.2.2.2.2.2.2.2.2.2.2.2.2.2.2.2.2.1, x1.2.2.2.2.2.2.2.2.2.2.2.2.2.2.2.2.2.2.2.1, x1.2.2.2.2.2.2.2.2.2.2.2.2.2.2.2.2.2.2.2.2)
abbrev p16_0 (x : D16) : TAnswer := (x.1, x.2.1, x.2.2.1, x.2.2.2.1, x.2.2.2.2.1, x.2.2.2.2.2.1, x.2.2.2.2.2.2.1, x.2.2.2.2.2.2.2.1, x.2.2.2.2.2.2.2.2.1, x.2.2.2.2.2.2.2.2.2.1, x.2.2.2.2.2.2.2.2.2.2.1, x.2.2.2.2.2.2.2.2.2.2.2.1, x.2.2.2.2.2.2.2.2.2.2.2.2.1, x.2.2.2.2.2.2.2.2.2.2.2.2.2.1, x.2.2.2.2.2.2.2.2.2.2.2.2.2.2.1, x.2.2.2.2.2.2.2.2.2.2.2.2.2.2.2.1, x.2.2.2.2.2.2.2.2.2.2.2.2.2.2.2.2.1, x.2.2.2.2.2.2.2.2.2.2.2.2.2.2.2.2.2.1, x.2.2.2.2.2.2.2.2.2.2.2.2.2.2.2.2.2.2.1, x.2.2.2.2.2.2.2.2.2.2.2.2.2.2.2.2.2.2.2.1, x.2.2.2.2.2.2.2.2.2.2.2.2.2.2.2.2.2.2.2.2.1)
abbrev p16_1 (x : D16) : TAnswer := x.2.2.2.2.2.2.2.2.2.2.2.2.2.2.2.2.2.2.2.2.2
abbrev tys : List (Nat × TI) := [(3, ⟨.int .i64, false, [.val (.int .i64 (0 : Int))], 8, [], (.cons (.int .i64) .nil)⟩),
  (4, ⟨.bool, false, [.val (.bool false)], 1, [], (.cons .bool .nil)⟩),
  (5, ⟨.int .u8, false, [.val (.int .u8 (0 : Int))], 1, [], (.cons (.int .u8) .nil)⟩),
  (9, ⟨.str, false, [.val (.str (⟨#[]⟩ : ByteArray))], 16, [], (.cons .str .nil)⟩),
  (22, ⟨.sl 3, false, [.nil0], 24, [], (.cons (.sl (.cons (.int .i64) .nil)) .nil)⟩),
  (24, ⟨.st, false, [.nil0, .val (.int .i64 (0 : Int))], 32, [(0, 1, false), (1, 1, false)], (.cons (.sl (.cons (.int .i64) .nil)) (.cons (.int .i64) .nil))⟩),
  (26, ⟨.st, false, [.val (.int .i64 (0 : Int)), .val (.int .i64 (0 : Int)), .val (.int .i64 (0 : Int)), .val (.int .i64 (0 : Int)), .val (.int .i64 (0 : Int)), .val (.int .i64 (0 : Int)), .val (.int .i64 (0 : Int)), .val (.int .i64 (0 : Int)), .nil0, .val (.int .i64 (0 : Int)), .nil0, .val (.int .i64 (0 : Int)), .val (.int .i64 (0 : Int)), .nil0, .val (.int .i64 (0 : Int)), .val (.bool false)], 176, [(0, 1, false), (1, 1, false), (2, 1, false), (3, 1, false), (4, 1, false), (5, 1, false), (6, 1, false), (7, 1, false), (8, 2, true), (10, 2, true), (12, 1, false), (13, 2, true), (15, 1, false)], V.eHead⟩),
  (30, ⟨.st, false, [.nil0, .val (.int .i64 (0 : Int))], 32, [(0, 1, false), (1, 1, false)], (.cons (.sl (.cons (.int .i64) .nil)) (.cons (.int .i64) .nil))⟩),
  (32, ⟨.st, false, [.val (.int .i64 (0 : Int)), .val (.int .i64 (0 : Int)), .val (.int .i64 (0 : Int)), .val (.int .i64 (0 : Int)), .val (.int .i64 (0 : Int)), .val (.int .i64 (0 : Int)), .val (.int .i64 (0 : Int)), .val (.int .i64 (0 : Int)), .nil0, .val (.int .i64 (0 : Int)), .nil0, .val (.int .i64 (0 : Int)), .val (.int .i64 (0 : Int)), .nil0, .val (.int .i64 (0 : Int)), .val (.bool false)], 176, [(0, 1, false), (1, 1, false), (2, 1, false), (3, 1, false), (4, 1, false), (5, 1, false), (6, 1, false), (7, 1, false), (8, 2, true), (10, 2, true), (12, 1, false), (13, 2, true), (15, 1, false)], V.eHead⟩),
  (36, ⟨.sl 117, false, [.nil0], 24, [], (.cons (.sl V.eEntry) .nil)⟩),
  (43, ⟨.sl 154, false, [.nil0], 24, [], (.cons (.sl V.eSigned) .nil)⟩),
  (45, ⟨.sl 67, false, [.nil0], 24, [], (.cons (.sl (.cons (.int .i64) (.cons (.int .i64) .nil))) .nil)⟩),
  (47, ⟨.st, false, [.val (.int .i64 (0 : Int)), .val (.int .i64 (0 : Int)), .val (.int .i64 (0 : Int)), .val (.int .i64 (0 : Int)), .val (.int .i64 (0 : Int)), .val (.int .i64 (0 : Int)), .val (.int .i64 (0 : Int)), .val (.int .i64 (0 : Int)), .nil0, .val (.int .i64 (0 : Int)), .nil0, .val (.int .i64 (0 : Int)), .val (.int .i64 (0 : Int)), .nil0, .val (.int .i64 (0 : Int)), .val (.bool false), .nil0], 200, [(0, 16, true), (16, 1, false)], V.eSigned⟩),
  (52, ⟨.sl 47, false, [.nil0], 24, [], (.cons (.sl V.eSigned) .nil)⟩),
  (67, ⟨.st, true, [.val (.int .i64 (0 : Int)), .val (.int .i64 (0 : Int))], 16, [(0, 1, false), (1, 1, false)], (.cons (.int .i64) (.cons (.int .i64) .nil))⟩),
  (106, ⟨.sl 9, false, [.nil0], 24, [], (.cons (.sl (.cons .str .nil)) .nil)⟩),
  (108, ⟨.st, false, [.val (.str (⟨#[]⟩ : ByteArray)), .val (.int .i64 (0 : Int)), .val (.int .i64 (0 : Int)), .nil0], 56, [(0, 1, false), (1, 1, false), (2, 1, false), (3, 1, false)], V.eEntry⟩),
  (110, ⟨.st, false, [.val (.int .i64 (0 : Int)), .nil0], 32, [(0, 1, false), (1, 1, false)], (.cons (.int .i64) (.cons (.sl (.cons (.int .i64) .nil)) .nil))⟩),
  (112, ⟨.st, false, [.val (.int .i64 (0 : Int)), .val (.str (⟨#[]⟩ : ByteArray)), .val (.int .i64 (0 : Int)), .val (.int .i64 (0 : Int)), .nil0, .val (.str (⟨#[]⟩ : ByteArray)), .val (.int .i64 (0 : Int)), .val (.int .i64 (0 : Int)), .nil0, .val (.int .i64 (0 : Int)), .nil0, .val (.int .i64 (0 : Int)), .nil0], 184, [(0, 1, false), (1, 4, true), (5, 4, true), (9, 2, true), (11, 2, true)], V.eGap⟩),
  (114, ⟨.st, false, [.nil0, .val (.bool false), .val (.str (⟨#[]⟩ : ByteArray)), .val (.int .i64 (0 : Int)), .val (.int .i64 (0 : Int)), .nil0, .val (.int .i64 (0 : Int)), .nil0, .val (.int .i64 (0 : Int)), .val (.str (⟨#[]⟩ : ByteArray)), .val (.int .i64 (0 : Int)), .val (.int .i64 (0 : Int)), .nil0, .val (.str (⟨#[]⟩ : ByteArray)), .val (.int .i64 (0 : Int)), .val (.int .i64 (0 : Int)), .nil0, .val (.int .i64 (0 : Int)), .nil0, .val (.int .i64 (0 : Int)), .nil0], 304, [(0, 1, false), (1, 1, false), (2, 4, true), (6, 2, true), (8, 13, true)], V.eAnswer⟩),
  (117, ⟨.st, false, [.val (.str (⟨#[]⟩ : ByteArray)), .val (.int .i64 (0 : Int)), .val (.int .i64 (0 : Int)), .nil0], 56, [(0, 1, false), (1, 1, false), (2, 1, false), (3, 1, false)], V.eEntry⟩),
  (118, ⟨.st, false, [.val (.int .i64 (0 : Int)), .nil0], 32, [(0, 1, false), (1, 1, false)], (.cons (.int .i64) (.cons (.sl (.cons (.int .i64) .nil)) .nil))⟩),
  (120, ⟨.st, false, [.val (.int .i64 (0 : Int)), .val (.str (⟨#[]⟩ : ByteArray)), .val (.int .i64 (0 : Int)), .val (.int .i64 (0 : Int)), .nil0, .val (.str (⟨#[]⟩ : ByteArray)), .val (.int .i64 (0 : Int)), .val (.int .i64 (0 : Int)), .nil0, .val (.int .i64 (0 : Int)), .nil0, .val (.int .i64 (0 : Int)), .nil0], 184, [(0, 1, false), (1, 4, true), (5, 4, true), (9, 2, true), (11, 2, true)], V.eGap⟩),
  (122, ⟨.st, false, [.nil0, .val (.bool false), .val (.str (⟨#[]⟩ : ByteArray)), .val (.int .i64 (0 : Int)), .val (.int .i64 (0 : Int)), .nil0, .val (.int .i64 (0 : Int)), .nil0, .val (.int .i64 (0 : Int)), .val (.str (⟨#[]⟩ : ByteArray)), .val (.int .i64 (0 : Int)), .val (.int .i64 (0 : Int)), .nil0, .val (.str (⟨#[]⟩ : ByteArray)), .val (.int .i64 (0 : Int)), .val (.int .i64 (0 : Int)), .nil0, .val (.int .i64 (0 : Int)), .nil0, .val (.int .i64 (0 : Int)), .nil0], 304, [(0, 1, false), (1, 1, false), (2, 4, true), (6, 2, true), (8, 13, true)], V.eAnswer⟩),
  (152, ⟨.sl 248, false, [.nil0], 24, [], (.cons (.sl (.cons (.int .i64) (.cons (.int .i64) .nil))) .nil)⟩),
  (154, ⟨.st, false, [.val (.int .i64 (0 : Int)), .val (.int .i64 (0 : Int)), .val (.int .i64 (0 : Int)), .val (.int .i64 (0 : Int)), .val (.int .i64 (0 : Int)), .val (.int .i64 (0 : Int)), .val (.int .i64 (0 : Int)), .val (.int .i64 (0 : Int)), .nil0, .val (.int .i64 (0 : Int)), .nil0, .val (.int .i64 (0 : Int)), .val (.int .i64 (0 : Int)), .nil0, .val (.int .i64 (0 : Int)), .val (.bool false), .nil0], 200, [(0, 16, true), (16, 1, false)], V.eSigned⟩),
  (216, ⟨.sl 5, false, [.nil0], 24, [], (.cons (.sl (.cons (.int .u8) .nil)) .nil)⟩),
  (248, ⟨.st, true, [.val (.int .i64 (0 : Int)), .val (.int .i64 (0 : Int))], 16, [(0, 1, false), (1, 1, false)], (.cons (.int .i64) (.cons (.int .i64) .nil))⟩),
  (261, ⟨.sl 22, false, [.nil0], 24, [], (.cons (.sl (.cons (.sl (.cons (.int .i64) .nil)) .nil)) .nil)⟩)]
theorem tysOk : tyAll Tryz.prog tys = true := by kernel_rfl
theorem mixed : Tryz.prog.follows .mixedOrders = true := by kernel_rfl
theorem cfl {α : Type} {a b c : α} (e : a = b) (h : a = c) : b = c := e.symm.trans h
theorem fo {g : Nat} {fn : Func} {con : Con} {tab : List (Nat × Con)} {heads : List (Nat × List Nat × Cv)} {pre : List (Nat × Nat)} {shallow : List Nat} {movs flts : List (Nat × List Nat)} (h : TabOk Tryz.prog tab) (hf : Tryz.prog.funcs[g]? = some fn) (hq : (!(fn.name == "runtime.NumGoroutine") && (!fn.body.isNone && conOk con fn.ntmps)) = true) (hev : ∀ x y, con.f x = some y → evBody (mkE tys tab heads pre shallow movs flts) con fn x = some y) : Valid Tryz.prog g con := by
  simp only [Bool.and_eq_true, Bool.not_eq_true'] at hq
  exact body_ok (env_ok mixed tysOk h) hf hq.1 hq.2.1 hq.2.2 hev
theorem fo2 {g : Nat} {fn : Func} {con : Con} {tab tab2 : List (Nat × Con)} {sites : List Nat} {heads : List (Nat × List Nat × Cv)} {pre : List (Nat × Nat)} {shallow : List Nat} {movs flts : List (Nat × List Nat)} (h : TabOk Tryz.prog tab) (h2 : TabOk Tryz.prog tab2) (hf : Tryz.prog.funcs[g]? = some fn) (hq : (!(fn.name == "runtime.NumGoroutine") && (!fn.body.isNone && conOk con fn.ntmps)) = true) (hev : ∀ x y, con.f x = some y → evBody (mkE2 tys tab sites tab2 heads pre shallow movs flts) con fn x = some y) : Valid Tryz.prog g con := by
  simp only [Bool.and_eq_true, Bool.not_eq_true'] at hq
  exact body_ok (env_ok2 mixed tysOk h h2) hf hq.1 hq.2.1 hq.2.2 hev
end V
noncomputable abbrev laws_szIntS.con : V.Con := ⟨(.cons (.sl (.cons (.int .i64) .nil)) (.cons (.int .i64) .nil)), (.cons (.int .i64) .nil), fun (x : List Int × Int) => laws_szIntS x.1 x.2, [], [(false, 1), (false, 1)], [(false, 1)], [false], []⟩
noncomputable abbrev laws_szIntS.E : V.Env := V.mkE V.tys [] [] [] [] [] []
theorem laws_szIntS.eq (x0 : List Int) (x1 : Int) : V.evBody laws_szIntS.E laws_szIntS.con Tryz.f137 ((x0, x1) : List Int × Int) = laws_szIntS x0 x1 := by kernel_rfl
theorem laws_szIntS.ok : V.Valid Tryz.prog 137 laws_szIntS.con :=
  V.fo V.tab_nil Tryz.func137 (by kernel_rfl) (fun x y h => (show V.evBody laws_szIntS.E laws_szIntS.con Tryz.f137 x = _ from laws_szIntS.eq x.1 x.2).trans (V.cfl (by kernel_rfl) h))
noncomputable abbrev laws_szKeys.con : V.Con := ⟨(.cons (.sl (.cons (.int .i64) .nil)) (.cons (.int .i64) (.cons (.int .i64) .nil))), (.cons (.int .i64) .nil), fun (x : List Int × Int × Int) => laws_szKeys (x.1, x.2.1) x.2.2, [], [(true, 2), (false, 1)], [(false, 1)], [false], []⟩
noncomputable abbrev laws_szKeys.E : V.Env := V.mkE V.tys [(137, laws_szIntS.con)] [] [] [] [] []
theorem laws_szKeys.eq (x0 : TKeys) (x1 : Int) : V.evBody laws_szKeys.E laws_szKeys.con Tryz.f50 ((x0.1, x0.2, x1) : List Int × Int × Int) = laws_szKeys x0 x1 := by kernel_rfl
theorem laws_szKeys.ok : V.Valid Tryz.prog 50 laws_szKeys.con :=
  V.fo (V.tab_cons laws_szIntS.ok V.tab_nil) Tryz.func50 (by kernel_rfl) (fun x y h => (show V.evBody laws_szKeys.E laws_szKeys.con Tryz.f50 x = _ from laws_szKeys.eq (x.1, x.2.1) x.2.2).trans (V.cfl (by kernel_rfl) h))
noncomputable abbrev laws_szHead.con : V.Con := ⟨V.A0, (.cons (.int .i64) .nil), fun (x : V.D0) => laws_szHead (V.p0_0 x) (V.p0_1 x), [], [(true, 16), (false, 1)], [(false, 1)], [false], []⟩
noncomputable abbrev laws_szHead.E : V.Env := V.mkE V.tys [(50, laws_szKeys.con)] [] [] [] [] []
noncomputable abbrev laws_szHead.kt (x0 : THead) (x1 : Int) : V.Kt Int := V.ktOf laws_szHead.E laws_szHead.con Tryz.f15 (V.fl0 x0 x1)
noncomputable abbrev laws_szHead.s (x0 : THead) (x1 : Int) : V.St := ⟨[(0, .v true [.val (.int .i64 x0.1), .val (.int .i64 x0.2.1), .val (.int .i64 x0.2.2.1), .val (.int .i64 x0.2.2.2.1), .val (.int .i64 x0.2.2.2.2.1), .val (.int .i64 x0.2.2.2.2.2.1), .val (.int .i64 x0.2.2.2.2.2.2.1), .val (.int .i64 x0.2.2.2.2.2.2.2.1), .val (.sl (.cons (.int .i64) .nil) x0.2.2.2.2.2.2.2.2.1), .val (.int .i64 x0.2.2.2.2.2.2.2.2.2.1), .val (.sl (.cons (.int .i64) .nil) x0.2.2.2.2.2.2.2.2.2.2.1), .val (.int .i64 x0.2.2.2.2.2.2.2.2.2.2.2.1), .val (.int .i64 x0.2.2.2.2.2.2.2.2.2.2.2.2.1), .val (.sl (.cons (.int .i64) .nil) x0.2.2.2.2.2.2.2.2.2.2.2.2.2.1), .val (.int .i64 x0.2.2.2.2.2.2.2.2.2.2.2.2.2.2.1), .val (.bool x0.2.2.2.2.2.2.2.2.2.2.2.2.2.2.2)]), (1, .v false [.val (.int .i64 x1)])], []⟩
theorem laws_szHead.v0 (x0 : THead) (x1 : Int) : V.evBody laws_szHead.E laws_szHead.con Tryz.f15 (V.fl0 x0 x1) = V.evC laws_szHead.E Tryz.f15.ntmps (V.codeOf Tryz.f15) (laws_szHead.kt x0 x1) (laws_szHead.s x0 x1) := by kernel_rfl
theorem laws_szHead.v (x0 : THead) (x1 : Int) : V.evC laws_szHead.E Tryz.f15.ntmps (V.codeOf Tryz.f15) (laws_szHead.kt x0 x1) (laws_szHead.s x0 x1) = laws_szHead x0 x1 := by kernel_rfl
theorem laws_szHead.eq (x0 : THead) (x1 : Int) : V.evBody laws_szHead.E laws_szHead.con Tryz.f15 (V.fl0 x0 x1) = laws_szHead x0 x1 := (laws_szHead.v0 x0 x1).trans (laws_szHead.v x0 x1)
theorem laws_szHead.ok : V.Valid Tryz.prog 15 laws_szHead.con :=
  V.fo (V.tab_cons laws_szKeys.ok V.tab_nil) Tryz.func15 (by kernel_rfl) (fun x y h => (show V.evBody laws_szHead.E laws_szHead.con Tryz.f15 x = _ from laws_szHead.eq (V.p0_0 x) (V.p0_1 x)).trans (V.cfl (by kernel_rfl) h))
noncomputable abbrev laws_szSigS.con : V.Con := ⟨(.cons (.sl (.cons (.int .i64) (.cons (.int .i64) .nil))) (.cons (.int .i64) .nil)), (.cons (.int .i64) .nil), fun (x : List TSig × Int) => laws_szSigS x.1 x.2, [], [(false, 1), (false, 1)], [(false, 1)], [false], []⟩
noncomputable abbrev laws_szSigS.E : V.Env := V.mkE V.tys [] [] [] [] [] []
theorem laws_szSigS.eq (x0 : List TSig) (x1 : Int) : V.evBody laws_szSigS.E laws_szSigS.con Tryz.f202 ((x0, x1) : List TSig × Int) = laws_szSigS x0 x1 := by kernel_rfl
theorem laws_szSigS.ok : V.Valid Tryz.prog 202 laws_szSigS.con :=
  V.fo V.tab_nil Tryz.func202 (by kernel_rfl) (fun x y h => (show V.evBody laws_szSigS.E laws_szSigS.con Tryz.f202 x = _ from laws_szSigS.eq x.1 x.2).trans (V.cfl (by kernel_rfl) h))
noncomputable abbrev laws_szSigned.con : V.Con := ⟨V.A1, (.cons (.int .i64) .nil), fun (x : V.D1) => laws_szSigned (V.p1_0 x) (V.p1_1 x), [], [(true, 17), (false, 1)], [(false, 1)], [false], []⟩
noncomputable abbrev laws_szSigned.E : V.Env := V.mkE V.tys [(15, laws_szHead.con), (202, laws_szSigS.con)] [] [] [] [] []
noncomputable abbrev laws_szSigned.kt (x0 : TSigned) (x1 : Int) : V.Kt Int := V.ktOf laws_szSigned.E laws_szSigned.con Tryz.f98 (V.fl1 x0 x1)
noncomputable abbrev laws_szSigned.s (x0 : TSigned) (x1 : Int) : V.St := ⟨[(0, .v true [.val (.int .i64 x0.1), .val (.int .i64 x0.2.1), .val (.int .i64 x0.2.2.1), .val (.int .i64 x0.2.2.2.1), .val (.int .i64 x0.2.2.2.2.1), .val (.int .i64 x0.2.2.2.2.2.1), .val (.int .i64 x0.2.2.2.2.2.2.1), .val (.int .i64 x0.2.2.2.2.2.2.2.1), .val (.sl (.cons (.int .i64) .nil) x0.2.2.2.2.2.2.2.2.1), .val (.int .i64 x0.2.2.2.2.2.2.2.2.2.1), .val (.sl (.cons (.int .i64) .nil) x0.2.2.2.2.2.2.2.2.2.2.1), .val (.int .i64 x0.2.2.2.2.2.2.2.2.2.2.2.1), .val (.int .i64 x0.2.2.2.2.2.2.2.2.2.2.2.2.1), .val (.sl (.cons (.int .i64) .nil) x0.2.2.2.2.2.2.2.2.2.2.2.2.2.1), .val (.int .i64 x0.2.2.2.2.2.2.2.2.2.2.2.2.2.2.1), .val (.bool x0.2.2.2.2.2.2.2.2.2.2.2.2.2.2.2.1), .val (.sl (.cons (.int .i64) (.cons (.int .i64) .nil)) x0.2.2.2.2.2.2.2.2.2.2.2.2.2.2.2.2)]), (1, .v false [.val (.int .i64 x1)])], []⟩
theorem laws_szSigned.v0 (x0 : TSigned) (x1 : Int) : V.evBody laws_szSigned.E laws_szSigned.con Tryz.f98 (V.fl1 x0 x1) = V.evC laws_szSigned.E Tryz.f98.ntmps (V.codeOf Tryz.f98) (laws_szSigned.kt x0 x1) (laws_szSigned.s x0 x1) := by kernel_rfl
theorem laws_szSigned.v (x0 : TSigned) (x1 : Int) : V.evC laws_szSigned.E Tryz.f98.ntmps (V.codeOf Tryz.f98) (laws_szSigned.kt x0 x1) (laws_szSigned.s x0 x1) = laws_szSigned x0 x1 := by kernel_rfl
theorem laws_szSigned.eq (x0 : TSigned) (x1 : Int) : V.evBody laws_szSigned.E laws_szSigned.con Tryz.f98 (V.fl1 x0 x1) = laws_szSigned x0 x1 := (laws_szSigned.v0 x0 x1).trans (laws_szSigned.v x0 x1)
theorem laws_szSigned.ok : V.Valid Tryz.prog 98 laws_szSigned.con :=
  V.fo (V.tab_cons laws_szHead.ok (V.tab_cons laws_szSigS.ok V.tab_nil)) Tryz.func98 (by kernel_rfl) (fun x y h => (show V.evBody laws_szSigned.E laws_szSigned.con Tryz.f98 x = _ from laws_szSigned.eq (V.p1_0 x) (V.p1_1 x)).trans (V.cfl (by kernel_rfl) h))
noncomputable abbrev laws_szSignedS.con : V.Con := ⟨(.cons (.sl V.eSigned) (.cons (.int .i64) .nil)), (.cons (.int .i64) .nil), fun (x : List TSigned × Int) => laws_szSignedS x.1 x.2, [], [(false, 1), (false, 1)], [(false, 1)], [false], []⟩
noncomputable abbrev laws_szSignedS.E : V.Env := V.mkE V.tys [(98, laws_szSigned.con)] [(10, [0, 1, 5], [])] [] [] [] []
noncomputable abbrev laws_szSignedS.kt (x0 : List TSigned) (x1 : Int) : V.Kt Int := V.ktOf laws_szSignedS.E laws_szSignedS.con Tryz.f26 ((x0, x1) : List TSigned × Int)
noncomputable abbrev laws_szSignedS.s10 (x0 : List TSigned) (v10_1 : Int) (v10_2 : Int) : V.St := ⟨[(0, .v false [.val (.sl V.eSigned x0)]), (1, .v false [.val (.int .i64 v10_1)]), (5, .v false [.val (.int .i64 v10_2)])], []⟩
theorem laws_szSignedS.r10 (x0 : List TSigned) (x1 : Int) (R : V.St → Option Int) (v10_1 : Int) (v10_2 : Int) : V.loopF laws_szSignedS.E Tryz.f26.ntmps [1, 1, 1, 0, 1, 0] [] (V.codeOf Tryz.f26) (laws_szSignedS.kt x0 x1) R (laws_szSignedS.s10 x0 v10_1 v10_2) = laws_szSignedS.g10 x0 (fun v10_1 v10_2 => R (laws_szSignedS.s10 x0 v10_1 v10_2)) v10_1 v10_2 := by kernel_rfl
theorem laws_szSignedS.e10 (x0 : List TSigned) (x1 : Int) : ∀ (n : Nat) (v10_1 : Int) (v10_2 : Int), V.loopN (V.loopF laws_szSignedS.E Tryz.f26.ntmps [1, 1, 1, 0, 1, 0] [] (V.codeOf Tryz.f26) (laws_szSignedS.kt x0 x1)) n (laws_szSignedS.s10 x0 v10_1 v10_2) = laws_szSignedS.l10 x0 n v10_1 v10_2 := by
  intro n
  induction n with
  | zero => intros; rw [V.loopN_z]; rfl
  | succ n ih =>
    intro v10_1 v10_2
    rw [V.loopN_s, laws_szSignedS.r10]
    simp only [ih]
    first | exact (laws_szSignedS.u10 ..).symm | rfl
theorem laws_szSignedS.v (x0 : List TSigned) (x1 : Int) : V.evBody laws_szSignedS.E laws_szSignedS.con Tryz.f26 ((x0, x1) : List TSigned × Int) = laws_szSignedS.b x0 x1 (fun v10_1 v10_2 => V.loopN (V.loopF laws_szSignedS.E Tryz.f26.ntmps [1, 1, 1, 0, 1, 0] [] (V.codeOf Tryz.f26) (laws_szSignedS.kt x0 x1)) V.KK (laws_szSignedS.s10 x0 v10_1 v10_2)) := by kernel_rfl
theorem laws_szSignedS.eq (x0 : List TSigned) (x1 : Int) : V.evBody laws_szSignedS.E laws_szSignedS.con Tryz.f26 ((x0, x1) : List TSigned × Int) = laws_szSignedS x0 x1 := by
  rw [laws_szSignedS.v]
  simp only [laws_szSignedS.e10]
  rfl
theorem laws_szSignedS.ok : V.Valid Tryz.prog 26 laws_szSignedS.con :=
  V.fo (V.tab_cons laws_szSigned.ok V.tab_nil) Tryz.func26 (by kernel_rfl) (fun x y h => (show V.evBody laws_szSignedS.E laws_szSignedS.con Tryz.f26 x = _ from laws_szSignedS.eq x.1 x.2).trans (V.cfl (by kernel_rfl) h))
noncomputable abbrev laws_szStringS.con : V.Con := ⟨(.cons (.sl (.cons .str .nil)) (.cons (.int .i64) .nil)), (.cons (.int .i64) .nil), fun (x : List ByteArray × Int) => laws_szStringS x.1 x.2, [], [(false, 1), (false, 1)], [(false, 1)], [false], []⟩
noncomputable abbrev laws_szStringS.E : V.Env := V.mkE V.tys [] [(10, [0, 1, 5], [])] [] [] [] []
noncomputable abbrev laws_szStringS.kt (x0 : List ByteArray) (x1 : Int) : V.Kt Int := V.ktOf laws_szStringS.E laws_szStringS.con Tryz.f182 ((x0, x1) : List ByteArray × Int)
noncomputable abbrev laws_szStringS.s10 (x0 : List ByteArray) (v10_1 : Int) (v10_2 : Int) : V.St := ⟨[(0, .v false [.val (.sl (.cons .str .nil) x0)]), (1, .v false [.val (.int .i64 v10_1)]), (5, .v false [.val (.int .i64 v10_2)])], []⟩
theorem laws_szStringS.r10 (x0 : List ByteArray) (x1 : Int) (R : V.St → Option Int) (v10_1 : Int) (v10_2 : Int) : V.loopF laws_szStringS.E Tryz.f182.ntmps [1, 1, 1, 0, 1, 0] [] (V.codeOf Tryz.f182) (laws_szStringS.kt x0 x1) R (laws_szStringS.s10 x0 v10_1 v10_2) = laws_szStringS.g10 x0 (fun v10_1 v10_2 => R (laws_szStringS.s10 x0 v10_1 v10_2)) v10_1 v10_2 := by kernel_rfl
theorem laws_szStringS.e10 (x0 : List ByteArray) (x1 : Int) : ∀ (n : Nat) (v10_1 : Int) (v10_2 : Int), V.loopN (V.loopF laws_szStringS.E Tryz.f182.ntmps [1, 1, 1, 0, 1, 0] [] (V.codeOf Tryz.f182) (laws_szStringS.kt x0 x1)) n (laws_szStringS.s10 x0 v10_1 v10_2) = laws_szStringS.l10 x0 n v10_1 v10_2 := by
  intro n
  induction n with
  | zero => intros; rw [V.loopN_z]; rfl
  | succ n ih =>
    intro v10_1 v10_2
    rw [V.loopN_s, laws_szStringS.r10]
    simp only [ih]
    first | exact (laws_szStringS.u10 ..).symm | rfl
theorem laws_szStringS.v (x0 : List ByteArray) (x1 : Int) : V.evBody laws_szStringS.E laws_szStringS.con Tryz.f182 ((x0, x1) : List ByteArray × Int) = laws_szStringS.b x0 x1 (fun v10_1 v10_2 => V.loopN (V.loopF laws_szStringS.E Tryz.f182.ntmps [1, 1, 1, 0, 1, 0] [] (V.codeOf Tryz.f182) (laws_szStringS.kt x0 x1)) V.KK (laws_szStringS.s10 x0 v10_1 v10_2)) := by kernel_rfl
theorem laws_szStringS.eq (x0 : List ByteArray) (x1 : Int) : V.evBody laws_szStringS.E laws_szStringS.con Tryz.f182 ((x0, x1) : List ByteArray × Int) = laws_szStringS x0 x1 := by
  rw [laws_szStringS.v]
  simp only [laws_szStringS.e10]
  rfl
theorem laws_szStringS.ok : V.Valid Tryz.prog 182 laws_szStringS.con :=
  V.fo V.tab_nil Tryz.func182 (by kernel_rfl) (fun x y h => (show V.evBody laws_szStringS.E laws_szStringS.con Tryz.f182 x = _ from laws_szStringS.eq x.1 x.2).trans (V.cfl (by kernel_rfl) h))
noncomputable abbrev laws_szEntry.con : V.Con := ⟨(.cons .str (.cons (.int .i64) (.cons (.int .i64) (.cons (.sl (.cons .str .nil)) (.cons (.int .i64) .nil))))), (.cons (.int .i64) .nil), fun (x : ByteArray × Int × Int × List ByteArray × Int) => laws_szEntry (x.1, x.2.1, x.2.2.1, x.2.2.2.1) x.2.2.2.2, [], [(true, 4), (false, 1)], [(false, 1)], [false], []⟩
noncomputable abbrev laws_szEntry.E : V.Env := V.mkE V.tys [(182, laws_szStringS.con)] [] [] [] [] []
theorem laws_szEntry.eq (x0 : TEntry) (x1 : Int) : V.evBody laws_szEntry.E laws_szEntry.con Tryz.f85 ((x0.1, x0.2.1, x0.2.2.1, x0.2.2.2, x1) : ByteArray × Int × Int × List ByteArray × Int) = laws_szEntry x0 x1 := by kernel_rfl
theorem laws_szEntry.ok : V.Valid Tryz.prog 85 laws_szEntry.con :=
  V.fo (V.tab_cons laws_szStringS.ok V.tab_nil) Tryz.func85 (by kernel_rfl) (fun x y h => (show V.evBody laws_szEntry.E laws_szEntry.con Tryz.f85 x = _ from laws_szEntry.eq (x.1, x.2.1, x.2.2.1, x.2.2.2.1) x.2.2.2.2).trans (V.cfl (by kernel_rfl) h))
noncomputable abbrev laws_szProof.con : V.Con := ⟨(.cons (.int .i64) (.cons (.sl (.cons (.int .i64) .nil)) (.cons (.int .i64) .nil))), (.cons (.int .i64) .nil), fun (x : Int × List Int × Int) => laws_szProof (x.1, x.2.1) x.2.2, [], [(true, 2), (false, 1)], [(false, 1)], [false], []⟩
noncomputable abbrev laws_szProof.E : V.Env := V.mkE V.tys [(137, laws_szIntS.con)] [] [] [] [] []
theorem laws_szProof.eq (x0 : TProof) (x1 : Int) : V.evBody laws_szProof.E laws_szProof.con Tryz.f155 ((x0.1, x0.2, x1) : Int × List Int × Int) = laws_szProof x0 x1 := by kernel_rfl
theorem laws_szProof.ok : V.Valid Tryz.prog 155 laws_szProof.con :=
  V.fo (V.tab_cons laws_szIntS.ok V.tab_nil) Tryz.func155 (by kernel_rfl) (fun x y h => (show V.evBody laws_szProof.E laws_szProof.con Tryz.f155 x = _ from laws_szProof.eq (x.1, x.2.1) x.2.2).trans (V.cfl (by kernel_rfl) h))
noncomputable abbrev laws_szGap.con : V.Con := ⟨V.A2, (.cons (.int .i64) .nil), fun (x : V.D2) => laws_szGap (V.p2_0 x) (V.p2_1 x), [], [(true, 13), (false, 1)], [(false, 1)], [false], []⟩
noncomputable abbrev laws_szGap.E : V.Env := V.mkE V.tys [(85, laws_szEntry.con), (155, laws_szProof.con)] [] [] [] [] []
noncomputable abbrev laws_szGap.kt (x0 : TGap) (x1 : Int) : V.Kt Int := V.ktOf laws_szGap.E laws_szGap.con Tryz.f156 (V.fl2 x0 x1)
noncomputable abbrev laws_szGap.s (x0 : TGap) (x1 : Int) : V.St := ⟨[(0, .v true [.val (.int .i64 x0.1), .val (.str x0.2.1), .val (.int .i64 x0.2.2.1), .val (.int .i64 x0.2.2.2.1), .val (.sl (.cons .str .nil) x0.2.2.2.2.1), .val (.str x0.2.2.2.2.2.1), .val (.int .i64 x0.2.2.2.2.2.2.1), .val (.int .i64 x0.2.2.2.2.2.2.2.1), .val (.sl (.cons .str .nil) x0.2.2.2.2.2.2.2.2.1), .val (.int .i64 x0.2.2.2.2.2.2.2.2.2.1), .val (.sl (.cons (.int .i64) .nil) x0.2.2.2.2.2.2.2.2.2.2.1), .val (.int .i64 x0.2.2.2.2.2.2.2.2.2.2.2.1), .val (.sl (.cons (.int .i64) .nil) x0.2.2.2.2.2.2.2.2.2.2.2.2)]), (1, .v false [.val (.int .i64 x1)])], []⟩
theorem laws_szGap.v0 (x0 : TGap) (x1 : Int) : V.evBody laws_szGap.E laws_szGap.con Tryz.f156 (V.fl2 x0 x1) = V.evC laws_szGap.E Tryz.f156.ntmps (V.codeOf Tryz.f156) (laws_szGap.kt x0 x1) (laws_szGap.s x0 x1) := by kernel_rfl
theorem laws_szGap.v (x0 : TGap) (x1 : Int) : V.evC laws_szGap.E Tryz.f156.ntmps (V.codeOf Tryz.f156) (laws_szGap.kt x0 x1) (laws_szGap.s x0 x1) = laws_szGap x0 x1 := by kernel_rfl
theorem laws_szGap.eq (x0 : TGap) (x1 : Int) : V.evBody laws_szGap.E laws_szGap.con Tryz.f156 (V.fl2 x0 x1) = laws_szGap x0 x1 := (laws_szGap.v0 x0 x1).trans (laws_szGap.v x0 x1)
theorem laws_szGap.ok : V.Valid Tryz.prog 156 laws_szGap.con :=
  V.fo (V.tab_cons laws_szEntry.ok (V.tab_cons laws_szProof.ok V.tab_nil)) Tryz.func156 (by kernel_rfl) (fun x y h => (show V.evBody laws_szGap.E laws_szGap.con Tryz.f156 x = _ from laws_szGap.eq (V.p2_0 x) (V.p2_1 x)).trans (V.cfl (by kernel_rfl) h))
noncomputable abbrev laws_szAnswer.con : V.Con := ⟨V.A3, (.cons (.int .i64) .nil), fun (x : V.D3) => laws_szAnswer (V.p3_0 x) (V.p3_1 x), [], [(true, 21), (false, 1)], [(false, 1)], [false], []⟩
noncomputable abbrev laws_szAnswer.E : V.Env := V.mkE V.tys [(26, laws_szSignedS.con), (85, laws_szEntry.con), (155, laws_szProof.con), (156, laws_szGap.con)] [] [] [] [] []
noncomputable abbrev laws_szAnswer.kt (x0 : TAnswer) (x1 : Int) : V.Kt Int := V.ktOf laws_szAnswer.E laws_szAnswer.con Tryz.f65 (V.fl3 x0 x1)
noncomputable abbrev laws_szAnswer.s (x0 : TAnswer) (x1 : Int) : V.St := ⟨[(0, .v true [.val (.sl V.eSigned x0.1), .val (.bool x0.2.1), .val (.str x0.2.2.1), .val (.int .i64 x0.2.2.2.1), .val (.int .i64 x0.2.2.2.2.1), .val (.sl (.cons .str .nil) x0.2.2.2.2.2.1), .val (.int .i64 x0.2.2.2.2.2.2.1), .val (.sl (.cons (.int .i64) .nil) x0.2.2.2.2.2.2.2.1), .val (.int .i64 x0.2.2.2.2.2.2.2.2.1), .val (.str x0.2.2.2.2.2.2.2.2.2.1), .val (.int .i64 x0.2.2.2.2.2.2.2.2.2.2.1), .val (.int .i64 x0.2.2.2.2.2.2.2.2.2.2.2.1), .val (.sl (.cons .str .nil) x0.2.2.2.2.2.2.2.2.2.2.2.2.1), .val (.str x0.2.2.2.2.2.2.2.2.2.2.2.2.2.1), .val (.int .i64 x0.2.2.2.2.2.2.2.2.2.2.2.2.2.2.1), .val (.int .i64 x0.2.2.2.2.2.2.2.2.2.2.2.2.2.2.2.1), .val (.sl (.cons .str .nil) x0.2.2.2.2.2.2.2.2.2.2.2.2.2.2.2.2.1), .val (.int .i64 x0.2.2.2.2.2.2.2.2.2.2.2.2.2.2.2.2.2.1), .val (.sl (.cons (.int .i64) .nil) x0.2.2.2.2.2.2.2.2.2.2.2.2.2.2.2.2.2.2.1), .val (.int .i64 x0.2.2.2.2.2.2.2.2.2.2.2.2.2.2.2.2.2.2.2.1), .val (.sl (.cons (.int .i64) .nil) x0.2.2.2.2.2.2.2.2.2.2.2.2.2.2.2.2.2.2.2.2)]), (1, .v false [.val (.int .i64 x1)])], []⟩
theorem laws_szAnswer.v0 (x0 : TAnswer) (x1 : Int) : V.evBody laws_szAnswer.E laws_szAnswer.con Tryz.f65 (V.fl3 x0 x1) = V.evC laws_szAnswer.E Tryz.f65.ntmps (V.codeOf Tryz.f65) (laws_szAnswer.kt x0 x1) (laws_szAnswer.s x0 x1) := by kernel_rfl
theorem laws_szAnswer.v (x0 : TAnswer) (x1 : Int) : V.evC laws_szAnswer.E Tryz.f65.ntmps (V.codeOf Tryz.f65) (laws_szAnswer.kt x0 x1) (laws_szAnswer.s x0 x1) = laws_szAnswer x0 x1 := by kernel_rfl
theorem laws_szAnswer.eq (x0 : TAnswer) (x1 : Int) : V.evBody laws_szAnswer.E laws_szAnswer.con Tryz.f65 (V.fl3 x0 x1) = laws_szAnswer x0 x1 := (laws_szAnswer.v0 x0 x1).trans (laws_szAnswer.v x0 x1)
theorem laws_szAnswer.ok : V.Valid Tryz.prog 65 laws_szAnswer.con :=
  V.fo (V.tab_cons laws_szSignedS.ok (V.tab_cons laws_szEntry.ok (V.tab_cons laws_szProof.ok (V.tab_cons laws_szGap.ok V.tab_nil)))) Tryz.func65 (by kernel_rfl) (fun x y h => (show V.evBody laws_szAnswer.E laws_szAnswer.con Tryz.f65 x = _ from laws_szAnswer.eq (V.p3_0 x) (V.p3_1 x)).trans (V.cfl (by kernel_rfl) h))
noncomputable abbrev laws_toIntS.con : V.Con := ⟨(.cons (.sl (.cons (.int .i64) .nil)) .nil), (.cons (.sl (.cons (.int .i64) .nil)) .nil), fun (x : List Int) => laws_toIntS x, [], [(false, 1)], [(false, 1)], [true], []⟩
noncomputable abbrev laws_toIntS.E : V.Env := V.mkE V.tys [] [(6, [0, 3, 4], [])] [] [] [] []
noncomputable abbrev laws_toIntS.kt (x0 : List Int) : V.Kt (List Int) := V.ktOf laws_toIntS.E laws_toIntS.con Tryz.f77 ((x0) : List Int)
noncomputable abbrev laws_toIntS.s6 (x0 : List Int) (v6_1 : Int) (v6_2 : List Int) : V.St := ⟨[(0, .v false [.val (.sl (.cons (.int .i64) .nil) x0)]), (3, .v false [.ref 64000038400192]), (4, .v false [.val (.int .i64 v6_1)])], [(64000038400192, .row (.cons (.int .i64) .nil) true v6_2)]⟩
theorem laws_toIntS.r6 (x0 : List Int) (R : V.St → Option (List Int)) (v6_1 : Int) (v6_2 : List Int) : V.loopF laws_toIntS.E Tryz.f77.ntmps [1, 1, 0, 1, 0] [] (V.codeOf Tryz.f77) (laws_toIntS.kt x0) R (laws_toIntS.s6 x0 v6_1 v6_2) = laws_toIntS.g6 x0 (fun v6_1 v6_2 => R (laws_toIntS.s6 x0 v6_1 v6_2)) v6_1 v6_2 := by kernel_rfl
theorem laws_toIntS.e6 (x0 : List Int) : ∀ (n : Nat) (v6_1 : Int) (v6_2 : List Int), V.loopN (V.loopF laws_toIntS.E Tryz.f77.ntmps [1, 1, 0, 1, 0] [] (V.codeOf Tryz.f77) (laws_toIntS.kt x0)) n (laws_toIntS.s6 x0 v6_1 v6_2) = laws_toIntS.l6 x0 n v6_1 v6_2 := by
  intro n
  induction n with
  | zero => intros; rw [V.loopN_z]; rfl
  | succ n ih =>
    intro v6_1 v6_2
    rw [V.loopN_s, laws_toIntS.r6]
    simp only [ih]
    first | exact (laws_toIntS.u6 ..).symm | rfl
theorem laws_toIntS.v (x0 : List Int) : V.evBody laws_toIntS.E laws_toIntS.con Tryz.f77 ((x0) : List Int) = laws_toIntS.b x0 (fun v6_1 v6_2 => V.loopN (V.loopF laws_toIntS.E Tryz.f77.ntmps [1, 1, 0, 1, 0] [] (V.codeOf Tryz.f77) (laws_toIntS.kt x0)) V.KK (laws_toIntS.s6 x0 v6_1 v6_2)) := by kernel_rfl
theorem laws_toIntS.eq (x0 : List Int) : V.evBody laws_toIntS.E laws_toIntS.con Tryz.f77 ((x0) : List Int) = laws_toIntS x0 := by
  rw [laws_toIntS.v]
  simp only [laws_toIntS.e6]
  rfl
theorem laws_toIntS.ok : V.Valid Tryz.prog 77 laws_toIntS.con :=
  V.fo V.tab_nil Tryz.func77 (by kernel_rfl) (fun x y h => (show V.evBody laws_toIntS.E laws_toIntS.con Tryz.f77 x = _ from laws_toIntS.eq x).trans (V.cfl (by kernel_rfl) h))
noncomputable abbrev laws_toKeys.con : V.Con := ⟨(.cons (.sl (.cons (.int .i64) .nil)) (.cons (.int .i64) .nil)), (.cons (.sl (.cons (.int .i64) .nil)) (.cons (.int .i64) .nil)), fun (x : List Int × Int) => laws_toKeys x, [], [(true, 2)], [(true, 2)], [true, false], []⟩
noncomputable abbrev laws_toKeys.E : V.Env := V.mkE V.tys [(77, laws_toIntS.con)] [] [] [] [] []
theorem laws_toKeys.eq (x0 : TKeys) : V.evBody laws_toKeys.E laws_toKeys.con Tryz.f52 ((x0.1, x0.2) : List Int × Int) = laws_toKeys x0 := by kernel_rfl
theorem laws_toKeys.ok : V.Valid Tryz.prog 52 laws_toKeys.con :=
  V.fo (V.tab_cons laws_toIntS.ok V.tab_nil) Tryz.func52 (by kernel_rfl) (fun x y h => (show V.evBody laws_toKeys.E laws_toKeys.con Tryz.f52 x = _ from laws_toKeys.eq x).trans (V.cfl (by kernel_rfl) h))
noncomputable abbrev laws_toHead.con : V.Con := ⟨V.A4, V.eHead, fun (x : V.D4) => laws_toHead (V.p4_0 x), [], [(true, 16)], [(true, 16)], [false, false, false, false, false, false, false, false, true, false, true, false, false, true, false, false], []⟩
noncomputable abbrev laws_toHead.E : V.Env := V.mkE V.tys [(52, laws_toKeys.con)] [] [] [] [] []
noncomputable abbrev laws_toHead.kt (x0 : THead) : V.Kt THead := V.ktOf laws_toHead.E laws_toHead.con Tryz.f18 (V.fl4 x0)
noncomputable abbrev laws_toHead.s (x0 : THead) : V.St := ⟨[(0, .v true [.val (.int .i64 x0.1), .val (.int .i64 x0.2.1), .val (.int .i64 x0.2.2.1), .val (.int .i64 x0.2.2.2.1), .val (.int .i64 x0.2.2.2.2.1), .val (.int .i64 x0.2.2.2.2.2.1), .val (.int .i64 x0.2.2.2.2.2.2.1), .val (.int .i64 x0.2.2.2.2.2.2.2.1), .val (.sl (.cons (.int .i64) .nil) x0.2.2.2.2.2.2.2.2.1), .val (.int .i64 x0.2.2.2.2.2.2.2.2.2.1), .val (.sl (.cons (.int .i64) .nil) x0.2.2.2.2.2.2.2.2.2.2.1), .val (.int .i64 x0.2.2.2.2.2.2.2.2.2.2.2.1), .val (.int .i64 x0.2.2.2.2.2.2.2.2.2.2.2.2.1), .val (.sl (.cons (.int .i64) .nil) x0.2.2.2.2.2.2.2.2.2.2.2.2.2.1), .val (.int .i64 x0.2.2.2.2.2.2.2.2.2.2.2.2.2.2.1), .val (.bool x0.2.2.2.2.2.2.2.2.2.2.2.2.2.2.2)])], []⟩
theorem laws_toHead.v0 (x0 : THead) : V.evBody laws_toHead.E laws_toHead.con Tryz.f18 (V.fl4 x0) = V.evC laws_toHead.E Tryz.f18.ntmps (V.codeOf Tryz.f18) (laws_toHead.kt x0) (laws_toHead.s x0) := by kernel_rfl
theorem laws_toHead.v (x0 : THead) : V.evC laws_toHead.E Tryz.f18.ntmps (V.codeOf Tryz.f18) (laws_toHead.kt x0) (laws_toHead.s x0) = laws_toHead x0 := by kernel_rfl
theorem laws_toHead.eq (x0 : THead) : V.evBody laws_toHead.E laws_toHead.con Tryz.f18 (V.fl4 x0) = laws_toHead x0 := (laws_toHead.v0 x0).trans (laws_toHead.v x0)
theorem laws_toHead.ok : V.Valid Tryz.prog 18 laws_toHead.con :=
  V.fo (V.tab_cons laws_toKeys.ok V.tab_nil) Tryz.func18 (by kernel_rfl) (fun x y h => (show V.evBody laws_toHead.E laws_toHead.con Tryz.f18 x = _ from laws_toHead.eq (V.p4_0 x)).trans (V.cfl (by kernel_rfl) h))
noncomputable abbrev laws_toSig.con : V.Con := ⟨(.cons (.int .i64) (.cons (.int .i64) .nil)), (.cons (.int .i64) (.cons (.int .i64) .nil)), fun (x : Int × Int) => laws_toSig x, [], [(true, 2)], [(true, 2)], [false, false], []⟩
noncomputable abbrev laws_toSig.E : V.Env := V.mkE V.tys [] [] [] [] [] []
theorem laws_toSig.eq (x0 : TSig) : V.evBody laws_toSig.E laws_toSig.con Tryz.f267 ((x0.1, x0.2) : Int × Int) = laws_toSig x0 := by kernel_rfl
theorem laws_toSig.ok : V.Valid Tryz.prog 267 laws_toSig.con :=
  V.fo V.tab_nil Tryz.func267 (by kernel_rfl) (fun x y h => (show V.evBody laws_toSig.E laws_toSig.con Tryz.f267 x = _ from laws_toSig.eq x).trans (V.cfl (by kernel_rfl) h))
noncomputable abbrev laws_toSigS.con : V.Con := ⟨(.cons (.sl (.cons (.int .i64) (.cons (.int .i64) .nil))) .nil), (.cons (.sl (.cons (.int .i64) (.cons (.int .i64) .nil))) .nil), fun (x : List TSig) => laws_toSigS x, [], [(false, 1)], [(false, 1)], [true], []⟩
noncomputable abbrev laws_toSigS.E : V.Env := V.mkE V.tys [(267, laws_toSig.con)] [(6, [0, 3, 4], [])] [] [] [] []
noncomputable abbrev laws_toSigS.kt (x0 : List TSig) : V.Kt (List TSig) := V.ktOf laws_toSigS.E laws_toSigS.con Tryz.f206 ((x0) : List TSig)
noncomputable abbrev laws_toSigS.s6 (x0 : List TSig) (v6_1 : Int) (v6_2 : List TSig) : V.St := ⟨[(0, .v false [.val (.sl (.cons (.int .i64) (.cons (.int .i64) .nil)) x0)]), (3, .v false [.ref 64000038400192]), (4, .v false [.val (.int .i64 v6_1)])], [(64000038400192, .row (.cons (.int .i64) (.cons (.int .i64) .nil)) true v6_2)]⟩
theorem laws_toSigS.r6 (x0 : List TSig) (R : V.St → Option (List TSig)) (v6_1 : Int) (v6_2 : List TSig) : V.loopF laws_toSigS.E Tryz.f206.ntmps [1, 1, 0, 1, 0] [] (V.codeOf Tryz.f206) (laws_toSigS.kt x0) R (laws_toSigS.s6 x0 v6_1 v6_2) = laws_toSigS.g6 x0 (fun v6_1 v6_2 => R (laws_toSigS.s6 x0 v6_1 v6_2)) v6_1 v6_2 := by kernel_rfl
theorem laws_toSigS.e6 (x0 : List TSig) : ∀ (n : Nat) (v6_1 : Int) (v6_2 : List TSig), V.loopN (V.loopF laws_toSigS.E Tryz.f206.ntmps [1, 1, 0, 1, 0] [] (V.codeOf Tryz.f206) (laws_toSigS.kt x0)) n (laws_toSigS.s6 x0 v6_1 v6_2) = laws_toSigS.l6 x0 n v6_1 v6_2 := by
  intro n
  induction n with
  | zero => intros; rw [V.loopN_z]; rfl
  | succ n ih =>
    intro v6_1 v6_2
    rw [V.loopN_s, laws_toSigS.r6]
    simp only [ih]
    first | exact (laws_toSigS.u6 ..).symm | rfl
theorem laws_toSigS.v (x0 : List TSig) : V.evBody laws_toSigS.E laws_toSigS.con Tryz.f206 ((x0) : List TSig) = laws_toSigS.b x0 (fun v6_1 v6_2 => V.loopN (V.loopF laws_toSigS.E Tryz.f206.ntmps [1, 1, 0, 1, 0] [] (V.codeOf Tryz.f206) (laws_toSigS.kt x0)) V.KK (laws_toSigS.s6 x0 v6_1 v6_2)) := by kernel_rfl
theorem laws_toSigS.eq (x0 : List TSig) : V.evBody laws_toSigS.E laws_toSigS.con Tryz.f206 ((x0) : List TSig) = laws_toSigS x0 := by
  rw [laws_toSigS.v]
  simp only [laws_toSigS.e6]
  rfl
theorem laws_toSigS.ok : V.Valid Tryz.prog 206 laws_toSigS.con :=
  V.fo (V.tab_cons laws_toSig.ok V.tab_nil) Tryz.func206 (by kernel_rfl) (fun x y h => (show V.evBody laws_toSigS.E laws_toSigS.con Tryz.f206 x = _ from laws_toSigS.eq x).trans (V.cfl (by kernel_rfl) h))
noncomputable abbrev laws_toSigned.con : V.Con := ⟨V.A5, V.eSigned, fun (x : V.D5) => laws_toSigned (V.p5_0 x), [], [(true, 17)], [(true, 17)], [false, false, false, false, false, false, false, false, true, false, true, false, false, true, false, false, true], []⟩
noncomputable abbrev laws_toSigned.E : V.Env := V.mkE V.tys [(18, laws_toHead.con), (206, laws_toSigS.con)] [] [] [] [] []
noncomputable abbrev laws_toSigned.kt (x0 : TSigned) : V.Kt TSigned := V.ktOf laws_toSigned.E laws_toSigned.con Tryz.f103 (V.fl5 x0)
noncomputable abbrev laws_toSigned.s (x0 : TSigned) : V.St := ⟨[(0, .v true [.val (.int .i64 x0.1), .val (.int .i64 x0.2.1), .val (.int .i64 x0.2.2.1), .val (.int .i64 x0.2.2.2.1), .val (.int .i64 x0.2.2.2.2.1), .val (.int .i64 x0.2.2.2.2.2.1), .val (.int .i64 x0.2.2.2.2.2.2.1), .val (.int .i64 x0.2.2.2.2.2.2.2.1), .val (.sl (.cons (.int .i64) .nil) x0.2.2.2.2.2.2.2.2.1), .val (.int .i64 x0.2.2.2.2.2.2.2.2.2.1), .val (.sl (.cons (.int .i64) .nil) x0.2.2.2.2.2.2.2.2.2.2.1), .val (.int .i64 x0.2.2.2.2.2.2.2.2.2.2.2.1), .val (.int .i64 x0.2.2.2.2.2.2.2.2.2.2.2.2.1), .val (.sl (.cons (.int .i64) .nil) x0.2.2.2.2.2.2.2.2.2.2.2.2.2.1), .val (.int .i64 x0.2.2.2.2.2.2.2.2.2.2.2.2.2.2.1), .val (.bool x0.2.2.2.2.2.2.2.2.2.2.2.2.2.2.2.1), .val (.sl (.cons (.int .i64) (.cons (.int .i64) .nil)) x0.2.2.2.2.2.2.2.2.2.2.2.2.2.2.2.2)])], []⟩
theorem laws_toSigned.v0 (x0 : TSigned) : V.evBody laws_toSigned.E laws_toSigned.con Tryz.f103 (V.fl5 x0) = V.evC laws_toSigned.E Tryz.f103.ntmps (V.codeOf Tryz.f103) (laws_toSigned.kt x0) (laws_toSigned.s x0) := by kernel_rfl
theorem laws_toSigned.v (x0 : TSigned) : V.evC laws_toSigned.E Tryz.f103.ntmps (V.codeOf Tryz.f103) (laws_toSigned.kt x0) (laws_toSigned.s x0) = laws_toSigned x0 := by kernel_rfl
theorem laws_toSigned.eq (x0 : TSigned) : V.evBody laws_toSigned.E laws_toSigned.con Tryz.f103 (V.fl5 x0) = laws_toSigned x0 := (laws_toSigned.v0 x0).trans (laws_toSigned.v x0)
theorem laws_toSigned.ok : V.Valid Tryz.prog 103 laws_toSigned.con :=
  V.fo (V.tab_cons laws_toHead.ok (V.tab_cons laws_toSigS.ok V.tab_nil)) Tryz.func103 (by kernel_rfl) (fun x y h => (show V.evBody laws_toSigned.E laws_toSigned.con Tryz.f103 x = _ from laws_toSigned.eq (V.p5_0 x)).trans (V.cfl (by kernel_rfl) h))
noncomputable abbrev laws_toSignedS.con : V.Con := ⟨(.cons (.sl V.eSigned) .nil), (.cons (.sl V.eSigned) .nil), fun (x : List TSigned) => laws_toSignedS x, [], [(false, 1)], [(false, 1)], [true], []⟩
noncomputable abbrev laws_toSignedS.E : V.Env := V.mkE V.tys [(103, laws_toSigned.con)] [(6, [0, 3, 4], [])] [] [] [] []
noncomputable abbrev laws_toSignedS.kt (x0 : List TSigned) : V.Kt (List TSigned) := V.ktOf laws_toSignedS.E laws_toSignedS.con Tryz.f28 ((x0) : List TSigned)
noncomputable abbrev laws_toSignedS.s6 (x0 : List TSigned) (v6_1 : Int) (v6_2 : List TSigned) : V.St := ⟨[(0, .v false [.val (.sl V.eSigned x0)]), (3, .v false [.ref 64000038400192]), (4, .v false [.val (.int .i64 v6_1)])], [(64000038400192, .row V.eSigned true v6_2)]⟩
theorem laws_toSignedS.r6 (x0 : List TSigned) (R : V.St → Option (List TSigned)) (v6_1 : Int) (v6_2 : List TSigned) : V.loopF laws_toSignedS.E Tryz.f28.ntmps [1, 1, 0, 1, 0] [] (V.codeOf Tryz.f28) (laws_toSignedS.kt x0) R (laws_toSignedS.s6 x0 v6_1 v6_2) = laws_toSignedS.g6 x0 (fun v6_1 v6_2 => R (laws_toSignedS.s6 x0 v6_1 v6_2)) v6_1 v6_2 := by kernel_rfl
theorem laws_toSignedS.e6 (x0 : List TSigned) : ∀ (n : Nat) (v6_1 : Int) (v6_2 : List TSigned), V.loopN (V.loopF laws_toSignedS.E Tryz.f28.ntmps [1, 1, 0, 1, 0] [] (V.codeOf Tryz.f28) (laws_toSignedS.kt x0)) n (laws_toSignedS.s6 x0 v6_1 v6_2) = laws_toSignedS.l6 x0 n v6_1 v6_2 := by
  intro n
  induction n with
  | zero => intros; rw [V.loopN_z]; rfl
  | succ n ih =>
    intro v6_1 v6_2
    rw [V.loopN_s, laws_toSignedS.r6]
    simp only [ih]
    first | exact (laws_toSignedS.u6 ..).symm | rfl
theorem laws_toSignedS.v (x0 : List TSigned) : V.evBody laws_toSignedS.E laws_toSignedS.con Tryz.f28 ((x0) : List TSigned) = laws_toSignedS.b x0 (fun v6_1 v6_2 => V.loopN (V.loopF laws_toSignedS.E Tryz.f28.ntmps [1, 1, 0, 1, 0] [] (V.codeOf Tryz.f28) (laws_toSignedS.kt x0)) V.KK (laws_toSignedS.s6 x0 v6_1 v6_2)) := by kernel_rfl
theorem laws_toSignedS.eq (x0 : List TSigned) : V.evBody laws_toSignedS.E laws_toSignedS.con Tryz.f28 ((x0) : List TSigned) = laws_toSignedS x0 := by
  rw [laws_toSignedS.v]
  simp only [laws_toSignedS.e6]
  rfl
theorem laws_toSignedS.ok : V.Valid Tryz.prog 28 laws_toSignedS.con :=
  V.fo (V.tab_cons laws_toSigned.ok V.tab_nil) Tryz.func28 (by kernel_rfl) (fun x y h => (show V.evBody laws_toSignedS.E laws_toSignedS.con Tryz.f28 x = _ from laws_toSignedS.eq x).trans (V.cfl (by kernel_rfl) h))
noncomputable abbrev laws_toStringS.con : V.Con := ⟨(.cons (.sl (.cons .str .nil)) .nil), (.cons (.sl (.cons .str .nil)) .nil), fun (x : List ByteArray) => laws_toStringS x, [], [(false, 1)], [(false, 1)], [true], []⟩
noncomputable abbrev laws_toStringS.E : V.Env := V.mkE V.tys [] [(6, [0, 3, 4], [])] [] [] [] []
noncomputable abbrev laws_toStringS.kt (x0 : List ByteArray) : V.Kt (List ByteArray) := V.ktOf laws_toStringS.E laws_toStringS.con Tryz.f191 ((x0) : List ByteArray)
noncomputable abbrev laws_toStringS.s6 (x0 : List ByteArray) (v6_1 : Int) (v6_2 : List ByteArray) : V.St := ⟨[(0, .v false [.val (.sl (.cons .str .nil) x0)]), (3, .v false [.ref 64000038400192]), (4, .v false [.val (.int .i64 v6_1)])], [(64000038400192, .row (.cons .str .nil) true v6_2)]⟩
theorem laws_toStringS.r6 (x0 : List ByteArray) (R : V.St → Option (List ByteArray)) (v6_1 : Int) (v6_2 : List ByteArray) : V.loopF laws_toStringS.E Tryz.f191.ntmps [1, 1, 0, 1, 0] [] (V.codeOf Tryz.f191) (laws_toStringS.kt x0) R (laws_toStringS.s6 x0 v6_1 v6_2) = laws_toStringS.g6 x0 (fun v6_1 v6_2 => R (laws_toStringS.s6 x0 v6_1 v6_2)) v6_1 v6_2 := by kernel_rfl
theorem laws_toStringS.e6 (x0 : List ByteArray) : ∀ (n : Nat) (v6_1 : Int) (v6_2 : List ByteArray), V.loopN (V.loopF laws_toStringS.E Tryz.f191.ntmps [1, 1, 0, 1, 0] [] (V.codeOf Tryz.f191) (laws_toStringS.kt x0)) n (laws_toStringS.s6 x0 v6_1 v6_2) = laws_toStringS.l6 x0 n v6_1 v6_2 := by
  intro n
  induction n with
  | zero => intros; rw [V.loopN_z]; rfl
  | succ n ih =>
    intro v6_1 v6_2
    rw [V.loopN_s, laws_toStringS.r6]
    simp only [ih]
    first | exact (laws_toStringS.u6 ..).symm | rfl
theorem laws_toStringS.v (x0 : List ByteArray) : V.evBody laws_toStringS.E laws_toStringS.con Tryz.f191 ((x0) : List ByteArray) = laws_toStringS.b x0 (fun v6_1 v6_2 => V.loopN (V.loopF laws_toStringS.E Tryz.f191.ntmps [1, 1, 0, 1, 0] [] (V.codeOf Tryz.f191) (laws_toStringS.kt x0)) V.KK (laws_toStringS.s6 x0 v6_1 v6_2)) := by kernel_rfl
theorem laws_toStringS.eq (x0 : List ByteArray) : V.evBody laws_toStringS.E laws_toStringS.con Tryz.f191 ((x0) : List ByteArray) = laws_toStringS x0 := by
  rw [laws_toStringS.v]
  simp only [laws_toStringS.e6]
  rfl
theorem laws_toStringS.ok : V.Valid Tryz.prog 191 laws_toStringS.con :=
  V.fo V.tab_nil Tryz.func191 (by kernel_rfl) (fun x y h => (show V.evBody laws_toStringS.E laws_toStringS.con Tryz.f191 x = _ from laws_toStringS.eq x).trans (V.cfl (by kernel_rfl) h))
noncomputable abbrev laws_toEntry.con : V.Con := ⟨V.eEntry, V.eEntry, fun (x : ByteArray × Int × Int × List ByteArray) => laws_toEntry x, [], [(true, 4)], [(true, 4)], [false, false, false, true], []⟩
noncomputable abbrev laws_toEntry.E : V.Env := V.mkE V.tys [(191, laws_toStringS.con)] [] [] [] [] []
theorem laws_toEntry.eq (x0 : TEntry) : V.evBody laws_toEntry.E laws_toEntry.con Tryz.f90 ((x0.1, x0.2.1, x0.2.2.1, x0.2.2.2) : ByteArray × Int × Int × List ByteArray) = laws_toEntry x0 := by kernel_rfl
theorem laws_toEntry.ok : V.Valid Tryz.prog 90 laws_toEntry.con :=
  V.fo (V.tab_cons laws_toStringS.ok V.tab_nil) Tryz.func90 (by kernel_rfl) (fun x y h => (show V.evBody laws_toEntry.E laws_toEntry.con Tryz.f90 x = _ from laws_toEntry.eq x).trans (V.cfl (by kernel_rfl) h))
noncomputable abbrev laws_toProof.con : V.Con := ⟨(.cons (.int .i64) (.cons (.sl (.cons (.int .i64) .nil)) .nil)), (.cons (.int .i64) (.cons (.sl (.cons (.int .i64) .nil)) .nil)), fun (x : Int × List Int) => laws_toProof x, [], [(true, 2)], [(true, 2)], [false, true], []⟩
noncomputable abbrev laws_toProof.E : V.Env := V.mkE V.tys [(77, laws_toIntS.con)] [] [] [] [] []
theorem laws_toProof.eq (x0 : TProof) : V.evBody laws_toProof.E laws_toProof.con Tryz.f159 ((x0.1, x0.2) : Int × List Int) = laws_toProof x0 := by kernel_rfl
theorem laws_toProof.ok : V.Valid Tryz.prog 159 laws_toProof.con :=
  V.fo (V.tab_cons laws_toIntS.ok V.tab_nil) Tryz.func159 (by kernel_rfl) (fun x y h => (show V.evBody laws_toProof.E laws_toProof.con Tryz.f159 x = _ from laws_toProof.eq x).trans (V.cfl (by kernel_rfl) h))
noncomputable abbrev laws_toGap.con : V.Con := ⟨V.A6, V.eGap, fun (x : V.D6) => laws_toGap (V.p6_0 x), [], [(true, 13)], [(true, 13)], [false, false, false, false, true, false, false, false, true, false, true, false, true], []⟩
noncomputable abbrev laws_toGap.E : V.Env := V.mkE V.tys [(90, laws_toEntry.con), (159, laws_toProof.con)] [] [] [] [] []
noncomputable abbrev laws_toGap.kt (x0 : TGap) : V.Kt TGap := V.ktOf laws_toGap.E laws_toGap.con Tryz.f160 (V.fl6 x0)
noncomputable abbrev laws_toGap.s (x0 : TGap) : V.St := ⟨[(0, .v true [.val (.int .i64 x0.1), .val (.str x0.2.1), .val (.int .i64 x0.2.2.1), .val (.int .i64 x0.2.2.2.1), .val (.sl (.cons .str .nil) x0.2.2.2.2.1), .val (.str x0.2.2.2.2.2.1), .val (.int .i64 x0.2.2.2.2.2.2.1), .val (.int .i64 x0.2.2.2.2.2.2.2.1), .val (.sl (.cons .str .nil) x0.2.2.2.2.2.2.2.2.1), .val (.int .i64 x0.2.2.2.2.2.2.2.2.2.1), .val (.sl (.cons (.int .i64) .nil) x0.2.2.2.2.2.2.2.2.2.2.1), .val (.int .i64 x0.2.2.2.2.2.2.2.2.2.2.2.1), .val (.sl (.cons (.int .i64) .nil) x0.2.2.2.2.2.2.2.2.2.2.2.2)])], []⟩
theorem laws_toGap.v0 (x0 : TGap) : V.evBody laws_toGap.E laws_toGap.con Tryz.f160 (V.fl6 x0) = V.evC laws_toGap.E Tryz.f160.ntmps (V.codeOf Tryz.f160) (laws_toGap.kt x0) (laws_toGap.s x0) := by kernel_rfl
theorem laws_toGap.v (x0 : TGap) : V.evC laws_toGap.E Tryz.f160.ntmps (V.codeOf Tryz.f160) (laws_toGap.kt x0) (laws_toGap.s x0) = laws_toGap x0 := by kernel_rfl
theorem laws_toGap.eq (x0 : TGap) : V.evBody laws_toGap.E laws_toGap.con Tryz.f160 (V.fl6 x0) = laws_toGap x0 := (laws_toGap.v0 x0).trans (laws_toGap.v x0)
theorem laws_toGap.ok : V.Valid Tryz.prog 160 laws_toGap.con :=
  V.fo (V.tab_cons laws_toEntry.ok (V.tab_cons laws_toProof.ok V.tab_nil)) Tryz.func160 (by kernel_rfl) (fun x y h => (show V.evBody laws_toGap.E laws_toGap.con Tryz.f160 x = _ from laws_toGap.eq (V.p6_0 x)).trans (V.cfl (by kernel_rfl) h))
noncomputable abbrev laws_toAnswer.con : V.Con := ⟨V.A7, V.eAnswer, fun (x : V.D7) => laws_toAnswer (V.p7_0 x), [], [(true, 21)], [(true, 21)], [true, false, false, false, false, true, false, true, false, false, false, false, true, false, false, false, true, false, true, false, true], []⟩
noncomputable abbrev laws_toAnswer.E : V.Env := V.mkE V.tys [(28, laws_toSignedS.con), (90, laws_toEntry.con), (159, laws_toProof.con), (160, laws_toGap.con)] [] [] [] [] []
noncomputable abbrev laws_toAnswer.kt (x0 : TAnswer) : V.Kt TAnswer := V.ktOf laws_toAnswer.E laws_toAnswer.con Tryz.f67 (V.fl7 x0)
noncomputable abbrev laws_toAnswer.s (x0 : TAnswer) : V.St := ⟨[(0, .v true [.val (.sl V.eSigned x0.1), .val (.bool x0.2.1), .val (.str x0.2.2.1), .val (.int .i64 x0.2.2.2.1), .val (.int .i64 x0.2.2.2.2.1), .val (.sl (.cons .str .nil) x0.2.2.2.2.2.1), .val (.int .i64 x0.2.2.2.2.2.2.1), .val (.sl (.cons (.int .i64) .nil) x0.2.2.2.2.2.2.2.1), .val (.int .i64 x0.2.2.2.2.2.2.2.2.1), .val (.str x0.2.2.2.2.2.2.2.2.2.1), .val (.int .i64 x0.2.2.2.2.2.2.2.2.2.2.1), .val (.int .i64 x0.2.2.2.2.2.2.2.2.2.2.2.1), .val (.sl (.cons .str .nil) x0.2.2.2.2.2.2.2.2.2.2.2.2.1), .val (.str x0.2.2.2.2.2.2.2.2.2.2.2.2.2.1), .val (.int .i64 x0.2.2.2.2.2.2.2.2.2.2.2.2.2.2.1), .val (.int .i64 x0.2.2.2.2.2.2.2.2.2.2.2.2.2.2.2.1), .val (.sl (.cons .str .nil) x0.2.2.2.2.2.2.2.2.2.2.2.2.2.2.2.2.1), .val (.int .i64 x0.2.2.2.2.2.2.2.2.2.2.2.2.2.2.2.2.2.1), .val (.sl (.cons (.int .i64) .nil) x0.2.2.2.2.2.2.2.2.2.2.2.2.2.2.2.2.2.2.1), .val (.int .i64 x0.2.2.2.2.2.2.2.2.2.2.2.2.2.2.2.2.2.2.2.1), .val (.sl (.cons (.int .i64) .nil) x0.2.2.2.2.2.2.2.2.2.2.2.2.2.2.2.2.2.2.2.2)])], []⟩
theorem laws_toAnswer.v0 (x0 : TAnswer) : V.evBody laws_toAnswer.E laws_toAnswer.con Tryz.f67 (V.fl7 x0) = V.evC laws_toAnswer.E Tryz.f67.ntmps (V.codeOf Tryz.f67) (laws_toAnswer.kt x0) (laws_toAnswer.s x0) := by kernel_rfl
theorem laws_toAnswer.v (x0 : TAnswer) : V.evC laws_toAnswer.E Tryz.f67.ntmps (V.codeOf Tryz.f67) (laws_toAnswer.kt x0) (laws_toAnswer.s x0) = laws_toAnswer x0 := by kernel_rfl
theorem laws_toAnswer.eq (x0 : TAnswer) : V.evBody laws_toAnswer.E laws_toAnswer.con Tryz.f67 (V.fl7 x0) = laws_toAnswer x0 := (laws_toAnswer.v0 x0).trans (laws_toAnswer.v x0)
theorem laws_toAnswer.ok : V.Valid Tryz.prog 67 laws_toAnswer.con :=
  V.fo (V.tab_cons laws_toSignedS.ok (V.tab_cons laws_toEntry.ok (V.tab_cons laws_toProof.ok (V.tab_cons laws_toGap.ok V.tab_nil)))) Tryz.func67 (by kernel_rfl) (fun x y h => (show V.evBody laws_toAnswer.E laws_toAnswer.con Tryz.f67 x = _ from laws_toAnswer.eq (V.p7_0 x)).trans (V.cfl (by kernel_rfl) h))
noncomputable abbrev spec_l1In.con : V.Con := ⟨(.cons (.int .i64) (.cons (.int .i64) (.cons (.int .i64) .nil))), (.cons .bool .nil), fun (x : Int × Int × Int) => spec_l1In x.1 x.2.1 x.2.2, [], [(false, 1), (false, 1), (false, 1)], [(false, 1)], [false], []⟩
noncomputable abbrev spec_l1In.E : V.Env := V.mkE V.tys [] [] [] [] [] []
theorem spec_l1In.eq (x0 : Int) (x1 : Int) (x2 : Int) : V.evBody spec_l1In.E spec_l1In.con Tryz.f147 ((x0, x1, x2) : Int × Int × Int) = spec_l1In x0 x1 x2 := by kernel_rfl
theorem spec_l1In.ok : V.Valid Tryz.prog 147 spec_l1In.con :=
  V.fo V.tab_nil Tryz.func147 (by kernel_rfl) (fun x y h => (show V.evBody spec_l1In.E spec_l1In.con Tryz.f147 x = _ from spec_l1In.eq x.1 x.2.1 x.2.2).trans (V.cfl (by kernel_rfl) h))
noncomputable abbrev spec_IsKeys.con : V.Con := ⟨(.cons (.sl (.cons (.int .i64) .nil)) (.cons (.int .i64) .nil)), (.cons .bool .nil), fun (x : List Int × Int) => spec_IsKeys x, [], [(true, 2)], [(false, 1)], [false], []⟩
noncomputable abbrev spec_IsKeys.E : V.Env := V.mkE V.tys [(147, spec_l1In.con)] [(4, [1, 3], [])] [(4, 22)] [] [] []
noncomputable abbrev spec_IsKeys.kt (x0 : TKeys) : V.Kt Bool := V.ktOf spec_IsKeys.E spec_IsKeys.con Tryz.f245 ((x0.1, x0.2) : List Int × Int)
noncomputable abbrev spec_IsKeys.s4 (x0 : TKeys) (v4_0 : Int) : V.St := ⟨[(1, .v false [.ptr 64000 0]), (3, .v false [.val (.int .i64 v4_0)])], [(64000, .box [.val (.sl (.cons (.int .i64) .nil) x0.1), .val (.int .i64 x0.2)])]⟩
theorem spec_IsKeys.r4 (x0 : TKeys) (R : V.St → Option Bool) (v4_0 : Int) : V.loopF spec_IsKeys.E Tryz.f245.ntmps [1, 0, 1, 0] [] (V.codeOf Tryz.f245) (spec_IsKeys.kt x0) R (spec_IsKeys.s4 x0 v4_0) = spec_IsKeys.g4 x0 (fun v4_0 => R (spec_IsKeys.s4 x0 v4_0)) v4_0 := by kernel_rfl
theorem spec_IsKeys.e4 (x0 : TKeys) : ∀ (n : Nat) (v4_0 : Int), V.loopN (V.loopF spec_IsKeys.E Tryz.f245.ntmps [1, 0, 1, 0] [] (V.codeOf Tryz.f245) (spec_IsKeys.kt x0)) n (spec_IsKeys.s4 x0 v4_0) = spec_IsKeys.l4 x0 n v4_0 := by
  intro n
  induction n with
  | zero => intros; rw [V.loopN_z]; rfl
  | succ n ih =>
    intro v4_0
    rw [V.loopN_s, spec_IsKeys.r4]
    simp only [ih]
    first | exact (spec_IsKeys.u4 ..).symm | rfl
theorem spec_IsKeys.v (x0 : TKeys) : V.evBody spec_IsKeys.E spec_IsKeys.con Tryz.f245 ((x0.1, x0.2) : List Int × Int) = spec_IsKeys.b x0 (fun v4_0 => V.loopN (V.loopF spec_IsKeys.E Tryz.f245.ntmps [1, 0, 1, 0] [] (V.codeOf Tryz.f245) (spec_IsKeys.kt x0)) V.KK (spec_IsKeys.s4 x0 v4_0)) := by kernel_rfl
theorem spec_IsKeys.eq (x0 : TKeys) : V.evBody spec_IsKeys.E spec_IsKeys.con Tryz.f245 ((x0.1, x0.2) : List Int × Int) = spec_IsKeys x0 := by
  rw [spec_IsKeys.v]
  simp only [spec_IsKeys.e4]
  rfl
theorem spec_IsKeys.ok : V.Valid Tryz.prog 245 spec_IsKeys.con :=
  V.fo (V.tab_cons spec_l1In.ok V.tab_nil) Tryz.func245 (by kernel_rfl) (fun x y h => (show V.evBody spec_IsKeys.E spec_IsKeys.con Tryz.f245 x = _ from spec_IsKeys.eq x).trans (V.cfl (by kernel_rfl) h))
noncomputable abbrev spec_NoKeys.con : V.Con := ⟨(.cons (.sl (.cons (.int .i64) .nil)) (.cons (.int .i64) .nil)), (.cons .bool .nil), fun (x : List Int × Int) => spec_NoKeys x, [], [(true, 2)], [(false, 1)], [false], []⟩
noncomputable abbrev spec_NoKeys.E : V.Env := V.mkE V.tys [] [] [] [] [] []
theorem spec_NoKeys.eq (x0 : TKeys) : V.evBody spec_NoKeys.E spec_NoKeys.con Tryz.f246 ((x0.1, x0.2) : List Int × Int) = spec_NoKeys x0 := by kernel_rfl
theorem spec_NoKeys.ok : V.Valid Tryz.prog 246 spec_NoKeys.con :=
  V.fo V.tab_nil Tryz.func246 (by kernel_rfl) (fun x y h => (show V.evBody spec_NoKeys.E spec_NoKeys.con Tryz.f246 x = _ from spec_NoKeys.eq x).trans (V.cfl (by kernel_rfl) h))
noncomputable abbrev spec_IsHead.con : V.Con := ⟨V.A4, (.cons .bool .nil), fun (x : V.D4) => spec_IsHead (V.p4_0 x), [], [(true, 16)], [(false, 1)], [false], []⟩
noncomputable abbrev spec_IsHead.E : V.Env := V.mkE V.tys [(147, spec_l1In.con), (245, spec_IsKeys.con), (246, spec_NoKeys.con)] [(7, [1], []), (11, [1], []), (21, [1], [])] [] [] [] []
noncomputable abbrev spec_IsHead.kt (x0 : THead) : V.Kt Bool := V.ktOf spec_IsHead.E spec_IsHead.con Tryz.f183 (V.fl4 x0)
noncomputable abbrev spec_IsHead.s21 (x0 : THead) : V.St := ⟨[(1, .v false [.ptr 64000 0])], [(64000, .box [.val (.int .i64 x0.1), .val (.int .i64 x0.2.1), .val (.int .i64 x0.2.2.1), .val (.int .i64 x0.2.2.2.1), .val (.int .i64 x0.2.2.2.2.1), .val (.int .i64 x0.2.2.2.2.2.1), .val (.int .i64 x0.2.2.2.2.2.2.1), .val (.int .i64 x0.2.2.2.2.2.2.2.1), .val (.sl (.cons (.int .i64) .nil) x0.2.2.2.2.2.2.2.2.1), .val (.int .i64 x0.2.2.2.2.2.2.2.2.2.1), .val (.sl (.cons (.int .i64) .nil) x0.2.2.2.2.2.2.2.2.2.2.1), .val (.int .i64 x0.2.2.2.2.2.2.2.2.2.2.2.1), .val (.int .i64 x0.2.2.2.2.2.2.2.2.2.2.2.2.1), .val (.sl (.cons (.int .i64) .nil) x0.2.2.2.2.2.2.2.2.2.2.2.2.2.1), .val (.int .i64 x0.2.2.2.2.2.2.2.2.2.2.2.2.2.2.1), .val (.bool x0.2.2.2.2.2.2.2.2.2.2.2.2.2.2.2)])]⟩
noncomputable abbrev spec_IsHead.s11 (x0 : THead) : V.St := ⟨[(1, .v false [.ptr 64000 0])], [(64000, .box [.val (.int .i64 x0.1), .val (.int .i64 x0.2.1), .val (.int .i64 x0.2.2.1), .val (.int .i64 x0.2.2.2.1), .val (.int .i64 x0.2.2.2.2.1), .val (.int .i64 x0.2.2.2.2.2.1), .val (.int .i64 x0.2.2.2.2.2.2.1), .val (.int .i64 x0.2.2.2.2.2.2.2.1), .val (.sl (.cons (.int .i64) .nil) x0.2.2.2.2.2.2.2.2.1), .val (.int .i64 x0.2.2.2.2.2.2.2.2.2.1), .val (.sl (.cons (.int .i64) .nil) x0.2.2.2.2.2.2.2.2.2.2.1), .val (.int .i64 x0.2.2.2.2.2.2.2.2.2.2.2.1), .val (.int .i64 x0.2.2.2.2.2.2.2.2.2.2.2.2.1), .val (.sl (.cons (.int .i64) .nil) x0.2.2.2.2.2.2.2.2.2.2.2.2.2.1), .val (.int .i64 x0.2.2.2.2.2.2.2.2.2.2.2.2.2.2.1), .val (.bool x0.2.2.2.2.2.2.2.2.2.2.2.2.2.2.2)])]⟩
noncomputable abbrev spec_IsHead.s7 (x0 : THead) : V.St := ⟨[(1, .v false [.ptr 64000 0])], [(64000, .box [.val (.int .i64 x0.1), .val (.int .i64 x0.2.1), .val (.int .i64 x0.2.2.1), .val (.int .i64 x0.2.2.2.1), .val (.int .i64 x0.2.2.2.2.1), .val (.int .i64 x0.2.2.2.2.2.1), .val (.int .i64 x0.2.2.2.2.2.2.1), .val (.int .i64 x0.2.2.2.2.2.2.2.1), .val (.sl (.cons (.int .i64) .nil) x0.2.2.2.2.2.2.2.2.1), .val (.int .i64 x0.2.2.2.2.2.2.2.2.2.1), .val (.sl (.cons (.int .i64) .nil) x0.2.2.2.2.2.2.2.2.2.2.1), .val (.int .i64 x0.2.2.2.2.2.2.2.2.2.2.2.1), .val (.int .i64 x0.2.2.2.2.2.2.2.2.2.2.2.2.1), .val (.sl (.cons (.int .i64) .nil) x0.2.2.2.2.2.2.2.2.2.2.2.2.2.1), .val (.int .i64 x0.2.2.2.2.2.2.2.2.2.2.2.2.2.2.1), .val (.bool x0.2.2.2.2.2.2.2.2.2.2.2.2.2.2.2)])]⟩
theorem spec_IsHead.r21 (x0 : THead) : V.joinF spec_IsHead.E Tryz.f183.ntmps [1, 1, 1] [] (V.codeOf Tryz.f183) (spec_IsHead.kt x0) (spec_IsHead.s21 x0) = spec_IsHead.g21 x0 := by kernel_rfl
theorem spec_IsHead.e21 (x0 : THead) : V.jn (V.joinF spec_IsHead.E Tryz.f183.ntmps [1, 1, 1] [] (V.codeOf Tryz.f183) (spec_IsHead.kt x0)) (spec_IsHead.s21 x0) = spec_IsHead.l21 x0 := by
  rw [V.jn_eq, spec_IsHead.r21]
  rfl
theorem spec_IsHead.r11 (x0 : THead) : V.joinF spec_IsHead.E Tryz.f183.ntmps [1, 1] [] (V.codeOf Tryz.f183) (spec_IsHead.kt x0) (spec_IsHead.s11 x0) = spec_IsHead.g11 x0 (V.jn (V.joinF spec_IsHead.E Tryz.f183.ntmps [1, 1, 1] [] (V.codeOf Tryz.f183) (spec_IsHead.kt x0)) (spec_IsHead.s21 x0)) := by kernel_rfl
theorem spec_IsHead.e11 (x0 : THead) : V.jn (V.joinF spec_IsHead.E Tryz.f183.ntmps [1, 1] [] (V.codeOf Tryz.f183) (spec_IsHead.kt x0)) (spec_IsHead.s11 x0) = spec_IsHead.l11 x0 := by
  rw [V.jn_eq, spec_IsHead.r11]
  simp only [spec_IsHead.e21]
  rfl
theorem spec_IsHead.r7 (x0 : THead) : V.joinF spec_IsHead.E Tryz.f183.ntmps [1] [] (V.codeOf Tryz.f183) (spec_IsHead.kt x0) (spec_IsHead.s7 x0) = spec_IsHead.g7 x0 (V.jn (V.joinF spec_IsHead.E Tryz.f183.ntmps [1, 1] [] (V.codeOf Tryz.f183) (spec_IsHead.kt x0)) (spec_IsHead.s11 x0)) := by kernel_rfl
theorem spec_IsHead.e7 (x0 : THead) : V.jn (V.joinF spec_IsHead.E Tryz.f183.ntmps [1] [] (V.codeOf Tryz.f183) (spec_IsHead.kt x0)) (spec_IsHead.s7 x0) = spec_IsHead.l7 x0 := by
  rw [V.jn_eq, spec_IsHead.r7]
  simp only [spec_IsHead.e11]
  rfl
noncomputable abbrev spec_IsHead.s (x0 : THead) : V.St := ⟨[(0, .v true [.val (.int .i64 x0.1), .val (.int .i64 x0.2.1), .val (.int .i64 x0.2.2.1), .val (.int .i64 x0.2.2.2.1), .val (.int .i64 x0.2.2.2.2.1), .val (.int .i64 x0.2.2.2.2.2.1), .val (.int .i64 x0.2.2.2.2.2.2.1), .val (.int .i64 x0.2.2.2.2.2.2.2.1), .val (.sl (.cons (.int .i64) .nil) x0.2.2.2.2.2.2.2.2.1), .val (.int .i64 x0.2.2.2.2.2.2.2.2.2.1), .val (.sl (.cons (.int .i64) .nil) x0.2.2.2.2.2.2.2.2.2.2.1), .val (.int .i64 x0.2.2.2.2.2.2.2.2.2.2.2.1), .val (.int .i64 x0.2.2.2.2.2.2.2.2.2.2.2.2.1), .val (.sl (.cons (.int .i64) .nil) x0.2.2.2.2.2.2.2.2.2.2.2.2.2.1), .val (.int .i64 x0.2.2.2.2.2.2.2.2.2.2.2.2.2.2.1), .val (.bool x0.2.2.2.2.2.2.2.2.2.2.2.2.2.2.2)])], []⟩
theorem spec_IsHead.v0 (x0 : THead) : V.evBody spec_IsHead.E spec_IsHead.con Tryz.f183 (V.fl4 x0) = V.evC spec_IsHead.E Tryz.f183.ntmps (V.codeOf Tryz.f183) (spec_IsHead.kt x0) (spec_IsHead.s x0) := by kernel_rfl
theorem spec_IsHead.v (x0 : THead) : V.evC spec_IsHead.E Tryz.f183.ntmps (V.codeOf Tryz.f183) (spec_IsHead.kt x0) (spec_IsHead.s x0) = spec_IsHead.b x0 (V.jn (V.joinF spec_IsHead.E Tryz.f183.ntmps [1] [] (V.codeOf Tryz.f183) (spec_IsHead.kt x0)) (spec_IsHead.s7 x0)) := by kernel_rfl
theorem spec_IsHead.eq (x0 : THead) : V.evBody spec_IsHead.E spec_IsHead.con Tryz.f183 (V.fl4 x0) = spec_IsHead x0 := by
  rw [spec_IsHead.v0, spec_IsHead.v]
  simp only [spec_IsHead.e7]
  rfl
theorem spec_IsHead.ok : V.Valid Tryz.prog 183 spec_IsHead.con :=
  V.fo (V.tab_cons spec_l1In.ok (V.tab_cons spec_IsKeys.ok (V.tab_cons spec_NoKeys.ok V.tab_nil))) Tryz.func183 (by kernel_rfl) (fun x y h => (show V.evBody spec_IsHead.E spec_IsHead.con Tryz.f183 x = _ from spec_IsHead.eq (V.p4_0 x)).trans (V.cfl (by kernel_rfl) h))
noncomputable abbrev spec_KeysInts.con : V.Con := ⟨(.cons (.sl (.cons (.int .i64) .nil)) (.cons (.int .i64) .nil)), (.cons (.sl (.cons (.int .i64) .nil)) .nil), fun (x : List Int × Int) => spec_KeysInts x, [], [(true, 2)], [(false, 1)], [true], []⟩
noncomputable abbrev spec_KeysInts.E : V.Env := V.mkE V.tys [] [] [] [] [] []
theorem spec_KeysInts.eq (x0 : TKeys) : V.evBody spec_KeysInts.E spec_KeysInts.con Tryz.f266 ((x0.1, x0.2) : List Int × Int) = spec_KeysInts x0 := by kernel_rfl
theorem spec_KeysInts.ok : V.Valid Tryz.prog 266 spec_KeysInts.con :=
  V.fo V.tab_nil Tryz.func266 (by kernel_rfl) (fun x y h => (show V.evBody spec_KeysInts.E spec_KeysInts.con Tryz.f266 x = _ from spec_KeysInts.eq x).trans (V.cfl (by kernel_rfl) h))
noncomputable abbrev spec_Mod.con : V.Con := ⟨(.cons (.int .i64) (.cons (.int .i64) .nil)), (.cons (.int .i64) .nil), fun (x : Int × Int) => spec_Mod x.1 x.2, [], [(false, 1), (false, 1)], [(false, 1)], [false], []⟩
noncomputable abbrev spec_Mod.E : V.Env := V.mkE V.tys [(147, spec_l1In.con)] [] [] [] [] []
theorem spec_Mod.eq (x0 : Int) (x1 : Int) : V.evBody spec_Mod.E spec_Mod.con Tryz.f292 ((x0, x1) : Int × Int) = spec_Mod x0 x1 := by kernel_rfl
theorem spec_Mod.ok : V.Valid Tryz.prog 292 spec_Mod.con :=
  V.fo (V.tab_cons spec_l1In.ok V.tab_nil) Tryz.func292 (by kernel_rfl) (fun x y h => (show V.evBody spec_Mod.E spec_Mod.con Tryz.f292 x = _ from spec_Mod.eq x.1 x.2).trans (V.cfl (by kernel_rfl) h))
noncomputable abbrev spec_Hash.con : V.Con := ⟨(.cons (.sl (.cons (.int .i64) .nil)) .nil), (.cons (.int .i64) .nil), fun (x : List Int) => spec_Hash x, [], [(false, 1)], [(false, 1)], [false], []⟩
noncomputable abbrev spec_Hash.E : V.Env := V.mkE V.tys [(292, spec_Mod.con)] [(6, [0, 3, 4], [])] [] [] [] []
noncomputable abbrev spec_Hash.kt (x0 : List Int) : V.Kt Int := V.ktOf spec_Hash.E spec_Hash.con Tryz.f247 ((x0) : List Int)
noncomputable abbrev spec_Hash.s6 (x0 : List Int) (v6_1 : Int) (v6_2 : Int) : V.St := ⟨[(0, .v false [.val (.sl (.cons (.int .i64) .nil) x0)]), (3, .v false [.val (.int .i64 v6_1)]), (4, .v false [.val (.int .i64 v6_2)])], []⟩
theorem spec_Hash.r6 (x0 : List Int) (R : V.St → Option Int) (v6_1 : Int) (v6_2 : Int) : V.loopF spec_Hash.E Tryz.f247.ntmps [1, 1, 0, 1, 0] [] (V.codeOf Tryz.f247) (spec_Hash.kt x0) R (spec_Hash.s6 x0 v6_1 v6_2) = spec_Hash.g6 x0 (fun v6_1 v6_2 => R (spec_Hash.s6 x0 v6_1 v6_2)) v6_1 v6_2 := by kernel_rfl
theorem spec_Hash.e6 (x0 : List Int) : ∀ (n : Nat) (v6_1 : Int) (v6_2 : Int), V.loopN (V.loopF spec_Hash.E Tryz.f247.ntmps [1, 1, 0, 1, 0] [] (V.codeOf Tryz.f247) (spec_Hash.kt x0)) n (spec_Hash.s6 x0 v6_1 v6_2) = spec_Hash.l6 x0 n v6_1 v6_2 := by
  intro n
  induction n with
  | zero => intros; rw [V.loopN_z]; rfl
  | succ n ih =>
    intro v6_1 v6_2
    rw [V.loopN_s, spec_Hash.r6]
    simp only [ih]
    first | exact (spec_Hash.u6 ..).symm | rfl
theorem spec_Hash.v (x0 : List Int) : V.evBody spec_Hash.E spec_Hash.con Tryz.f247 ((x0) : List Int) = spec_Hash.b x0 (fun v6_1 v6_2 => V.loopN (V.loopF spec_Hash.E Tryz.f247.ntmps [1, 1, 0, 1, 0] [] (V.codeOf Tryz.f247) (spec_Hash.kt x0)) V.KK (spec_Hash.s6 x0 v6_1 v6_2)) := by kernel_rfl
theorem spec_Hash.eq (x0 : List Int) : V.evBody spec_Hash.E spec_Hash.con Tryz.f247 ((x0) : List Int) = spec_Hash x0 := by
  rw [spec_Hash.v]
  simp only [spec_Hash.e6]
  rfl
theorem spec_Hash.ok : V.Valid Tryz.prog 247 spec_Hash.con :=
  V.fo (V.tab_cons spec_Mod.ok V.tab_nil) Tryz.func247 (by kernel_rfl) (fun x y h => (show V.evBody spec_Hash.E spec_Hash.con Tryz.f247 x = _ from spec_Hash.eq x).trans (V.cfl (by kernel_rfl) h))
noncomputable abbrev spec_ZoneOf.con : V.Con := ⟨(.cons (.sl (.cons (.int .i64) .nil)) (.cons (.int .i64) (.cons (.int .i64) .nil))), (.cons (.int .i64) .nil), fun (x : List Int × Int × Int) => spec_ZoneOf (x.1, x.2.1) x.2.2, [], [(true, 2), (false, 1)], [(false, 1)], [false], []⟩
noncomputable abbrev spec_ZoneOf.E : V.Env := V.mkE V.tys [(247, spec_Hash.con), (266, spec_KeysInts.con)] [] [] [] [] []
theorem spec_ZoneOf.eq (x0 : TKeys) (x1 : Int) : V.evBody spec_ZoneOf.E spec_ZoneOf.con Tryz.f224 ((x0.1, x0.2, x1) : List Int × Int × Int) = spec_ZoneOf x0 x1 := by kernel_rfl
theorem spec_ZoneOf.ok : V.Valid Tryz.prog 224 spec_ZoneOf.con :=
  V.fo (V.tab_cons spec_Hash.ok (V.tab_cons spec_KeysInts.ok V.tab_nil)) Tryz.func224 (by kernel_rfl) (fun x y h => (show V.evBody spec_ZoneOf.E spec_ZoneOf.con Tryz.f224 x = _ from spec_ZoneOf.eq (x.1, x.2.1) x.2.2).trans (V.cfl (by kernel_rfl) h))
noncomputable abbrev spec_HeadInts.con : V.Con := ⟨V.A4, (.cons (.sl (.cons (.int .i64) .nil)) .nil), fun (x : V.D4) => spec_HeadInts (V.p4_0 x), [], [(true, 16)], [(false, 1)], [true], []⟩
noncomputable abbrev spec_HeadInts.E : V.Env := V.mkE V.tys [(266, spec_KeysInts.con)] [] [] [] [] []
noncomputable abbrev spec_HeadInts.kt (x0 : THead) : V.Kt (List Int) := V.ktOf spec_HeadInts.E spec_HeadInts.con Tryz.f205 (V.fl4 x0)
noncomputable abbrev spec_HeadInts.s (x0 : THead) : V.St := ⟨[(0, .v true [.val (.int .i64 x0.1), .val (.int .i64 x0.2.1), .val (.int .i64 x0.2.2.1), .val (.int .i64 x0.2.2.2.1), .val (.int .i64 x0.2.2.2.2.1), .val (.int .i64 x0.2.2.2.2.2.1), .val (.int .i64 x0.2.2.2.2.2.2.1), .val (.int .i64 x0.2.2.2.2.2.2.2.1), .val (.sl (.cons (.int .i64) .nil) x0.2.2.2.2.2.2.2.2.1), .val (.int .i64 x0.2.2.2.2.2.2.2.2.2.1), .val (.sl (.cons (.int .i64) .nil) x0.2.2.2.2.2.2.2.2.2.2.1), .val (.int .i64 x0.2.2.2.2.2.2.2.2.2.2.2.1), .val (.int .i64 x0.2.2.2.2.2.2.2.2.2.2.2.2.1), .val (.sl (.cons (.int .i64) .nil) x0.2.2.2.2.2.2.2.2.2.2.2.2.2.1), .val (.int .i64 x0.2.2.2.2.2.2.2.2.2.2.2.2.2.2.1), .val (.bool x0.2.2.2.2.2.2.2.2.2.2.2.2.2.2.2)])], []⟩
theorem spec_HeadInts.v0 (x0 : THead) : V.evBody spec_HeadInts.E spec_HeadInts.con Tryz.f205 (V.fl4 x0) = V.evC spec_HeadInts.E Tryz.f205.ntmps (V.codeOf Tryz.f205) (spec_HeadInts.kt x0) (spec_HeadInts.s x0) := by kernel_rfl
theorem spec_HeadInts.v (x0 : THead) : V.evC spec_HeadInts.E Tryz.f205.ntmps (V.codeOf Tryz.f205) (spec_HeadInts.kt x0) (spec_HeadInts.s x0) = spec_HeadInts x0 := by kernel_rfl
theorem spec_HeadInts.eq (x0 : THead) : V.evBody spec_HeadInts.E spec_HeadInts.con Tryz.f205 (V.fl4 x0) = spec_HeadInts x0 := (spec_HeadInts.v0 x0).trans (spec_HeadInts.v x0)
theorem spec_HeadInts.ok : V.Valid Tryz.prog 205 spec_HeadInts.con :=
  V.fo (V.tab_cons spec_KeysInts.ok V.tab_nil) Tryz.func205 (by kernel_rfl) (fun x y h => (show V.evBody spec_HeadInts.E spec_HeadInts.con Tryz.f205 x = _ from spec_HeadInts.eq (V.p4_0 x)).trans (V.cfl (by kernel_rfl) h))
noncomputable abbrev spec_KeyedHash.con : V.Con := ⟨(.cons (.int .i64) (.cons (.sl (.cons (.int .i64) .nil)) .nil)), (.cons (.int .i64) .nil), fun (x : Int × List Int) => spec_KeyedHash x.1 x.2, [], [(false, 1), (false, 1)], [(false, 1)], [false], []⟩
noncomputable abbrev spec_KeyedHash.E : V.Env := V.mkE V.tys [(247, spec_Hash.con)] [] [] [] [] []
theorem spec_KeyedHash.eq (x0 : Int) (x1 : List Int) : V.evBody spec_KeyedHash.E spec_KeyedHash.con Tryz.f214 ((x0, x1) : Int × List Int) = spec_KeyedHash x0 x1 := by kernel_rfl
theorem spec_KeyedHash.ok : V.Valid Tryz.prog 214 spec_KeyedHash.con :=
  V.fo (V.tab_cons spec_Hash.ok V.tab_nil) Tryz.func214 (by kernel_rfl) (fun x y h => (show V.evBody spec_KeyedHash.E spec_KeyedHash.con Tryz.f214 x = _ from spec_KeyedHash.eq x.1 x.2).trans (V.cfl (by kernel_rfl) h))
noncomputable abbrev spec_TagOf.con : V.Con := ⟨(.cons (.int .i64) (.cons (.sl (.cons (.int .i64) .nil)) .nil)), (.cons (.int .i64) .nil), fun (x : Int × List Int) => spec_TagOf x.1 x.2, [], [(false, 1), (false, 1)], [(false, 1)], [false], []⟩
noncomputable abbrev spec_TagOf.E : V.Env := V.mkE V.tys [(214, spec_KeyedHash.con)] [] [] [] [] []
theorem spec_TagOf.eq (x0 : Int) (x1 : List Int) : V.evBody spec_TagOf.E spec_TagOf.con Tryz.f118 ((x0, x1) : Int × List Int) = spec_TagOf x0 x1 := by kernel_rfl
theorem spec_TagOf.ok : V.Valid Tryz.prog 118 spec_TagOf.con :=
  V.fo (V.tab_cons spec_KeyedHash.ok V.tab_nil) Tryz.func118 (by kernel_rfl) (fun x y h => (show V.evBody spec_TagOf.E spec_TagOf.con Tryz.f118 x = _ from spec_TagOf.eq x.1 x.2).trans (V.cfl (by kernel_rfl) h))
noncomputable abbrev spec_IsSigBy.con : V.Con := ⟨(.cons (.int .i64) (.cons (.int .i64) (.cons (.sl (.cons (.int .i64) .nil)) .nil))), (.cons .bool .nil), fun (x : Int × Int × List Int) => spec_IsSigBy (x.1, x.2.1) x.2.2, [], [(true, 2), (false, 1)], [(false, 1)], [false], []⟩
noncomputable abbrev spec_IsSigBy.E : V.Env := V.mkE V.tys [(118, spec_TagOf.con), (147, spec_l1In.con)] [] [(1, 10)] [] [] []
theorem spec_IsSigBy.eq (x0 : TSig) (x1 : List Int) : V.evBody spec_IsSigBy.E spec_IsSigBy.con Tryz.f316 ((x0.1, x0.2, x1) : Int × Int × List Int) = spec_IsSigBy x0 x1 := by kernel_rfl
theorem spec_IsSigBy.ok : V.Valid Tryz.prog 316 spec_IsSigBy.con :=
  V.fo (V.tab_cons spec_TagOf.ok (V.tab_cons spec_l1In.ok V.tab_nil)) Tryz.func316 (by kernel_rfl) (fun x y h => (show V.evBody spec_IsSigBy.E spec_IsSigBy.con Tryz.f316 x = _ from spec_IsSigBy.eq (x.1, x.2.1) x.2.2).trans (V.cfl (by kernel_rfl) h))
noncomputable abbrev spec_CountSigs.con : V.Con := ⟨(.cons (.sl (.cons (.int .i64) .nil)) (.cons (.int .i64) (.cons (.sl (.cons (.int .i64) .nil)) (.cons (.sl (.cons (.int .i64) (.cons (.int .i64) .nil))) .nil)))), (.cons (.int .i64) .nil), fun (x : List Int × Int × List Int × List TSig) => spec_CountSigs (x.1, x.2.1) x.2.2.1 x.2.2.2, [], [(true, 2), (false, 1), (false, 1)], [(false, 1)], [false], []⟩
noncomputable abbrev spec_CountSigs.E : V.Env := V.mkE V.tys [(316, spec_IsSigBy.con)] [(6, [1, 2, 3, 7, 8], []), (12, [1, 2, 3, 7, 8, 9], []), (19, [1, 2, 3, 7, 8, 9, 41], [])] [(8, 17)] [] [] []
noncomputable abbrev spec_CountSigs.kt (x0 : TKeys) (x1 : List Int) (x2 : List TSig) : V.Kt Int := V.ktOf spec_CountSigs.E spec_CountSigs.con Tryz.f309 ((x0.1, x0.2, x1, x2) : List Int × Int × List Int × List TSig)
noncomputable abbrev spec_CountSigs.s19 (x0 : TKeys) (x1 : List Int) (x2 : List TSig) (v6_2 : Int) (v6_3 : Int) (v12_4 : Int) (v19_5 : Bool) : V.St := ⟨[(1, .v false [.val (.sl (.cons (.int .i64) .nil) x1)]), (2, .v false [.val (.sl (.cons (.int .i64) (.cons (.int .i64) .nil)) x2)]), (3, .v false [.ptr 64000 0]), (7, .v false [.val (.int .i64 v6_2)]), (8, .v false [.val (.int .i64 v6_3)]), (9, .v false [.val (.int .i64 v12_4)]), (41, .v false [.val (.bool v19_5)])], [(64000, .box [.val (.sl (.cons (.int .i64) .nil) x0.1), .val (.int .i64 x0.2)])]⟩
noncomputable abbrev spec_CountSigs.s12 (x0 : TKeys) (x1 : List Int) (x2 : List TSig) (v6_2 : Int) (v6_3 : Int) (v12_4 : Int) : V.St := ⟨[(1, .v false [.val (.sl (.cons (.int .i64) .nil) x1)]), (2, .v false [.val (.sl (.cons (.int .i64) (.cons (.int .i64) .nil)) x2)]), (3, .v false [.ptr 64000 0]), (7, .v false [.val (.int .i64 v6_2)]), (8, .v false [.val (.int .i64 v6_3)]), (9, .v false [.val (.int .i64 v12_4)])], [(64000, .box [.val (.sl (.cons (.int .i64) .nil) x0.1), .val (.int .i64 x0.2)])]⟩
noncomputable abbrev spec_CountSigs.s6 (x0 : TKeys) (x1 : List Int) (x2 : List TSig) (v6_2 : Int) (v6_3 : Int) : V.St := ⟨[(1, .v false [.val (.sl (.cons (.int .i64) .nil) x1)]), (2, .v false [.val (.sl (.cons (.int .i64) (.cons (.int .i64) .nil)) x2)]), (3, .v false [.ptr 64000 0]), (7, .v false [.val (.int .i64 v6_2)]), (8, .v false [.val (.int .i64 v6_3)])], [(64000, .box [.val (.sl (.cons (.int .i64) .nil) x0.1), .val (.int .i64 x0.2)])]⟩
theorem spec_CountSigs.r19 (x0 : TKeys) (x1 : List Int) (x2 : List TSig) (v12_4 : Int) (v6_2 : Int) (v6_3 : Int) (R6 : V.St → Option Int) (R12 : V.St → Option Int) (v19_5 : Bool) : V.joinF spec_CountSigs.E Tryz.f309.ntmps [1, 1, 0, 1, 0, 0, 1, 0, 0, 1, 0, 0, 1, 0, 0] [R6, R12] (V.codeOf Tryz.f309) (spec_CountSigs.kt x0 x1 x2) (spec_CountSigs.s19 x0 x1 x2 v6_2 v6_3 v12_4 v19_5) = spec_CountSigs.g19 x0 x1 x2 v6_2 v6_3 v12_4 (fun v6_2 v6_3 => R6 (spec_CountSigs.s6 x0 x1 x2 v6_2 v6_3)) (fun v12_4 => R12 (spec_CountSigs.s12 x0 x1 x2 v6_2 v6_3 v12_4)) v19_5 := by kernel_rfl
theorem spec_CountSigs.e19 (x0 : TKeys) (x1 : List Int) (x2 : List TSig) (v12_4 : Int) (v6_2 : Int) (v6_3 : Int) (R6 : V.St → Option Int) (R12 : V.St → Option Int) (v19_5 : Bool) : V.jn (V.joinF spec_CountSigs.E Tryz.f309.ntmps [1, 1, 0, 1, 0, 0, 1, 0, 0, 1, 0, 0, 1, 0, 0] [R6, R12] (V.codeOf Tryz.f309) (spec_CountSigs.kt x0 x1 x2)) (spec_CountSigs.s19 x0 x1 x2 v6_2 v6_3 v12_4 v19_5) = spec_CountSigs.l19 x0 x1 x2 v6_2 v6_3 v12_4 (fun v6_2 v6_3 => R6 (spec_CountSigs.s6 x0 x1 x2 v6_2 v6_3)) (fun v12_4 => R12 (spec_CountSigs.s12 x0 x1 x2 v6_2 v6_3 v12_4)) v19_5 := by
  rw [V.jn_eq, spec_CountSigs.r19]
  rfl
theorem spec_CountSigs.r12 (x0 : TKeys) (x1 : List Int) (x2 : List TSig) (v6_2 : Int) (v6_3 : Int) (R6 : V.St → Option Int) (R : V.St → Option Int) (v12_4 : Int) : V.loopF spec_CountSigs.E Tryz.f309.ntmps [1, 1, 0, 1, 0, 0, 1, 0, 0, 1, 0] [R6] (V.codeOf Tryz.f309) (spec_CountSigs.kt x0 x1 x2) R (spec_CountSigs.s12 x0 x1 x2 v6_2 v6_3 v12_4) = spec_CountSigs.g12 x0 x1 x2 v6_2 v6_3 (fun v6_2 v6_3 => R6 (spec_CountSigs.s6 x0 x1 x2 v6_2 v6_3)) (fun v12_4 => R (spec_CountSigs.s12 x0 x1 x2 v6_2 v6_3 v12_4)) (fun v19_5 => V.jn (V.joinF spec_CountSigs.E Tryz.f309.ntmps [1, 1, 0, 1, 0, 0, 1, 0, 0, 1, 0, 0, 1, 0, 0] [R6, R] (V.codeOf Tryz.f309) (spec_CountSigs.kt x0 x1 x2)) (spec_CountSigs.s19 x0 x1 x2 v6_2 v6_3 v12_4 v19_5)) v12_4 := by kernel_rfl
theorem spec_CountSigs.e12 (x0 : TKeys) (x1 : List Int) (x2 : List TSig) (v6_2 : Int) (v6_3 : Int) (R6 : V.St → Option Int) : ∀ (n : Nat) (v12_4 : Int), V.loopN (V.loopF spec_CountSigs.E Tryz.f309.ntmps [1, 1, 0, 1, 0, 0, 1, 0, 0, 1, 0] [R6] (V.codeOf Tryz.f309) (spec_CountSigs.kt x0 x1 x2)) n (spec_CountSigs.s12 x0 x1 x2 v6_2 v6_3 v12_4) = spec_CountSigs.l12 x0 x1 x2 v6_2 v6_3 (fun v6_2 v6_3 => R6 (spec_CountSigs.s6 x0 x1 x2 v6_2 v6_3)) n v12_4 := by
  intro n
  induction n with
  | zero => intros; rw [V.loopN_z]; rfl
  | succ n ih =>
    intro v12_4
    rw [V.loopN_s, spec_CountSigs.r12]
    simp only [spec_CountSigs.e19, ih]
    first | exact (spec_CountSigs.u12 ..).symm | rfl
theorem spec_CountSigs.r6 (x0 : TKeys) (x1 : List Int) (x2 : List TSig) (R : V.St → Option Int) (v6_2 : Int) (v6_3 : Int) : V.loopF spec_CountSigs.E Tryz.f309.ntmps [1, 1, 0, 1, 0] [] (V.codeOf Tryz.f309) (spec_CountSigs.kt x0 x1 x2) R (spec_CountSigs.s6 x0 x1 x2 v6_2 v6_3) = spec_CountSigs.g6 x0 x1 x2 (fun v6_2 v6_3 => R (spec_CountSigs.s6 x0 x1 x2 v6_2 v6_3)) (fun v12_4 => V.loopN (V.loopF spec_CountSigs.E Tryz.f309.ntmps [1, 1, 0, 1, 0, 0, 1, 0, 0, 1, 0] [R] (V.codeOf Tryz.f309) (spec_CountSigs.kt x0 x1 x2)) V.KK (spec_CountSigs.s12 x0 x1 x2 v6_2 v6_3 v12_4)) v6_2 v6_3 := by kernel_rfl
theorem spec_CountSigs.e6 (x0 : TKeys) (x1 : List Int) (x2 : List TSig) : ∀ (n : Nat) (v6_2 : Int) (v6_3 : Int), V.loopN (V.loopF spec_CountSigs.E Tryz.f309.ntmps [1, 1, 0, 1, 0] [] (V.codeOf Tryz.f309) (spec_CountSigs.kt x0 x1 x2)) n (spec_CountSigs.s6 x0 x1 x2 v6_2 v6_3) = spec_CountSigs.l6 x0 x1 x2 n v6_2 v6_3 := by
  intro n
  induction n with
  | zero => intros; rw [V.loopN_z]; rfl
  | succ n ih =>
    intro v6_2 v6_3
    rw [V.loopN_s, spec_CountSigs.r6]
    simp only [spec_CountSigs.e12, ih]
    first | exact (spec_CountSigs.u6 ..).symm | rfl
theorem spec_CountSigs.v (x0 : TKeys) (x1 : List Int) (x2 : List TSig) : V.evBody spec_CountSigs.E spec_CountSigs.con Tryz.f309 ((x0.1, x0.2, x1, x2) : List Int × Int × List Int × List TSig) = spec_CountSigs.b x0 x1 x2 (fun v6_2 v6_3 => V.loopN (V.loopF spec_CountSigs.E Tryz.f309.ntmps [1, 1, 0, 1, 0] [] (V.codeOf Tryz.f309) (spec_CountSigs.kt x0 x1 x2)) V.KK (spec_CountSigs.s6 x0 x1 x2 v6_2 v6_3)) := by kernel_rfl
theorem spec_CountSigs.eq (x0 : TKeys) (x1 : List Int) (x2 : List TSig) : V.evBody spec_CountSigs.E spec_CountSigs.con Tryz.f309 ((x0.1, x0.2, x1, x2) : List Int × Int × List Int × List TSig) = spec_CountSigs x0 x1 x2 := by
  rw [spec_CountSigs.v]
  simp only [spec_CountSigs.e6]
  rfl
theorem spec_CountSigs.ok : V.Valid Tryz.prog 309 spec_CountSigs.con :=
  V.fo (V.tab_cons spec_IsSigBy.ok V.tab_nil) Tryz.func309 (by kernel_rfl) (fun x y h => (show V.evBody spec_CountSigs.E spec_CountSigs.con Tryz.f309 x = _ from spec_CountSigs.eq (x.1, x.2.1) x.2.2.1 x.2.2.2).trans (V.cfl (by kernel_rfl) h))
noncomputable abbrev spec_IsSigned.con : V.Con := ⟨(.cons (.sl (.cons (.int .i64) .nil)) (.cons (.int .i64) (.cons (.sl (.cons (.int .i64) .nil)) (.cons (.sl (.cons (.int .i64) (.cons (.int .i64) .nil))) .nil)))), (.cons .bool .nil), fun (x : List Int × Int × List Int × List TSig) => spec_IsSigned (x.1, x.2.1) x.2.2.1 x.2.2.2, [], [(true, 2), (false, 1), (false, 1)], [(false, 1)], [false], []⟩
noncomputable abbrev spec_IsSigned.E : V.Env := V.mkE V.tys [(245, spec_IsKeys.con), (309, spec_CountSigs.con)] [] [(1, 9)] [] [] []
theorem spec_IsSigned.eq (x0 : TKeys) (x1 : List Int) (x2 : List TSig) : V.evBody spec_IsSigned.E spec_IsSigned.con Tryz.f287 ((x0.1, x0.2, x1, x2) : List Int × Int × List Int × List TSig) = spec_IsSigned x0 x1 x2 := by kernel_rfl
theorem spec_IsSigned.ok : V.Valid Tryz.prog 287 spec_IsSigned.con :=
  V.fo (V.tab_cons spec_IsKeys.ok (V.tab_cons spec_CountSigs.ok V.tab_nil)) Tryz.func287 (by kernel_rfl) (fun x y h => (show V.evBody spec_IsSigned.E spec_IsSigned.con Tryz.f287 x = _ from spec_IsSigned.eq (x.1, x.2.1) x.2.2.1 x.2.2.2).trans (V.cfl (by kernel_rfl) h))
noncomputable abbrev spec_IsFirst.con : V.Con := ⟨V.A5, (.cons .bool .nil), fun (x : V.D5) => spec_IsFirst (V.p5_0 x), [], [(true, 17)], [(false, 1)], [false], []⟩
noncomputable abbrev spec_IsFirst.E : V.Env := V.mkE V.tys [(183, spec_IsHead.con), (205, spec_HeadInts.con), (224, spec_ZoneOf.con), (287, spec_IsSigned.con)] [] [(2, 34)] [] [] []
noncomputable abbrev spec_IsFirst.kt (x0 : TSigned) : V.Kt Bool := V.ktOf spec_IsFirst.E spec_IsFirst.con Tryz.f264 (V.fl5 x0)
noncomputable abbrev spec_IsFirst.s (x0 : TSigned) : V.St := ⟨[(0, .v true [.val (.int .i64 x0.1), .val (.int .i64 x0.2.1), .val (.int .i64 x0.2.2.1), .val (.int .i64 x0.2.2.2.1), .val (.int .i64 x0.2.2.2.2.1), .val (.int .i64 x0.2.2.2.2.2.1), .val (.int .i64 x0.2.2.2.2.2.2.1), .val (.int .i64 x0.2.2.2.2.2.2.2.1), .val (.sl (.cons (.int .i64) .nil) x0.2.2.2.2.2.2.2.2.1), .val (.int .i64 x0.2.2.2.2.2.2.2.2.2.1), .val (.sl (.cons (.int .i64) .nil) x0.2.2.2.2.2.2.2.2.2.2.1), .val (.int .i64 x0.2.2.2.2.2.2.2.2.2.2.2.1), .val (.int .i64 x0.2.2.2.2.2.2.2.2.2.2.2.2.1), .val (.sl (.cons (.int .i64) .nil) x0.2.2.2.2.2.2.2.2.2.2.2.2.2.1), .val (.int .i64 x0.2.2.2.2.2.2.2.2.2.2.2.2.2.2.1), .val (.bool x0.2.2.2.2.2.2.2.2.2.2.2.2.2.2.2.1), .val (.sl (.cons (.int .i64) (.cons (.int .i64) .nil)) x0.2.2.2.2.2.2.2.2.2.2.2.2.2.2.2.2)])], []⟩
theorem spec_IsFirst.v0 (x0 : TSigned) : V.evBody spec_IsFirst.E spec_IsFirst.con Tryz.f264 (V.fl5 x0) = V.evC spec_IsFirst.E Tryz.f264.ntmps (V.codeOf Tryz.f264) (spec_IsFirst.kt x0) (spec_IsFirst.s x0) := by kernel_rfl
theorem spec_IsFirst.v (x0 : TSigned) : V.evC spec_IsFirst.E Tryz.f264.ntmps (V.codeOf Tryz.f264) (spec_IsFirst.kt x0) (spec_IsFirst.s x0) = spec_IsFirst x0 := by kernel_rfl
theorem spec_IsFirst.eq (x0 : TSigned) : V.evBody spec_IsFirst.E spec_IsFirst.con Tryz.f264 (V.fl5 x0) = spec_IsFirst x0 := (spec_IsFirst.v0 x0).trans (spec_IsFirst.v x0)
theorem spec_IsFirst.ok : V.Valid Tryz.prog 264 spec_IsFirst.con :=
  V.fo (V.tab_cons spec_IsHead.ok (V.tab_cons spec_HeadInts.ok (V.tab_cons spec_ZoneOf.ok (V.tab_cons spec_IsSigned.ok V.tab_nil)))) Tryz.func264 (by kernel_rfl) (fun x y h => (show V.evBody spec_IsFirst.E spec_IsFirst.con Tryz.f264 x = _ from spec_IsFirst.eq (V.p5_0 x)).trans (V.cfl (by kernel_rfl) h))
noncomputable abbrev spec_HeadDigest.con : V.Con := ⟨V.A4, (.cons (.int .i64) .nil), fun (x : V.D4) => spec_HeadDigest (V.p4_0 x), [], [(true, 16)], [(false, 1)], [false], []⟩
noncomputable abbrev spec_HeadDigest.E : V.Env := V.mkE V.tys [(205, spec_HeadInts.con), (247, spec_Hash.con)] [] [] [] [] []
noncomputable abbrev spec_HeadDigest.kt (x0 : THead) : V.Kt Int := V.ktOf spec_HeadDigest.E spec_HeadDigest.con Tryz.f185 (V.fl4 x0)
noncomputable abbrev spec_HeadDigest.s (x0 : THead) : V.St := ⟨[(0, .v true [.val (.int .i64 x0.1), .val (.int .i64 x0.2.1), .val (.int .i64 x0.2.2.1), .val (.int .i64 x0.2.2.2.1), .val (.int .i64 x0.2.2.2.2.1), .val (.int .i64 x0.2.2.2.2.2.1), .val (.int .i64 x0.2.2.2.2.2.2.1), .val (.int .i64 x0.2.2.2.2.2.2.2.1), .val (.sl (.cons (.int .i64) .nil) x0.2.2.2.2.2.2.2.2.1), .val (.int .i64 x0.2.2.2.2.2.2.2.2.2.1), .val (.sl (.cons (.int .i64) .nil) x0.2.2.2.2.2.2.2.2.2.2.1), .val (.int .i64 x0.2.2.2.2.2.2.2.2.2.2.2.1), .val (.int .i64 x0.2.2.2.2.2.2.2.2.2.2.2.2.1), .val (.sl (.cons (.int .i64) .nil) x0.2.2.2.2.2.2.2.2.2.2.2.2.2.1), .val (.int .i64 x0.2.2.2.2.2.2.2.2.2.2.2.2.2.2.1), .val (.bool x0.2.2.2.2.2.2.2.2.2.2.2.2.2.2.2)])], []⟩
theorem spec_HeadDigest.v0 (x0 : THead) : V.evBody spec_HeadDigest.E spec_HeadDigest.con Tryz.f185 (V.fl4 x0) = V.evC spec_HeadDigest.E Tryz.f185.ntmps (V.codeOf Tryz.f185) (spec_HeadDigest.kt x0) (spec_HeadDigest.s x0) := by kernel_rfl
theorem spec_HeadDigest.v (x0 : THead) : V.evC spec_HeadDigest.E Tryz.f185.ntmps (V.codeOf Tryz.f185) (spec_HeadDigest.kt x0) (spec_HeadDigest.s x0) = spec_HeadDigest x0 := by kernel_rfl
theorem spec_HeadDigest.eq (x0 : THead) : V.evBody spec_HeadDigest.E spec_HeadDigest.con Tryz.f185 (V.fl4 x0) = spec_HeadDigest x0 := (spec_HeadDigest.v0 x0).trans (spec_HeadDigest.v x0)
theorem spec_HeadDigest.ok : V.Valid Tryz.prog 185 spec_HeadDigest.con :=
  V.fo (V.tab_cons spec_HeadInts.ok (V.tab_cons spec_Hash.ok V.tab_nil)) Tryz.func185 (by kernel_rfl) (fun x y h => (show V.evBody spec_HeadDigest.E spec_HeadDigest.con Tryz.f185 x = _ from spec_HeadDigest.eq (V.p4_0 x)).trans (V.cfl (by kernel_rfl) h))
noncomputable abbrev spec_l15Owner.con : V.Con := ⟨V.A8, (.cons (.int .i64) .nil), fun (x : V.D8) => spec_l15Owner (V.p8_0 x) (V.p8_1 x), [], [(true, 16), (true, 16)], [(false, 1)], [false], []⟩
noncomputable abbrev spec_l15Owner.E : V.Env := V.mkE V.tys [] [] [] [] [] []
noncomputable abbrev spec_l15Owner.kt (x0 : THead) (x1 : THead) : V.Kt Int := V.ktOf spec_l15Owner.E spec_l15Owner.con Tryz.f284 (V.fl8 x0 x1)
noncomputable abbrev spec_l15Owner.s (x0 : THead) (x1 : THead) : V.St := ⟨[(0, .v true [.val (.int .i64 x0.1), .val (.int .i64 x0.2.1), .val (.int .i64 x0.2.2.1), .val (.int .i64 x0.2.2.2.1), .val (.int .i64 x0.2.2.2.2.1), .val (.int .i64 x0.2.2.2.2.2.1), .val (.int .i64 x0.2.2.2.2.2.2.1), .val (.int .i64 x0.2.2.2.2.2.2.2.1), .val (.sl (.cons (.int .i64) .nil) x0.2.2.2.2.2.2.2.2.1), .val (.int .i64 x0.2.2.2.2.2.2.2.2.2.1), .val (.sl (.cons (.int .i64) .nil) x0.2.2.2.2.2.2.2.2.2.2.1), .val (.int .i64 x0.2.2.2.2.2.2.2.2.2.2.2.1), .val (.int .i64 x0.2.2.2.2.2.2.2.2.2.2.2.2.1), .val (.sl (.cons (.int .i64) .nil) x0.2.2.2.2.2.2.2.2.2.2.2.2.2.1), .val (.int .i64 x0.2.2.2.2.2.2.2.2.2.2.2.2.2.2.1), .val (.bool x0.2.2.2.2.2.2.2.2.2.2.2.2.2.2.2)]), (1, .v true [.val (.int .i64 x1.1), .val (.int .i64 x1.2.1), .val (.int .i64 x1.2.2.1), .val (.int .i64 x1.2.2.2.1), .val (.int .i64 x1.2.2.2.2.1), .val (.int .i64 x1.2.2.2.2.2.1), .val (.int .i64 x1.2.2.2.2.2.2.1), .val (.int .i64 x1.2.2.2.2.2.2.2.1), .val (.sl (.cons (.int .i64) .nil) x1.2.2.2.2.2.2.2.2.1), .val (.int .i64 x1.2.2.2.2.2.2.2.2.2.1), .val (.sl (.cons (.int .i64) .nil) x1.2.2.2.2.2.2.2.2.2.2.1), .val (.int .i64 x1.2.2.2.2.2.2.2.2.2.2.2.1), .val (.int .i64 x1.2.2.2.2.2.2.2.2.2.2.2.2.1), .val (.sl (.cons (.int .i64) .nil) x1.2.2.2.2.2.2.2.2.2.2.2.2.2.1), .val (.int .i64 x1.2.2.2.2.2.2.2.2.2.2.2.2.2.2.1), .val (.bool x1.2.2.2.2.2.2.2.2.2.2.2.2.2.2.2)])], []⟩
theorem spec_l15Owner.v0 (x0 : THead) (x1 : THead) : V.evBody spec_l15Owner.E spec_l15Owner.con Tryz.f284 (V.fl8 x0 x1) = V.evC spec_l15Owner.E Tryz.f284.ntmps (V.codeOf Tryz.f284) (spec_l15Owner.kt x0 x1) (spec_l15Owner.s x0 x1) := by kernel_rfl
theorem spec_l15Owner.v (x0 : THead) (x1 : THead) : V.evC spec_l15Owner.E Tryz.f284.ntmps (V.codeOf Tryz.f284) (spec_l15Owner.kt x0 x1) (spec_l15Owner.s x0 x1) = spec_l15Owner x0 x1 := by kernel_rfl
theorem spec_l15Owner.eq (x0 : THead) (x1 : THead) : V.evBody spec_l15Owner.E spec_l15Owner.con Tryz.f284 (V.fl8 x0 x1) = spec_l15Owner x0 x1 := (spec_l15Owner.v0 x0 x1).trans (spec_l15Owner.v x0 x1)
theorem spec_l15Owner.ok : V.Valid Tryz.prog 284 spec_l15Owner.con :=
  V.fo V.tab_nil Tryz.func284 (by kernel_rfl) (fun x y h => (show V.evBody spec_l15Owner.E spec_l15Owner.con Tryz.f284 x = _ from spec_l15Owner.eq (V.p8_0 x) (V.p8_1 x)).trans (V.cfl (by kernel_rfl) h))
noncomputable abbrev spec_EqualInts.con : V.Con := ⟨(.cons (.sl (.cons (.int .i64) .nil)) (.cons (.sl (.cons (.int .i64) .nil)) .nil)), (.cons .bool .nil), fun (x : List Int × List Int) => spec_EqualInts x.1 x.2, [], [(false, 1), (false, 1)], [(false, 1)], [false], []⟩
noncomputable abbrev spec_EqualInts.E : V.Env := V.mkE V.tys [] [(8, [0, 1, 5], [])] [(6, 8)] [] [] []
noncomputable abbrev spec_EqualInts.kt (x0 : List Int) (x1 : List Int) : V.Kt Bool := V.ktOf spec_EqualInts.E spec_EqualInts.con Tryz.f204 ((x0, x1) : List Int × List Int)
noncomputable abbrev spec_EqualInts.s8 (x0 : List Int) (x1 : List Int) (v8_2 : Int) : V.St := ⟨[(0, .v false [.val (.sl (.cons (.int .i64) .nil) x0)]), (1, .v false [.val (.sl (.cons (.int .i64) .nil) x1)]), (5, .v false [.val (.int .i64 v8_2)])], []⟩
theorem spec_EqualInts.r8 (x0 : List Int) (x1 : List Int) (R : V.St → Option Bool) (v8_2 : Int) : V.loopF spec_EqualInts.E Tryz.f204.ntmps [1, 1, 0, 1, 0] [] (V.codeOf Tryz.f204) (spec_EqualInts.kt x0 x1) R (spec_EqualInts.s8 x0 x1 v8_2) = spec_EqualInts.g8 x0 x1 (fun v8_2 => R (spec_EqualInts.s8 x0 x1 v8_2)) v8_2 := by kernel_rfl
theorem spec_EqualInts.e8 (x0 : List Int) (x1 : List Int) : ∀ (n : Nat) (v8_2 : Int), V.loopN (V.loopF spec_EqualInts.E Tryz.f204.ntmps [1, 1, 0, 1, 0] [] (V.codeOf Tryz.f204) (spec_EqualInts.kt x0 x1)) n (spec_EqualInts.s8 x0 x1 v8_2) = spec_EqualInts.l8 x0 x1 n v8_2 := by
  intro n
  induction n with
  | zero => intros; rw [V.loopN_z]; rfl
  | succ n ih =>
    intro v8_2
    rw [V.loopN_s, spec_EqualInts.r8]
    simp only [ih]
    first | exact (spec_EqualInts.u8 ..).symm | rfl
theorem spec_EqualInts.v (x0 : List Int) (x1 : List Int) : V.evBody spec_EqualInts.E spec_EqualInts.con Tryz.f204 ((x0, x1) : List Int × List Int) = spec_EqualInts.b x0 x1 (fun v8_2 => V.loopN (V.loopF spec_EqualInts.E Tryz.f204.ntmps [1, 1, 0, 1, 0] [] (V.codeOf Tryz.f204) (spec_EqualInts.kt x0 x1)) V.KK (spec_EqualInts.s8 x0 x1 v8_2)) := by kernel_rfl
theorem spec_EqualInts.eq (x0 : List Int) (x1 : List Int) : V.evBody spec_EqualInts.E spec_EqualInts.con Tryz.f204 ((x0, x1) : List Int × List Int) = spec_EqualInts x0 x1 := by
  rw [spec_EqualInts.v]
  simp only [spec_EqualInts.e8]
  rfl
theorem spec_EqualInts.ok : V.Valid Tryz.prog 204 spec_EqualInts.con :=
  V.fo V.tab_nil Tryz.func204 (by kernel_rfl) (fun x y h => (show V.evBody spec_EqualInts.E spec_EqualInts.con Tryz.f204 x = _ from spec_EqualInts.eq x.1 x.2).trans (V.cfl (by kernel_rfl) h))
noncomputable abbrev spec_EqualKeys.con : V.Con := ⟨(.cons (.sl (.cons (.int .i64) .nil)) (.cons (.int .i64) (.cons (.sl (.cons (.int .i64) .nil)) (.cons (.int .i64) .nil)))), (.cons .bool .nil), fun (x : List Int × Int × List Int × Int) => spec_EqualKeys (x.1, x.2.1) x.2.2, [], [(true, 2), (true, 2)], [(false, 1)], [false], []⟩
noncomputable abbrev spec_EqualKeys.E : V.Env := V.mkE V.tys [(204, spec_EqualInts.con)] [] [] [] [] []
theorem spec_EqualKeys.eq (x0 : TKeys) (x1 : TKeys) : V.evBody spec_EqualKeys.E spec_EqualKeys.con Tryz.f307 ((x0.1, x0.2, x1.1, x1.2) : List Int × Int × List Int × Int) = spec_EqualKeys x0 x1 := by kernel_rfl
theorem spec_EqualKeys.ok : V.Valid Tryz.prog 307 spec_EqualKeys.con :=
  V.fo (V.tab_cons spec_EqualInts.ok V.tab_nil) Tryz.func307 (by kernel_rfl) (fun x y h => (show V.evBody spec_EqualKeys.E spec_EqualKeys.con Tryz.f307 x = _ from spec_EqualKeys.eq (x.1, x.2.1) x.2.2).trans (V.cfl (by kernel_rfl) h))
noncomputable abbrev spec_SameContents.con : V.Con := ⟨V.A8, (.cons .bool .nil), fun (x : V.D8) => spec_SameContents (V.p8_0 x) (V.p8_1 x), [], [(true, 16), (true, 16)], [(false, 1)], [false], []⟩
noncomputable abbrev spec_SameContents.E : V.Env := V.mkE V.tys [] [] [] [] [] []
noncomputable abbrev spec_SameContents.kt (x0 : THead) (x1 : THead) : V.Kt Bool := V.ktOf spec_SameContents.E spec_SameContents.con Tryz.f308 (V.fl8 x0 x1)
noncomputable abbrev spec_SameContents.s (x0 : THead) (x1 : THead) : V.St := ⟨[(0, .v true [.val (.int .i64 x0.1), .val (.int .i64 x0.2.1), .val (.int .i64 x0.2.2.1), .val (.int .i64 x0.2.2.2.1), .val (.int .i64 x0.2.2.2.2.1), .val (.int .i64 x0.2.2.2.2.2.1), .val (.int .i64 x0.2.2.2.2.2.2.1), .val (.int .i64 x0.2.2.2.2.2.2.2.1), .val (.sl (.cons (.int .i64) .nil) x0.2.2.2.2.2.2.2.2.1), .val (.int .i64 x0.2.2.2.2.2.2.2.2.2.1), .val (.sl (.cons (.int .i64) .nil) x0.2.2.2.2.2.2.2.2.2.2.1), .val (.int .i64 x0.2.2.2.2.2.2.2.2.2.2.2.1), .val (.int .i64 x0.2.2.2.2.2.2.2.2.2.2.2.2.1), .val (.sl (.cons (.int .i64) .nil) x0.2.2.2.2.2.2.2.2.2.2.2.2.2.1), .val (.int .i64 x0.2.2.2.2.2.2.2.2.2.2.2.2.2.2.1), .val (.bool x0.2.2.2.2.2.2.2.2.2.2.2.2.2.2.2)]), (1, .v true [.val (.int .i64 x1.1), .val (.int .i64 x1.2.1), .val (.int .i64 x1.2.2.1), .val (.int .i64 x1.2.2.2.1), .val (.int .i64 x1.2.2.2.2.1), .val (.int .i64 x1.2.2.2.2.2.1), .val (.int .i64 x1.2.2.2.2.2.2.1), .val (.int .i64 x1.2.2.2.2.2.2.2.1), .val (.sl (.cons (.int .i64) .nil) x1.2.2.2.2.2.2.2.2.1), .val (.int .i64 x1.2.2.2.2.2.2.2.2.2.1), .val (.sl (.cons (.int .i64) .nil) x1.2.2.2.2.2.2.2.2.2.2.1), .val (.int .i64 x1.2.2.2.2.2.2.2.2.2.2.2.1), .val (.int .i64 x1.2.2.2.2.2.2.2.2.2.2.2.2.1), .val (.sl (.cons (.int .i64) .nil) x1.2.2.2.2.2.2.2.2.2.2.2.2.2.1), .val (.int .i64 x1.2.2.2.2.2.2.2.2.2.2.2.2.2.2.1), .val (.bool x1.2.2.2.2.2.2.2.2.2.2.2.2.2.2.2)])], []⟩
theorem spec_SameContents.v0 (x0 : THead) (x1 : THead) : V.evBody spec_SameContents.E spec_SameContents.con Tryz.f308 (V.fl8 x0 x1) = V.evC spec_SameContents.E Tryz.f308.ntmps (V.codeOf Tryz.f308) (spec_SameContents.kt x0 x1) (spec_SameContents.s x0 x1) := by kernel_rfl
theorem spec_SameContents.v (x0 : THead) (x1 : THead) : V.evC spec_SameContents.E Tryz.f308.ntmps (V.codeOf Tryz.f308) (spec_SameContents.kt x0 x1) (spec_SameContents.s x0 x1) = spec_SameContents x0 x1 := by kernel_rfl
theorem spec_SameContents.eq (x0 : THead) (x1 : THead) : V.evBody spec_SameContents.E spec_SameContents.con Tryz.f308 (V.fl8 x0 x1) = spec_SameContents x0 x1 := (spec_SameContents.v0 x0 x1).trans (spec_SameContents.v x0 x1)
theorem spec_SameContents.ok : V.Valid Tryz.prog 308 spec_SameContents.con :=
  V.fo V.tab_nil Tryz.func308 (by kernel_rfl) (fun x y h => (show V.evBody spec_SameContents.E spec_SameContents.con Tryz.f308 x = _ from spec_SameContents.eq (V.p8_0 x) (V.p8_1 x)).trans (V.cfl (by kernel_rfl) h))
noncomputable abbrev spec_l15Heir.con : V.Con := ⟨V.A8, (.cons (.int .i64) .nil), fun (x : V.D8) => spec_l15Heir (V.p8_0 x) (V.p8_1 x), [], [(true, 16), (true, 16)], [(false, 1)], [false], []⟩
noncomputable abbrev spec_l15Heir.E : V.Env := V.mkE V.tys [(246, spec_NoKeys.con), (307, spec_EqualKeys.con), (308, spec_SameContents.con)] [(9, [2, 3, 8], [])] [] [] [] []
noncomputable abbrev spec_l15Heir.kt (x0 : THead) (x1 : THead) : V.Kt Int := V.ktOf spec_l15Heir.E spec_l15Heir.con Tryz.f285 (V.fl8 x0 x1)
noncomputable abbrev spec_l15Heir.s9 (x0 : THead) (x1 : THead) (v9_0 : Bool) : V.St := ⟨[(2, .v false [.ptr 64000 0]), (3, .v false [.ptr 64064 0]), (8, .v false [.val (.bool v9_0)])], [(64000, .box [.val (.int .i64 x0.1), .val (.int .i64 x0.2.1), .val (.int .i64 x0.2.2.1), .val (.int .i64 x0.2.2.2.1), .val (.int .i64 x0.2.2.2.2.1), .val (.int .i64 x0.2.2.2.2.2.1), .val (.int .i64 x0.2.2.2.2.2.2.1), .val (.int .i64 x0.2.2.2.2.2.2.2.1), .val (.sl (.cons (.int .i64) .nil) x0.2.2.2.2.2.2.2.2.1), .val (.int .i64 x0.2.2.2.2.2.2.2.2.2.1), .val (.sl (.cons (.int .i64) .nil) x0.2.2.2.2.2.2.2.2.2.2.1), .val (.int .i64 x0.2.2.2.2.2.2.2.2.2.2.2.1), .val (.int .i64 x0.2.2.2.2.2.2.2.2.2.2.2.2.1), .val (.sl (.cons (.int .i64) .nil) x0.2.2.2.2.2.2.2.2.2.2.2.2.2.1), .val (.int .i64 x0.2.2.2.2.2.2.2.2.2.2.2.2.2.2.1), .val (.bool x0.2.2.2.2.2.2.2.2.2.2.2.2.2.2.2)]), (64064, .box [.val (.int .i64 x1.1), .val (.int .i64 x1.2.1), .val (.int .i64 x1.2.2.1), .val (.int .i64 x1.2.2.2.1), .val (.int .i64 x1.2.2.2.2.1), .val (.int .i64 x1.2.2.2.2.2.1), .val (.int .i64 x1.2.2.2.2.2.2.1), .val (.int .i64 x1.2.2.2.2.2.2.2.1), .val (.sl (.cons (.int .i64) .nil) x1.2.2.2.2.2.2.2.2.1), .val (.int .i64 x1.2.2.2.2.2.2.2.2.2.1), .val (.sl (.cons (.int .i64) .nil) x1.2.2.2.2.2.2.2.2.2.2.1), .val (.int .i64 x1.2.2.2.2.2.2.2.2.2.2.2.1), .val (.int .i64 x1.2.2.2.2.2.2.2.2.2.2.2.2.1), .val (.sl (.cons (.int .i64) .nil) x1.2.2.2.2.2.2.2.2.2.2.2.2.2.1), .val (.int .i64 x1.2.2.2.2.2.2.2.2.2.2.2.2.2.2.1), .val (.bool x1.2.2.2.2.2.2.2.2.2.2.2.2.2.2.2)])]⟩
theorem spec_l15Heir.r9 (x0 : THead) (x1 : THead) (v9_0 : Bool) : V.joinF spec_l15Heir.E Tryz.f285.ntmps [1, 0, 0, 1, 1] [] (V.codeOf Tryz.f285) (spec_l15Heir.kt x0 x1) (spec_l15Heir.s9 x0 x1 v9_0) = spec_l15Heir.g9 x0 x1 v9_0 := by kernel_rfl
theorem spec_l15Heir.e9 (x0 : THead) (x1 : THead) (v9_0 : Bool) : V.jn (V.joinF spec_l15Heir.E Tryz.f285.ntmps [1, 0, 0, 1, 1] [] (V.codeOf Tryz.f285) (spec_l15Heir.kt x0 x1)) (spec_l15Heir.s9 x0 x1 v9_0) = spec_l15Heir.l9 x0 x1 v9_0 := by
  rw [V.jn_eq, spec_l15Heir.r9]
  rfl
noncomputable abbrev spec_l15Heir.s (x0 : THead) (x1 : THead) : V.St := ⟨[(0, .v true [.val (.int .i64 x0.1), .val (.int .i64 x0.2.1), .val (.int .i64 x0.2.2.1), .val (.int .i64 x0.2.2.2.1), .val (.int .i64 x0.2.2.2.2.1), .val (.int .i64 x0.2.2.2.2.2.1), .val (.int .i64 x0.2.2.2.2.2.2.1), .val (.int .i64 x0.2.2.2.2.2.2.2.1), .val (.sl (.cons (.int .i64) .nil) x0.2.2.2.2.2.2.2.2.1), .val (.int .i64 x0.2.2.2.2.2.2.2.2.2.1), .val (.sl (.cons (.int .i64) .nil) x0.2.2.2.2.2.2.2.2.2.2.1), .val (.int .i64 x0.2.2.2.2.2.2.2.2.2.2.2.1), .val (.int .i64 x0.2.2.2.2.2.2.2.2.2.2.2.2.1), .val (.sl (.cons (.int .i64) .nil) x0.2.2.2.2.2.2.2.2.2.2.2.2.2.1), .val (.int .i64 x0.2.2.2.2.2.2.2.2.2.2.2.2.2.2.1), .val (.bool x0.2.2.2.2.2.2.2.2.2.2.2.2.2.2.2)]), (1, .v true [.val (.int .i64 x1.1), .val (.int .i64 x1.2.1), .val (.int .i64 x1.2.2.1), .val (.int .i64 x1.2.2.2.1), .val (.int .i64 x1.2.2.2.2.1), .val (.int .i64 x1.2.2.2.2.2.1), .val (.int .i64 x1.2.2.2.2.2.2.1), .val (.int .i64 x1.2.2.2.2.2.2.2.1), .val (.sl (.cons (.int .i64) .nil) x1.2.2.2.2.2.2.2.2.1), .val (.int .i64 x1.2.2.2.2.2.2.2.2.2.1), .val (.sl (.cons (.int .i64) .nil) x1.2.2.2.2.2.2.2.2.2.2.1), .val (.int .i64 x1.2.2.2.2.2.2.2.2.2.2.2.1), .val (.int .i64 x1.2.2.2.2.2.2.2.2.2.2.2.2.1), .val (.sl (.cons (.int .i64) .nil) x1.2.2.2.2.2.2.2.2.2.2.2.2.2.1), .val (.int .i64 x1.2.2.2.2.2.2.2.2.2.2.2.2.2.2.1), .val (.bool x1.2.2.2.2.2.2.2.2.2.2.2.2.2.2.2)])], []⟩
theorem spec_l15Heir.v0 (x0 : THead) (x1 : THead) : V.evBody spec_l15Heir.E spec_l15Heir.con Tryz.f285 (V.fl8 x0 x1) = V.evC spec_l15Heir.E Tryz.f285.ntmps (V.codeOf Tryz.f285) (spec_l15Heir.kt x0 x1) (spec_l15Heir.s x0 x1) := by kernel_rfl
theorem spec_l15Heir.v (x0 : THead) (x1 : THead) : V.evC spec_l15Heir.E Tryz.f285.ntmps (V.codeOf Tryz.f285) (spec_l15Heir.kt x0 x1) (spec_l15Heir.s x0 x1) = spec_l15Heir.b x0 x1 (fun v9_0 => V.jn (V.joinF spec_l15Heir.E Tryz.f285.ntmps [1, 0, 0, 1, 1] [] (V.codeOf Tryz.f285) (spec_l15Heir.kt x0 x1)) (spec_l15Heir.s9 x0 x1 v9_0)) := by kernel_rfl
theorem spec_l15Heir.eq (x0 : THead) (x1 : THead) : V.evBody spec_l15Heir.E spec_l15Heir.con Tryz.f285 (V.fl8 x0 x1) = spec_l15Heir x0 x1 := by
  rw [spec_l15Heir.v0, spec_l15Heir.v]
  simp only [spec_l15Heir.e9]
  rfl
theorem spec_l15Heir.ok : V.Valid Tryz.prog 285 spec_l15Heir.con :=
  V.fo (V.tab_cons spec_NoKeys.ok (V.tab_cons spec_EqualKeys.ok (V.tab_cons spec_SameContents.ok V.tab_nil))) Tryz.func285 (by kernel_rfl) (fun x y h => (show V.evBody spec_l15Heir.E spec_l15Heir.con Tryz.f285 x = _ from spec_l15Heir.eq (V.p8_0 x) (V.p8_1 x)).trans (V.cfl (by kernel_rfl) h))
noncomputable abbrev spec_l15Judge.con : V.Con := ⟨V.A8, (.cons (.int .i64) .nil), fun (x : V.D8) => spec_l15Judge (V.p8_0 x) (V.p8_1 x), [], [(true, 16), (true, 16)], [(false, 1)], [false], []⟩
noncomputable abbrev spec_l15Judge.E : V.Env := V.mkE V.tys [(246, spec_NoKeys.con), (307, spec_EqualKeys.con), (308, spec_SameContents.con)] [(9, [2, 3, 9], [])] [] [] [] []
noncomputable abbrev spec_l15Judge.kt (x0 : THead) (x1 : THead) : V.Kt Int := V.ktOf spec_l15Judge.E spec_l15Judge.con Tryz.f286 (V.fl8 x0 x1)
noncomputable abbrev spec_l15Judge.s9 (x0 : THead) (x1 : THead) (v9_0 : Bool) : V.St := ⟨[(2, .v false [.ptr 64000 0]), (3, .v false [.ptr 64064 0]), (9, .v false [.val (.bool v9_0)])], [(64000, .box [.val (.int .i64 x0.1), .val (.int .i64 x0.2.1), .val (.int .i64 x0.2.2.1), .val (.int .i64 x0.2.2.2.1), .val (.int .i64 x0.2.2.2.2.1), .val (.int .i64 x0.2.2.2.2.2.1), .val (.int .i64 x0.2.2.2.2.2.2.1), .val (.int .i64 x0.2.2.2.2.2.2.2.1), .val (.sl (.cons (.int .i64) .nil) x0.2.2.2.2.2.2.2.2.1), .val (.int .i64 x0.2.2.2.2.2.2.2.2.2.1), .val (.sl (.cons (.int .i64) .nil) x0.2.2.2.2.2.2.2.2.2.2.1), .val (.int .i64 x0.2.2.2.2.2.2.2.2.2.2.2.1), .val (.int .i64 x0.2.2.2.2.2.2.2.2.2.2.2.2.1), .val (.sl (.cons (.int .i64) .nil) x0.2.2.2.2.2.2.2.2.2.2.2.2.2.1), .val (.int .i64 x0.2.2.2.2.2.2.2.2.2.2.2.2.2.2.1), .val (.bool x0.2.2.2.2.2.2.2.2.2.2.2.2.2.2.2)]), (64064, .box [.val (.int .i64 x1.1), .val (.int .i64 x1.2.1), .val (.int .i64 x1.2.2.1), .val (.int .i64 x1.2.2.2.1), .val (.int .i64 x1.2.2.2.2.1), .val (.int .i64 x1.2.2.2.2.2.1), .val (.int .i64 x1.2.2.2.2.2.2.1), .val (.int .i64 x1.2.2.2.2.2.2.2.1), .val (.sl (.cons (.int .i64) .nil) x1.2.2.2.2.2.2.2.2.1), .val (.int .i64 x1.2.2.2.2.2.2.2.2.2.1), .val (.sl (.cons (.int .i64) .nil) x1.2.2.2.2.2.2.2.2.2.2.1), .val (.int .i64 x1.2.2.2.2.2.2.2.2.2.2.2.1), .val (.int .i64 x1.2.2.2.2.2.2.2.2.2.2.2.2.1), .val (.sl (.cons (.int .i64) .nil) x1.2.2.2.2.2.2.2.2.2.2.2.2.2.1), .val (.int .i64 x1.2.2.2.2.2.2.2.2.2.2.2.2.2.2.1), .val (.bool x1.2.2.2.2.2.2.2.2.2.2.2.2.2.2.2)])]⟩
theorem spec_l15Judge.r9 (x0 : THead) (x1 : THead) (v9_0 : Bool) : V.joinF spec_l15Judge.E Tryz.f286.ntmps [1, 0, 0, 1, 1] [] (V.codeOf Tryz.f286) (spec_l15Judge.kt x0 x1) (spec_l15Judge.s9 x0 x1 v9_0) = spec_l15Judge.g9 x0 x1 v9_0 := by kernel_rfl
theorem spec_l15Judge.e9 (x0 : THead) (x1 : THead) (v9_0 : Bool) : V.jn (V.joinF spec_l15Judge.E Tryz.f286.ntmps [1, 0, 0, 1, 1] [] (V.codeOf Tryz.f286) (spec_l15Judge.kt x0 x1)) (spec_l15Judge.s9 x0 x1 v9_0) = spec_l15Judge.l9 x0 x1 v9_0 := by
  rw [V.jn_eq, spec_l15Judge.r9]
  rfl
noncomputable abbrev spec_l15Judge.s (x0 : THead) (x1 : THead) : V.St := ⟨[(0, .v true [.val (.int .i64 x0.1), .val (.int .i64 x0.2.1), .val (.int .i64 x0.2.2.1), .val (.int .i64 x0.2.2.2.1), .val (.int .i64 x0.2.2.2.2.1), .val (.int .i64 x0.2.2.2.2.2.1), .val (.int .i64 x0.2.2.2.2.2.2.1), .val (.int .i64 x0.2.2.2.2.2.2.2.1), .val (.sl (.cons (.int .i64) .nil) x0.2.2.2.2.2.2.2.2.1), .val (.int .i64 x0.2.2.2.2.2.2.2.2.2.1), .val (.sl (.cons (.int .i64) .nil) x0.2.2.2.2.2.2.2.2.2.2.1), .val (.int .i64 x0.2.2.2.2.2.2.2.2.2.2.2.1), .val (.int .i64 x0.2.2.2.2.2.2.2.2.2.2.2.2.1), .val (.sl (.cons (.int .i64) .nil) x0.2.2.2.2.2.2.2.2.2.2.2.2.2.1), .val (.int .i64 x0.2.2.2.2.2.2.2.2.2.2.2.2.2.2.1), .val (.bool x0.2.2.2.2.2.2.2.2.2.2.2.2.2.2.2)]), (1, .v true [.val (.int .i64 x1.1), .val (.int .i64 x1.2.1), .val (.int .i64 x1.2.2.1), .val (.int .i64 x1.2.2.2.1), .val (.int .i64 x1.2.2.2.2.1), .val (.int .i64 x1.2.2.2.2.2.1), .val (.int .i64 x1.2.2.2.2.2.2.1), .val (.int .i64 x1.2.2.2.2.2.2.2.1), .val (.sl (.cons (.int .i64) .nil) x1.2.2.2.2.2.2.2.2.1), .val (.int .i64 x1.2.2.2.2.2.2.2.2.2.1), .val (.sl (.cons (.int .i64) .nil) x1.2.2.2.2.2.2.2.2.2.2.1), .val (.int .i64 x1.2.2.2.2.2.2.2.2.2.2.2.1), .val (.int .i64 x1.2.2.2.2.2.2.2.2.2.2.2.2.1), .val (.sl (.cons (.int .i64) .nil) x1.2.2.2.2.2.2.2.2.2.2.2.2.2.1), .val (.int .i64 x1.2.2.2.2.2.2.2.2.2.2.2.2.2.2.1), .val (.bool x1.2.2.2.2.2.2.2.2.2.2.2.2.2.2.2)])], []⟩
theorem spec_l15Judge.v0 (x0 : THead) (x1 : THead) : V.evBody spec_l15Judge.E spec_l15Judge.con Tryz.f286 (V.fl8 x0 x1) = V.evC spec_l15Judge.E Tryz.f286.ntmps (V.codeOf Tryz.f286) (spec_l15Judge.kt x0 x1) (spec_l15Judge.s x0 x1) := by kernel_rfl
theorem spec_l15Judge.v (x0 : THead) (x1 : THead) : V.evC spec_l15Judge.E Tryz.f286.ntmps (V.codeOf Tryz.f286) (spec_l15Judge.kt x0 x1) (spec_l15Judge.s x0 x1) = spec_l15Judge.b x0 x1 (fun v9_0 => V.jn (V.joinF spec_l15Judge.E Tryz.f286.ntmps [1, 0, 0, 1, 1] [] (V.codeOf Tryz.f286) (spec_l15Judge.kt x0 x1)) (spec_l15Judge.s9 x0 x1 v9_0)) := by kernel_rfl
theorem spec_l15Judge.eq (x0 : THead) (x1 : THead) : V.evBody spec_l15Judge.E spec_l15Judge.con Tryz.f286 (V.fl8 x0 x1) = spec_l15Judge x0 x1 := by
  rw [spec_l15Judge.v0, spec_l15Judge.v]
  simp only [spec_l15Judge.e9]
  rfl
theorem spec_l15Judge.ok : V.Valid Tryz.prog 286 spec_l15Judge.con :=
  V.fo (V.tab_cons spec_NoKeys.ok (V.tab_cons spec_EqualKeys.ok (V.tab_cons spec_SameContents.ok V.tab_nil))) Tryz.func286 (by kernel_rfl) (fun x y h => (show V.evBody spec_l15Judge.E spec_l15Judge.con Tryz.f286 x = _ from spec_l15Judge.eq (V.p8_0 x) (V.p8_1 x)).trans (V.cfl (by kernel_rfl) h))
noncomputable abbrev spec_NextCode.con : V.Con := ⟨V.A9, (.cons (.int .i64) .nil), fun (x : V.D9) => spec_NextCode (V.p9_0 x) (V.p9_1 x), [], [(true, 16), (true, 17)], [(false, 1)], [false], []⟩
noncomputable abbrev spec_NextCode.E : V.Env := V.mkE V.tys [(183, spec_IsHead.con), (185, spec_HeadDigest.con), (205, spec_HeadInts.con), (284, spec_l15Owner.con), (285, spec_l15Heir.con), (286, spec_l15Judge.con), (287, spec_IsSigned.con)] [(9, [2, 3, 5], []), (13, [2, 3, 5], []), (31, [3, 5, 6, 7], [])] [(4, 25), (15, 8)] [] [] []
noncomputable abbrev spec_NextCode.kt (x0 : THead) (x1 : TSigned) : V.Kt Int := V.ktOf spec_NextCode.E spec_NextCode.con Tryz.f242 (V.fl9 x0 x1)
noncomputable abbrev spec_NextCode.s31 (x1 : TSigned) (v31_0 : Int) (v31_34 : List Int) (v31_35 : Int) : V.St := ⟨[(3, .v false [.ptr 64064 0]), (5, .v false [.ptr 128128 0]), (6, .v false [.val (.int .i64 v31_0)]), (7, .v false [.ptr 512128 0])], [(64064, .box [.val (.int .i64 x1.1), .val (.int .i64 x1.2.1), .val (.int .i64 x1.2.2.1), .val (.int .i64 x1.2.2.2.1), .val (.int .i64 x1.2.2.2.2.1), .val (.int .i64 x1.2.2.2.2.2.1), .val (.int .i64 x1.2.2.2.2.2.2.1), .val (.int .i64 x1.2.2.2.2.2.2.2.1), .val (.sl (.cons (.int .i64) .nil) x1.2.2.2.2.2.2.2.2.1), .val (.int .i64 x1.2.2.2.2.2.2.2.2.2.1), .val (.sl (.cons (.int .i64) .nil) x1.2.2.2.2.2.2.2.2.2.2.1), .val (.int .i64 x1.2.2.2.2.2.2.2.2.2.2.2.1), .val (.int .i64 x1.2.2.2.2.2.2.2.2.2.2.2.2.1), .val (.sl (.cons (.int .i64) .nil) x1.2.2.2.2.2.2.2.2.2.2.2.2.2.1), .val (.int .i64 x1.2.2.2.2.2.2.2.2.2.2.2.2.2.2.1), .val (.bool x1.2.2.2.2.2.2.2.2.2.2.2.2.2.2.2.1), .val (.sl (.cons (.int .i64) (.cons (.int .i64) .nil)) x1.2.2.2.2.2.2.2.2.2.2.2.2.2.2.2.2)]), (128128, .box [.val (.int .i64 x1.1), .val (.int .i64 x1.2.1), .val (.int .i64 x1.2.2.1), .val (.int .i64 x1.2.2.2.1), .val (.int .i64 x1.2.2.2.2.1), .val (.int .i64 x1.2.2.2.2.2.1), .val (.int .i64 x1.2.2.2.2.2.2.1), .val (.int .i64 x1.2.2.2.2.2.2.2.1), .val (.sl (.cons (.int .i64) .nil) x1.2.2.2.2.2.2.2.2.1), .val (.int .i64 x1.2.2.2.2.2.2.2.2.2.1), .val (.sl (.cons (.int .i64) .nil) x1.2.2.2.2.2.2.2.2.2.2.1), .val (.int .i64 x1.2.2.2.2.2.2.2.2.2.2.2.1), .val (.int .i64 x1.2.2.2.2.2.2.2.2.2.2.2.2.1), .val (.sl (.cons (.int .i64) .nil) x1.2.2.2.2.2.2.2.2.2.2.2.2.2.1), .val (.int .i64 x1.2.2.2.2.2.2.2.2.2.2.2.2.2.2.1), .val (.bool x1.2.2.2.2.2.2.2.2.2.2.2.2.2.2.2.1)]), (512128, .box [.val (.sl (.cons (.int .i64) .nil) v31_34), .val (.int .i64 v31_35)])]⟩
noncomputable abbrev spec_NextCode.s13 (x0 : THead) (x1 : TSigned) : V.St := ⟨[(2, .v false [.ptr 64000 0]), (3, .v false [.ptr 64064 0]), (5, .v false [.ptr 128128 0])], [(64000, .box [.val (.int .i64 x0.1), .val (.int .i64 x0.2.1), .val (.int .i64 x0.2.2.1), .val (.int .i64 x0.2.2.2.1), .val (.int .i64 x0.2.2.2.2.1), .val (.int .i64 x0.2.2.2.2.2.1), .val (.int .i64 x0.2.2.2.2.2.2.1), .val (.int .i64 x0.2.2.2.2.2.2.2.1), .val (.sl (.cons (.int .i64) .nil) x0.2.2.2.2.2.2.2.2.1), .val (.int .i64 x0.2.2.2.2.2.2.2.2.2.1), .val (.sl (.cons (.int .i64) .nil) x0.2.2.2.2.2.2.2.2.2.2.1), .val (.int .i64 x0.2.2.2.2.2.2.2.2.2.2.2.1), .val (.int .i64 x0.2.2.2.2.2.2.2.2.2.2.2.2.1), .val (.sl (.cons (.int .i64) .nil) x0.2.2.2.2.2.2.2.2.2.2.2.2.2.1), .val (.int .i64 x0.2.2.2.2.2.2.2.2.2.2.2.2.2.2.1), .val (.bool x0.2.2.2.2.2.2.2.2.2.2.2.2.2.2.2)]), (64064, .box [.val (.int .i64 x1.1), .val (.int .i64 x1.2.1), .val (.int .i64 x1.2.2.1), .val (.int .i64 x1.2.2.2.1), .val (.int .i64 x1.2.2.2.2.1), .val (.int .i64 x1.2.2.2.2.2.1), .val (.int .i64 x1.2.2.2.2.2.2.1), .val (.int .i64 x1.2.2.2.2.2.2.2.1), .val (.sl (.cons (.int .i64) .nil) x1.2.2.2.2.2.2.2.2.1), .val (.int .i64 x1.2.2.2.2.2.2.2.2.2.1), .val (.sl (.cons (.int .i64) .nil) x1.2.2.2.2.2.2.2.2.2.2.1), .val (.int .i64 x1.2.2.2.2.2.2.2.2.2.2.2.1), .val (.int .i64 x1.2.2.2.2.2.2.2.2.2.2.2.2.1), .val (.sl (.cons (.int .i64) .nil) x1.2.2.2.2.2.2.2.2.2.2.2.2.2.1), .val (.int .i64 x1.2.2.2.2.2.2.2.2.2.2.2.2.2.2.1), .val (.bool x1.2.2.2.2.2.2.2.2.2.2.2.2.2.2.2.1), .val (.sl (.cons (.int .i64) (.cons (.int .i64) .nil)) x1.2.2.2.2.2.2.2.2.2.2.2.2.2.2.2.2)]), (128128, .box [.val (.int .i64 x1.1), .val (.int .i64 x1.2.1), .val (.int .i64 x1.2.2.1), .val (.int .i64 x1.2.2.2.1), .val (.int .i64 x1.2.2.2.2.1), .val (.int .i64 x1.2.2.2.2.2.1), .val (.int .i64 x1.2.2.2.2.2.2.1), .val (.int .i64 x1.2.2.2.2.2.2.2.1), .val (.sl (.cons (.int .i64) .nil) x1.2.2.2.2.2.2.2.2.1), .val (.int .i64 x1.2.2.2.2.2.2.2.2.2.1), .val (.sl (.cons (.int .i64) .nil) x1.2.2.2.2.2.2.2.2.2.2.1), .val (.int .i64 x1.2.2.2.2.2.2.2.2.2.2.2.1), .val (.int .i64 x1.2.2.2.2.2.2.2.2.2.2.2.2.1), .val (.sl (.cons (.int .i64) .nil) x1.2.2.2.2.2.2.2.2.2.2.2.2.2.1), .val (.int .i64 x1.2.2.2.2.2.2.2.2.2.2.2.2.2.2.1), .val (.bool x1.2.2.2.2.2.2.2.2.2.2.2.2.2.2.2.1)])]⟩
noncomputable abbrev spec_NextCode.s9 (x0 : THead) (x1 : TSigned) : V.St := ⟨[(2, .v false [.ptr 64000 0]), (3, .v false [.ptr 64064 0]), (5, .v false [.ptr 128128 0])], [(64000, .box [.val (.int .i64 x0.1), .val (.int .i64 x0.2.1), .val (.int .i64 x0.2.2.1), .val (.int .i64 x0.2.2.2.1), .val (.int .i64 x0.2.2.2.2.1), .val (.int .i64 x0.2.2.2.2.2.1), .val (.int .i64 x0.2.2.2.2.2.2.1), .val (.int .i64 x0.2.2.2.2.2.2.2.1), .val (.sl (.cons (.int .i64) .nil) x0.2.2.2.2.2.2.2.2.1), .val (.int .i64 x0.2.2.2.2.2.2.2.2.2.1), .val (.sl (.cons (.int .i64) .nil) x0.2.2.2.2.2.2.2.2.2.2.1), .val (.int .i64 x0.2.2.2.2.2.2.2.2.2.2.2.1), .val (.int .i64 x0.2.2.2.2.2.2.2.2.2.2.2.2.1), .val (.sl (.cons (.int .i64) .nil) x0.2.2.2.2.2.2.2.2.2.2.2.2.2.1), .val (.int .i64 x0.2.2.2.2.2.2.2.2.2.2.2.2.2.2.1), .val (.bool x0.2.2.2.2.2.2.2.2.2.2.2.2.2.2.2)]), (64064, .box [.val (.int .i64 x1.1), .val (.int .i64 x1.2.1), .val (.int .i64 x1.2.2.1), .val (.int .i64 x1.2.2.2.1), .val (.int .i64 x1.2.2.2.2.1), .val (.int .i64 x1.2.2.2.2.2.1), .val (.int .i64 x1.2.2.2.2.2.2.1), .val (.int .i64 x1.2.2.2.2.2.2.2.1), .val (.sl (.cons (.int .i64) .nil) x1.2.2.2.2.2.2.2.2.1), .val (.int .i64 x1.2.2.2.2.2.2.2.2.2.1), .val (.sl (.cons (.int .i64) .nil) x1.2.2.2.2.2.2.2.2.2.2.1), .val (.int .i64 x1.2.2.2.2.2.2.2.2.2.2.2.1), .val (.int .i64 x1.2.2.2.2.2.2.2.2.2.2.2.2.1), .val (.sl (.cons (.int .i64) .nil) x1.2.2.2.2.2.2.2.2.2.2.2.2.2.1), .val (.int .i64 x1.2.2.2.2.2.2.2.2.2.2.2.2.2.2.1), .val (.bool x1.2.2.2.2.2.2.2.2.2.2.2.2.2.2.2.1), .val (.sl (.cons (.int .i64) (.cons (.int .i64) .nil)) x1.2.2.2.2.2.2.2.2.2.2.2.2.2.2.2.2)]), (128128, .box [.val (.int .i64 x1.1), .val (.int .i64 x1.2.1), .val (.int .i64 x1.2.2.1), .val (.int .i64 x1.2.2.2.1), .val (.int .i64 x1.2.2.2.2.1), .val (.int .i64 x1.2.2.2.2.2.1), .val (.int .i64 x1.2.2.2.2.2.2.1), .val (.int .i64 x1.2.2.2.2.2.2.2.1), .val (.sl (.cons (.int .i64) .nil) x1.2.2.2.2.2.2.2.2.1), .val (.int .i64 x1.2.2.2.2.2.2.2.2.2.1), .val (.sl (.cons (.int .i64) .nil) x1.2.2.2.2.2.2.2.2.2.2.1), .val (.int .i64 x1.2.2.2.2.2.2.2.2.2.2.2.1), .val (.int .i64 x1.2.2.2.2.2.2.2.2.2.2.2.2.1), .val (.sl (.cons (.int .i64) .nil) x1.2.2.2.2.2.2.2.2.2.2.2.2.2.1), .val (.int .i64 x1.2.2.2.2.2.2.2.2.2.2.2.2.2.2.1), .val (.bool x1.2.2.2.2.2.2.2.2.2.2.2.2.2.2.2.1)])]⟩
theorem spec_NextCode.r31 (x0 : THead) (x1 : TSigned) (v31_0 : Int) (v31_34 : List Int) (v31_35 : Int) : V.joinF spec_NextCode.E Tryz.f242.ntmps [1, 1, 1, 1, 1, 1] [] (V.codeOf Tryz.f242) (spec_NextCode.kt x0 x1) (spec_NextCode.s31 x1 v31_0 v31_34 v31_35) = spec_NextCode.g31 x1 v31_0 v31_34 v31_35 := by kernel_rfl
theorem spec_NextCode.e31 (x0 : THead) (x1 : TSigned) (v31_0 : Int) (v31_34 : List Int) (v31_35 : Int) : V.jn (V.joinF spec_NextCode.E Tryz.f242.ntmps [1, 1, 1, 1, 1, 1] [] (V.codeOf Tryz.f242) (spec_NextCode.kt x0 x1)) (spec_NextCode.s31 x1 v31_0 v31_34 v31_35) = spec_NextCode.l31 x1 v31_0 v31_34 v31_35 := by
  rw [V.jn_eq, spec_NextCode.r31]
  rfl
theorem spec_NextCode.r13 (x0 : THead) (x1 : TSigned) : V.joinF spec_NextCode.E Tryz.f242.ntmps [1, 1, 1] [] (V.codeOf Tryz.f242) (spec_NextCode.kt x0 x1) (spec_NextCode.s13 x0 x1) = spec_NextCode.g13 x0 x1 (fun v31_0 v31_34 v31_35 => V.jn (V.joinF spec_NextCode.E Tryz.f242.ntmps [1, 1, 1, 1, 1, 1] [] (V.codeOf Tryz.f242) (spec_NextCode.kt x0 x1)) (spec_NextCode.s31 x1 v31_0 v31_34 v31_35)) := by kernel_rfl
theorem spec_NextCode.e13 (x0 : THead) (x1 : TSigned) : V.jn (V.joinF spec_NextCode.E Tryz.f242.ntmps [1, 1, 1] [] (V.codeOf Tryz.f242) (spec_NextCode.kt x0 x1)) (spec_NextCode.s13 x0 x1) = spec_NextCode.l13 x0 x1 := by
  rw [V.jn_eq, spec_NextCode.r13]
  simp only [spec_NextCode.e31]
  rfl
theorem spec_NextCode.r9 (x0 : THead) (x1 : TSigned) : V.joinF spec_NextCode.E Tryz.f242.ntmps [1, 1] [] (V.codeOf Tryz.f242) (spec_NextCode.kt x0 x1) (spec_NextCode.s9 x0 x1) = spec_NextCode.g9 x0 x1 (V.jn (V.joinF spec_NextCode.E Tryz.f242.ntmps [1, 1, 1] [] (V.codeOf Tryz.f242) (spec_NextCode.kt x0 x1)) (spec_NextCode.s13 x0 x1)) := by kernel_rfl
theorem spec_NextCode.e9 (x0 : THead) (x1 : TSigned) : V.jn (V.joinF spec_NextCode.E Tryz.f242.ntmps [1, 1] [] (V.codeOf Tryz.f242) (spec_NextCode.kt x0 x1)) (spec_NextCode.s9 x0 x1) = spec_NextCode.l9 x0 x1 := by
  rw [V.jn_eq, spec_NextCode.r9]
  simp only [spec_NextCode.e13]
  rfl
noncomputable abbrev spec_NextCode.s (x0 : THead) (x1 : TSigned) : V.St := ⟨[(0, .v true [.val (.int .i64 x0.1), .val (.int .i64 x0.2.1), .val (.int .i64 x0.2.2.1), .val (.int .i64 x0.2.2.2.1), .val (.int .i64 x0.2.2.2.2.1), .val (.int .i64 x0.2.2.2.2.2.1), .val (.int .i64 x0.2.2.2.2.2.2.1), .val (.int .i64 x0.2.2.2.2.2.2.2.1), .val (.sl (.cons (.int .i64) .nil) x0.2.2.2.2.2.2.2.2.1), .val (.int .i64 x0.2.2.2.2.2.2.2.2.2.1), .val (.sl (.cons (.int .i64) .nil) x0.2.2.2.2.2.2.2.2.2.2.1), .val (.int .i64 x0.2.2.2.2.2.2.2.2.2.2.2.1), .val (.int .i64 x0.2.2.2.2.2.2.2.2.2.2.2.2.1), .val (.sl (.cons (.int .i64) .nil) x0.2.2.2.2.2.2.2.2.2.2.2.2.2.1), .val (.int .i64 x0.2.2.2.2.2.2.2.2.2.2.2.2.2.2.1), .val (.bool x0.2.2.2.2.2.2.2.2.2.2.2.2.2.2.2)]), (1, .v true [.val (.int .i64 x1.1), .val (.int .i64 x1.2.1), .val (.int .i64 x1.2.2.1), .val (.int .i64 x1.2.2.2.1), .val (.int .i64 x1.2.2.2.2.1), .val (.int .i64 x1.2.2.2.2.2.1), .val (.int .i64 x1.2.2.2.2.2.2.1), .val (.int .i64 x1.2.2.2.2.2.2.2.1), .val (.sl (.cons (.int .i64) .nil) x1.2.2.2.2.2.2.2.2.1), .val (.int .i64 x1.2.2.2.2.2.2.2.2.2.1), .val (.sl (.cons (.int .i64) .nil) x1.2.2.2.2.2.2.2.2.2.2.1), .val (.int .i64 x1.2.2.2.2.2.2.2.2.2.2.2.1), .val (.int .i64 x1.2.2.2.2.2.2.2.2.2.2.2.2.1), .val (.sl (.cons (.int .i64) .nil) x1.2.2.2.2.2.2.2.2.2.2.2.2.2.1), .val (.int .i64 x1.2.2.2.2.2.2.2.2.2.2.2.2.2.2.1), .val (.bool x1.2.2.2.2.2.2.2.2.2.2.2.2.2.2.2.1), .val (.sl (.cons (.int .i64) (.cons (.int .i64) .nil)) x1.2.2.2.2.2.2.2.2.2.2.2.2.2.2.2.2)])], []⟩
theorem spec_NextCode.v0 (x0 : THead) (x1 : TSigned) : V.evBody spec_NextCode.E spec_NextCode.con Tryz.f242 (V.fl9 x0 x1) = V.evC spec_NextCode.E Tryz.f242.ntmps (V.codeOf Tryz.f242) (spec_NextCode.kt x0 x1) (spec_NextCode.s x0 x1) := by kernel_rfl
theorem spec_NextCode.v (x0 : THead) (x1 : TSigned) : V.evC spec_NextCode.E Tryz.f242.ntmps (V.codeOf Tryz.f242) (spec_NextCode.kt x0 x1) (spec_NextCode.s x0 x1) = spec_NextCode.b x0 x1 (V.jn (V.joinF spec_NextCode.E Tryz.f242.ntmps [1, 1] [] (V.codeOf Tryz.f242) (spec_NextCode.kt x0 x1)) (spec_NextCode.s9 x0 x1)) := by kernel_rfl
theorem spec_NextCode.eq (x0 : THead) (x1 : TSigned) : V.evBody spec_NextCode.E spec_NextCode.con Tryz.f242 (V.fl9 x0 x1) = spec_NextCode x0 x1 := by
  rw [spec_NextCode.v0, spec_NextCode.v]
  simp only [spec_NextCode.e9]
  rfl
theorem spec_NextCode.ok : V.Valid Tryz.prog 242 spec_NextCode.con :=
  V.fo (V.tab_cons spec_IsHead.ok (V.tab_cons spec_HeadDigest.ok (V.tab_cons spec_HeadInts.ok (V.tab_cons spec_l15Owner.ok (V.tab_cons spec_l15Heir.ok (V.tab_cons spec_l15Judge.ok (V.tab_cons spec_IsSigned.ok V.tab_nil))))))) Tryz.func242 (by kernel_rfl) (fun x y h => (show V.evBody spec_NextCode.E spec_NextCode.con Tryz.f242 x = _ from spec_NextCode.eq (V.p9_0 x) (V.p9_1 x)).trans (V.cfl (by kernel_rfl) h))
noncomputable abbrev spec_MayFollow.con : V.Con := ⟨V.A9, (.cons .bool .nil), fun (x : V.D9) => spec_MayFollow (V.p9_0 x) (V.p9_1 x), [], [(true, 16), (true, 17)], [(false, 1)], [false], []⟩
noncomputable abbrev spec_MayFollow.E : V.Env := V.mkE V.tys [(242, spec_NextCode.con)] [] [] [] [] []
noncomputable abbrev spec_MayFollow.kt (x0 : THead) (x1 : TSigned) : V.Kt Bool := V.ktOf spec_MayFollow.E spec_MayFollow.con Tryz.f265 (V.fl9 x0 x1)
noncomputable abbrev spec_MayFollow.s (x0 : THead) (x1 : TSigned) : V.St := ⟨[(0, .v true [.val (.int .i64 x0.1), .val (.int .i64 x0.2.1), .val (.int .i64 x0.2.2.1), .val (.int .i64 x0.2.2.2.1), .val (.int .i64 x0.2.2.2.2.1), .val (.int .i64 x0.2.2.2.2.2.1), .val (.int .i64 x0.2.2.2.2.2.2.1), .val (.int .i64 x0.2.2.2.2.2.2.2.1), .val (.sl (.cons (.int .i64) .nil) x0.2.2.2.2.2.2.2.2.1), .val (.int .i64 x0.2.2.2.2.2.2.2.2.2.1), .val (.sl (.cons (.int .i64) .nil) x0.2.2.2.2.2.2.2.2.2.2.1), .val (.int .i64 x0.2.2.2.2.2.2.2.2.2.2.2.1), .val (.int .i64 x0.2.2.2.2.2.2.2.2.2.2.2.2.1), .val (.sl (.cons (.int .i64) .nil) x0.2.2.2.2.2.2.2.2.2.2.2.2.2.1), .val (.int .i64 x0.2.2.2.2.2.2.2.2.2.2.2.2.2.2.1), .val (.bool x0.2.2.2.2.2.2.2.2.2.2.2.2.2.2.2)]), (1, .v true [.val (.int .i64 x1.1), .val (.int .i64 x1.2.1), .val (.int .i64 x1.2.2.1), .val (.int .i64 x1.2.2.2.1), .val (.int .i64 x1.2.2.2.2.1), .val (.int .i64 x1.2.2.2.2.2.1), .val (.int .i64 x1.2.2.2.2.2.2.1), .val (.int .i64 x1.2.2.2.2.2.2.2.1), .val (.sl (.cons (.int .i64) .nil) x1.2.2.2.2.2.2.2.2.1), .val (.int .i64 x1.2.2.2.2.2.2.2.2.2.1), .val (.sl (.cons (.int .i64) .nil) x1.2.2.2.2.2.2.2.2.2.2.1), .val (.int .i64 x1.2.2.2.2.2.2.2.2.2.2.2.1), .val (.int .i64 x1.2.2.2.2.2.2.2.2.2.2.2.2.1), .val (.sl (.cons (.int .i64) .nil) x1.2.2.2.2.2.2.2.2.2.2.2.2.2.1), .val (.int .i64 x1.2.2.2.2.2.2.2.2.2.2.2.2.2.2.1), .val (.bool x1.2.2.2.2.2.2.2.2.2.2.2.2.2.2.2.1), .val (.sl (.cons (.int .i64) (.cons (.int .i64) .nil)) x1.2.2.2.2.2.2.2.2.2.2.2.2.2.2.2.2)])], []⟩
theorem spec_MayFollow.v0 (x0 : THead) (x1 : TSigned) : V.evBody spec_MayFollow.E spec_MayFollow.con Tryz.f265 (V.fl9 x0 x1) = V.evC spec_MayFollow.E Tryz.f265.ntmps (V.codeOf Tryz.f265) (spec_MayFollow.kt x0 x1) (spec_MayFollow.s x0 x1) := by kernel_rfl
theorem spec_MayFollow.v (x0 : THead) (x1 : TSigned) : V.evC spec_MayFollow.E Tryz.f265.ntmps (V.codeOf Tryz.f265) (spec_MayFollow.kt x0 x1) (spec_MayFollow.s x0 x1) = spec_MayFollow x0 x1 := by kernel_rfl
theorem spec_MayFollow.eq (x0 : THead) (x1 : TSigned) : V.evBody spec_MayFollow.E spec_MayFollow.con Tryz.f265 (V.fl9 x0 x1) = spec_MayFollow x0 x1 := (spec_MayFollow.v0 x0 x1).trans (spec_MayFollow.v x0 x1)
theorem spec_MayFollow.ok : V.Valid Tryz.prog 265 spec_MayFollow.con :=
  V.fo (V.tab_cons spec_NextCode.ok V.tab_nil) Tryz.func265 (by kernel_rfl) (fun x y h => (show V.evBody spec_MayFollow.E spec_MayFollow.con Tryz.f265 x = _ from spec_MayFollow.eq (V.p9_0 x) (V.p9_1 x)).trans (V.cfl (by kernel_rfl) h))
noncomputable abbrev spec_FirstWrong.con : V.Con := ⟨(.cons (.sl V.eSigned) .nil), (.cons (.int .i64) .nil), fun (x : List TSigned) => spec_FirstWrong x, [], [(false, 1)], [(false, 1)], [false], []⟩
noncomputable abbrev spec_FirstWrong.E : V.Env := V.mkE V.tys [(264, spec_IsFirst.con), (265, spec_MayFollow.con)] [(4, [0, 3], [])] [(4, 23)] [] [] []
noncomputable abbrev spec_FirstWrong.kt (x0 : List TSigned) : V.Kt Int := V.ktOf spec_FirstWrong.E spec_FirstWrong.con Tryz.f203 ((x0) : List TSigned)
noncomputable abbrev spec_FirstWrong.s4 (x0 : List TSigned) (v4_1 : Int) : V.St := ⟨[(0, .v false [.val (.sl V.eSigned x0)]), (3, .v false [.val (.int .i64 v4_1)])], []⟩
theorem spec_FirstWrong.r4 (x0 : List TSigned) (R : V.St → Option Int) (v4_1 : Int) : V.loopF spec_FirstWrong.E Tryz.f203.ntmps [1, 0, 1, 0] [] (V.codeOf Tryz.f203) (spec_FirstWrong.kt x0) R (spec_FirstWrong.s4 x0 v4_1) = spec_FirstWrong.g4 x0 (fun v4_1 => R (spec_FirstWrong.s4 x0 v4_1)) v4_1 := by kernel_rfl
theorem spec_FirstWrong.e4 (x0 : List TSigned) : ∀ (n : Nat) (v4_1 : Int), V.loopN (V.loopF spec_FirstWrong.E Tryz.f203.ntmps [1, 0, 1, 0] [] (V.codeOf Tryz.f203) (spec_FirstWrong.kt x0)) n (spec_FirstWrong.s4 x0 v4_1) = spec_FirstWrong.l4 x0 n v4_1 := by
  intro n
  induction n with
  | zero => intros; rw [V.loopN_z]; rfl
  | succ n ih =>
    intro v4_1
    rw [V.loopN_s, spec_FirstWrong.r4]
    simp only [ih]
    first | exact (spec_FirstWrong.u4 ..).symm | rfl
theorem spec_FirstWrong.v (x0 : List TSigned) : V.evBody spec_FirstWrong.E spec_FirstWrong.con Tryz.f203 ((x0) : List TSigned) = spec_FirstWrong.b x0 (fun v4_1 => V.loopN (V.loopF spec_FirstWrong.E Tryz.f203.ntmps [1, 0, 1, 0] [] (V.codeOf Tryz.f203) (spec_FirstWrong.kt x0)) V.KK (spec_FirstWrong.s4 x0 v4_1)) := by kernel_rfl
theorem spec_FirstWrong.eq (x0 : List TSigned) : V.evBody spec_FirstWrong.E spec_FirstWrong.con Tryz.f203 ((x0) : List TSigned) = spec_FirstWrong x0 := by
  rw [spec_FirstWrong.v]
  simp only [spec_FirstWrong.e4]
  rfl
theorem spec_FirstWrong.ok : V.Valid Tryz.prog 203 spec_FirstWrong.con :=
  V.fo (V.tab_cons spec_IsFirst.ok (V.tab_cons spec_MayFollow.ok V.tab_nil)) Tryz.func203 (by kernel_rfl) (fun x y h => (show V.evBody spec_FirstWrong.E spec_FirstWrong.con Tryz.f203 x = _ from spec_FirstWrong.eq x).trans (V.cfl (by kernel_rfl) h))
noncomputable abbrev spec_IsChain.con : V.Con := ⟨(.cons (.sl V.eSigned) .nil), (.cons .bool .nil), fun (x : List TSigned) => spec_IsChain x, [], [(false, 1)], [(false, 1)], [false], []⟩
noncomputable abbrev spec_IsChain.E : V.Env := V.mkE V.tys [(147, spec_l1In.con), (203, spec_FirstWrong.con)] [] [] [] [] []
theorem spec_IsChain.eq (x0 : List TSigned) : V.evBody spec_IsChain.E spec_IsChain.con Tryz.f99 ((x0) : List TSigned) = spec_IsChain x0 := by kernel_rfl
theorem spec_IsChain.ok : V.Valid Tryz.prog 99 spec_IsChain.con :=
  V.fo (V.tab_cons spec_l1In.ok (V.tab_cons spec_FirstWrong.ok V.tab_nil)) Tryz.func99 (by kernel_rfl) (fun x y h => (show V.evBody spec_IsChain.E spec_IsChain.con Tryz.f99 x = _ from spec_IsChain.eq x).trans (V.cfl (by kernel_rfl) h))
noncomputable abbrev spec_l6Copy.con : V.Con := ⟨(.cons (.sl (.cons (.int .i64) .nil)) (.cons (.int .i64) .nil)), (.cons (.sl (.cons (.int .i64) .nil)) (.cons (.int .i64) .nil)), fun (x : List Int × Int) => spec_l6Copy x, [], [(true, 2)], [(true, 2)], [true, false], []⟩
noncomputable abbrev spec_l6Copy.E : V.Env := V.mkE V.tys [] [] [(1, 6)] [] [] []
theorem spec_l6Copy.eq (x0 : TKeys) : V.evBody spec_l6Copy.E spec_l6Copy.con Tryz.f225 ((x0.1, x0.2) : List Int × Int) = spec_l6Copy x0 := by kernel_rfl
theorem spec_l6Copy.ok : V.Valid Tryz.prog 225 spec_l6Copy.con :=
  V.fo V.tab_nil Tryz.func225 (by kernel_rfl) (fun x y h => (show V.evBody spec_l6Copy.E spec_l6Copy.con Tryz.f225 x = _ from spec_l6Copy.eq x).trans (V.cfl (by kernel_rfl) h))
noncomputable abbrev spec_l13Copy.con : V.Con := ⟨V.A4, V.eHead, fun (x : V.D4) => spec_l13Copy (V.p4_0 x), [], [(true, 16)], [(true, 16)], [false, false, false, false, false, false, false, false, true, false, true, false, false, true, false, false], []⟩
noncomputable abbrev spec_l13Copy.E : V.Env := V.mkE V.tys [(225, spec_l6Copy.con)] [] [] [] [] []
noncomputable abbrev spec_l13Copy.kt (x0 : THead) : V.Kt THead := V.ktOf spec_l13Copy.E spec_l13Copy.con Tryz.f184 (V.fl4 x0)
noncomputable abbrev spec_l13Copy.s (x0 : THead) : V.St := ⟨[(0, .v true [.val (.int .i64 x0.1), .val (.int .i64 x0.2.1), .val (.int .i64 x0.2.2.1), .val (.int .i64 x0.2.2.2.1), .val (.int .i64 x0.2.2.2.2.1), .val (.int .i64 x0.2.2.2.2.2.1), .val (.int .i64 x0.2.2.2.2.2.2.1), .val (.int .i64 x0.2.2.2.2.2.2.2.1), .val (.sl (.cons (.int .i64) .nil) x0.2.2.2.2.2.2.2.2.1), .val (.int .i64 x0.2.2.2.2.2.2.2.2.2.1), .val (.sl (.cons (.int .i64) .nil) x0.2.2.2.2.2.2.2.2.2.2.1), .val (.int .i64 x0.2.2.2.2.2.2.2.2.2.2.2.1), .val (.int .i64 x0.2.2.2.2.2.2.2.2.2.2.2.2.1), .val (.sl (.cons (.int .i64) .nil) x0.2.2.2.2.2.2.2.2.2.2.2.2.2.1), .val (.int .i64 x0.2.2.2.2.2.2.2.2.2.2.2.2.2.2.1), .val (.bool x0.2.2.2.2.2.2.2.2.2.2.2.2.2.2.2)])], []⟩
theorem spec_l13Copy.v0 (x0 : THead) : V.evBody spec_l13Copy.E spec_l13Copy.con Tryz.f184 (V.fl4 x0) = V.evC spec_l13Copy.E Tryz.f184.ntmps (V.codeOf Tryz.f184) (spec_l13Copy.kt x0) (spec_l13Copy.s x0) := by kernel_rfl
theorem spec_l13Copy.v (x0 : THead) : V.evC spec_l13Copy.E Tryz.f184.ntmps (V.codeOf Tryz.f184) (spec_l13Copy.kt x0) (spec_l13Copy.s x0) = spec_l13Copy x0 := by kernel_rfl
theorem spec_l13Copy.eq (x0 : THead) : V.evBody spec_l13Copy.E spec_l13Copy.con Tryz.f184 (V.fl4 x0) = spec_l13Copy x0 := (spec_l13Copy.v0 x0).trans (spec_l13Copy.v x0)
theorem spec_l13Copy.ok : V.Valid Tryz.prog 184 spec_l13Copy.con :=
  V.fo (V.tab_cons spec_l6Copy.ok V.tab_nil) Tryz.func184 (by kernel_rfl) (fun x y h => (show V.evBody spec_l13Copy.E spec_l13Copy.con Tryz.f184 x = _ from spec_l13Copy.eq (V.p4_0 x)).trans (V.cfl (by kernel_rfl) h))
noncomputable abbrev spec_LastHead.con : V.Con := ⟨(.cons (.sl V.eSigned) .nil), V.eRHeadBool, fun (x : List TSigned) => spec_LastHead x, [], [(false, 1)], [(true, 16), (false, 1)], [false, false, false, false, false, false, false, false, true, false, true, false, false, true, false, false, false], []⟩
noncomputable abbrev spec_LastHead.E : V.Env := V.mkE V.tys [(99, spec_IsChain.con), (184, spec_l13Copy.con)] [] [] [] [] []
theorem spec_LastHead.eq (x0 : List TSigned) : V.evBody spec_LastHead.E spec_LastHead.con Tryz.f134 ((x0) : List TSigned) = spec_LastHead x0 := by kernel_rfl
theorem spec_LastHead.ok : V.Valid Tryz.prog 134 spec_LastHead.con :=
  V.fo (V.tab_cons spec_IsChain.ok (V.tab_cons spec_l13Copy.ok V.tab_nil)) Tryz.func134 (by kernel_rfl) (fun x y h => (show V.evBody spec_LastHead.E spec_LastHead.con Tryz.f134 x = _ from spec_LastHead.eq x).trans (V.cfl (by kernel_rfl) h))
noncomputable abbrev spec_IsFresh.con : V.Con := ⟨V.A0, (.cons .bool .nil), fun (x : V.D0) => spec_IsFresh (V.p0_0 x) (V.p0_1 x), [], [(true, 16), (false, 1)], [(false, 1)], [false], []⟩
noncomputable abbrev spec_IsFresh.E : V.Env := V.mkE V.tys [(147, spec_l1In.con)] [] [] [] [] []
noncomputable abbrev spec_IsFresh.kt (x0 : THead) (x1 : Int) : V.Kt Bool := V.ktOf spec_IsFresh.E spec_IsFresh.con Tryz.f157 (V.fl0 x0 x1)
noncomputable abbrev spec_IsFresh.s (x0 : THead) (x1 : Int) : V.St := ⟨[(0, .v true [.val (.int .i64 x0.1), .val (.int .i64 x0.2.1), .val (.int .i64 x0.2.2.1), .val (.int .i64 x0.2.2.2.1), .val (.int .i64 x0.2.2.2.2.1), .val (.int .i64 x0.2.2.2.2.2.1), .val (.int .i64 x0.2.2.2.2.2.2.1), .val (.int .i64 x0.2.2.2.2.2.2.2.1), .val (.sl (.cons (.int .i64) .nil) x0.2.2.2.2.2.2.2.2.1), .val (.int .i64 x0.2.2.2.2.2.2.2.2.2.1), .val (.sl (.cons (.int .i64) .nil) x0.2.2.2.2.2.2.2.2.2.2.1), .val (.int .i64 x0.2.2.2.2.2.2.2.2.2.2.2.1), .val (.int .i64 x0.2.2.2.2.2.2.2.2.2.2.2.2.1), .val (.sl (.cons (.int .i64) .nil) x0.2.2.2.2.2.2.2.2.2.2.2.2.2.1), .val (.int .i64 x0.2.2.2.2.2.2.2.2.2.2.2.2.2.2.1), .val (.bool x0.2.2.2.2.2.2.2.2.2.2.2.2.2.2.2)]), (1, .v false [.val (.int .i64 x1)])], []⟩
theorem spec_IsFresh.v0 (x0 : THead) (x1 : Int) : V.evBody spec_IsFresh.E spec_IsFresh.con Tryz.f157 (V.fl0 x0 x1) = V.evC spec_IsFresh.E Tryz.f157.ntmps (V.codeOf Tryz.f157) (spec_IsFresh.kt x0 x1) (spec_IsFresh.s x0 x1) := by kernel_rfl
theorem spec_IsFresh.v (x0 : THead) (x1 : Int) : V.evC spec_IsFresh.E Tryz.f157.ntmps (V.codeOf Tryz.f157) (spec_IsFresh.kt x0 x1) (spec_IsFresh.s x0 x1) = spec_IsFresh x0 x1 := by kernel_rfl
theorem spec_IsFresh.eq (x0 : THead) (x1 : Int) : V.evBody spec_IsFresh.E spec_IsFresh.con Tryz.f157 (V.fl0 x0 x1) = spec_IsFresh x0 x1 := (spec_IsFresh.v0 x0 x1).trans (spec_IsFresh.v x0 x1)
theorem spec_IsFresh.ok : V.Valid Tryz.prog 157 spec_IsFresh.con :=
  V.fo (V.tab_cons spec_l1In.ok V.tab_nil) Tryz.func157 (by kernel_rfl) (fun x y h => (show V.evBody spec_IsFresh.E spec_IsFresh.con Tryz.f157 x = _ from spec_IsFresh.eq (V.p0_0 x) (V.p0_1 x)).trans (V.cfl (by kernel_rfl) h))
noncomputable abbrev spec_BytesToInts.con : V.Con := ⟨(.cons (.sl (.cons (.int .u8) .nil)) .nil), (.cons (.sl (.cons (.int .i64) .nil)) .nil), fun (x : List Int) => spec_BytesToInts x, [], [(false, 1)], [(false, 1)], [true], []⟩
noncomputable abbrev spec_BytesToInts.E : V.Env := V.mkE V.tys [] [(6, [0, 3, 4], [])] [] [] [] []
noncomputable abbrev spec_BytesToInts.kt (x0 : List Int) : V.Kt (List Int) := V.ktOf spec_BytesToInts.E spec_BytesToInts.con Tryz.f317 ((x0) : List Int)
noncomputable abbrev spec_BytesToInts.s6 (x0 : List Int) (v6_1 : Int) (v6_2 : List Int) : V.St := ⟨[(0, .v false [.val (.sl (.cons (.int .u8) .nil) x0)]), (3, .v false [.ref 64000038400192]), (4, .v false [.val (.int .i64 v6_1)])], [(64000038400192, .row (.cons (.int .i64) .nil) true v6_2)]⟩
theorem spec_BytesToInts.r6 (x0 : List Int) (R : V.St → Option (List Int)) (v6_1 : Int) (v6_2 : List Int) : V.loopF spec_BytesToInts.E Tryz.f317.ntmps [1, 1, 0, 1, 0] [] (V.codeOf Tryz.f317) (spec_BytesToInts.kt x0) R (spec_BytesToInts.s6 x0 v6_1 v6_2) = spec_BytesToInts.g6 x0 (fun v6_1 v6_2 => R (spec_BytesToInts.s6 x0 v6_1 v6_2)) v6_1 v6_2 := by kernel_rfl
theorem spec_BytesToInts.e6 (x0 : List Int) : ∀ (n : Nat) (v6_1 : Int) (v6_2 : List Int), V.loopN (V.loopF spec_BytesToInts.E Tryz.f317.ntmps [1, 1, 0, 1, 0] [] (V.codeOf Tryz.f317) (spec_BytesToInts.kt x0)) n (spec_BytesToInts.s6 x0 v6_1 v6_2) = spec_BytesToInts.l6 x0 n v6_1 v6_2 := by
  intro n
  induction n with
  | zero => intros; rw [V.loopN_z]; rfl
  | succ n ih =>
    intro v6_1 v6_2
    rw [V.loopN_s, spec_BytesToInts.r6]
    simp only [ih]
    first | exact (spec_BytesToInts.u6 ..).symm | rfl
theorem spec_BytesToInts.v (x0 : List Int) : V.evBody spec_BytesToInts.E spec_BytesToInts.con Tryz.f317 ((x0) : List Int) = spec_BytesToInts.b x0 (fun v6_1 v6_2 => V.loopN (V.loopF spec_BytesToInts.E Tryz.f317.ntmps [1, 1, 0, 1, 0] [] (V.codeOf Tryz.f317) (spec_BytesToInts.kt x0)) V.KK (spec_BytesToInts.s6 x0 v6_1 v6_2)) := by kernel_rfl
theorem spec_BytesToInts.eq (x0 : List Int) : V.evBody spec_BytesToInts.E spec_BytesToInts.con Tryz.f317 ((x0) : List Int) = spec_BytesToInts x0 := by
  rw [spec_BytesToInts.v]
  simp only [spec_BytesToInts.e6]
  rfl
theorem spec_BytesToInts.ok : V.Valid Tryz.prog 317 spec_BytesToInts.con :=
  V.fo V.tab_nil Tryz.func317 (by kernel_rfl) (fun x y h => (show V.evBody spec_BytesToInts.E spec_BytesToInts.con Tryz.f317 x = _ from spec_BytesToInts.eq x).trans (V.cfl (by kernel_rfl) h))
noncomputable abbrev spec_LabelInts.con : V.Con := ⟨(.cons .str .nil), (.cons (.sl (.cons (.int .i64) .nil)) .nil), fun (x : ByteArray) => spec_LabelInts x, [], [(false, 1)], [(false, 1)], [true], []⟩
noncomputable abbrev spec_LabelInts.E : V.Env := V.mkE V.tys [(317, spec_BytesToInts.con)] [] [] [] [] []
theorem spec_LabelInts.eq (x0 : ByteArray) : V.evBody spec_LabelInts.E spec_LabelInts.con Tryz.f311 ((x0) : ByteArray) = spec_LabelInts x0 := by kernel_rfl
theorem spec_LabelInts.ok : V.Valid Tryz.prog 311 spec_LabelInts.con :=
  V.fo (V.tab_cons spec_BytesToInts.ok V.tab_nil) Tryz.func311 (by kernel_rfl) (fun x y h => (show V.evBody spec_LabelInts.E spec_LabelInts.con Tryz.f311 x = _ from spec_LabelInts.eq x).trans (V.cfl (by kernel_rfl) h))
noncomputable abbrev spec_EntryInts.con : V.Con := ⟨V.eEntry, (.cons (.sl (.cons (.int .i64) .nil)) .nil), fun (x : ByteArray × Int × Int × List ByteArray) => spec_EntryInts x, [], [(true, 4)], [(false, 1)], [true], []⟩
noncomputable abbrev spec_EntryInts.E : V.Env := V.mkE V.tys [(311, spec_LabelInts.con)] [(6, [1, 3, 4], [])] [(1, 11)] [] [] []
noncomputable abbrev spec_EntryInts.kt (x0 : TEntry) : V.Kt (List Int) := V.ktOf spec_EntryInts.E spec_EntryInts.con Tryz.f294 ((x0.1, x0.2.1, x0.2.2.1, x0.2.2.2) : ByteArray × Int × Int × List ByteArray)
noncomputable abbrev spec_EntryInts.s6 (x0 : TEntry) (v6_0 : Int) (v6_5 : List Int) : V.St := ⟨[(1, .v false [.ptr 64000 0]), (3, .v false [.ref 64000038400192]), (4, .v false [.val (.int .i64 v6_0)])], [(64000, .box [.val (.str x0.1), .val (.int .i64 x0.2.1), .val (.int .i64 x0.2.2.1), .val (.sl (.cons .str .nil) x0.2.2.2)]), (64000038400192, .row (.cons (.int .i64) .nil) true v6_5)]⟩
theorem spec_EntryInts.r6 (x0 : TEntry) (R : V.St → Option (List Int)) (v6_0 : Int) (v6_5 : List Int) : V.loopF spec_EntryInts.E Tryz.f294.ntmps [1, 1, 0, 1, 0] [] (V.codeOf Tryz.f294) (spec_EntryInts.kt x0) R (spec_EntryInts.s6 x0 v6_0 v6_5) = spec_EntryInts.g6 x0 (fun v6_0 v6_5 => R (spec_EntryInts.s6 x0 v6_0 v6_5)) v6_0 v6_5 := by kernel_rfl
theorem spec_EntryInts.e6 (x0 : TEntry) : ∀ (n : Nat) (v6_0 : Int) (v6_5 : List Int), V.loopN (V.loopF spec_EntryInts.E Tryz.f294.ntmps [1, 1, 0, 1, 0] [] (V.codeOf Tryz.f294) (spec_EntryInts.kt x0)) n (spec_EntryInts.s6 x0 v6_0 v6_5) = spec_EntryInts.l6 x0 n v6_0 v6_5 := by
  intro n
  induction n with
  | zero => intros; rw [V.loopN_z]; rfl
  | succ n ih =>
    intro v6_0 v6_5
    rw [V.loopN_s, spec_EntryInts.r6]
    simp only [ih]
    first | exact (spec_EntryInts.u6 ..).symm | rfl
theorem spec_EntryInts.v (x0 : TEntry) : V.evBody spec_EntryInts.E spec_EntryInts.con Tryz.f294 ((x0.1, x0.2.1, x0.2.2.1, x0.2.2.2) : ByteArray × Int × Int × List ByteArray) = spec_EntryInts.b x0 (fun v6_0 v6_5 => V.loopN (V.loopF spec_EntryInts.E Tryz.f294.ntmps [1, 1, 0, 1, 0] [] (V.codeOf Tryz.f294) (spec_EntryInts.kt x0)) V.KK (spec_EntryInts.s6 x0 v6_0 v6_5)) := by kernel_rfl
theorem spec_EntryInts.eq (x0 : TEntry) : V.evBody spec_EntryInts.E spec_EntryInts.con Tryz.f294 ((x0.1, x0.2.1, x0.2.2.1, x0.2.2.2) : ByteArray × Int × Int × List ByteArray) = spec_EntryInts x0 := by
  rw [spec_EntryInts.v]
  simp only [spec_EntryInts.e6]
  rfl
theorem spec_EntryInts.ok : V.Valid Tryz.prog 294 spec_EntryInts.con :=
  V.fo (V.tab_cons spec_LabelInts.ok V.tab_nil) Tryz.func294 (by kernel_rfl) (fun x y h => (show V.evBody spec_EntryInts.E spec_EntryInts.con Tryz.f294 x = _ from spec_EntryInts.eq x).trans (V.cfl (by kernel_rfl) h))
noncomputable abbrev spec_LeafOf.con : V.Con := ⟨V.eEntry, (.cons (.int .i64) .nil), fun (x : ByteArray × Int × Int × List ByteArray) => spec_LeafOf x, [], [(true, 4)], [(false, 1)], [false], []⟩
noncomputable abbrev spec_LeafOf.E : V.Env := V.mkE V.tys [(247, spec_Hash.con), (294, spec_EntryInts.con)] [] [] [] [] []
theorem spec_LeafOf.eq (x0 : TEntry) : V.evBody spec_LeafOf.E spec_LeafOf.con Tryz.f251 ((x0.1, x0.2.1, x0.2.2.1, x0.2.2.2) : ByteArray × Int × Int × List ByteArray) = spec_LeafOf x0 := by kernel_rfl
theorem spec_LeafOf.ok : V.Valid Tryz.prog 251 spec_LeafOf.con :=
  V.fo (V.tab_cons spec_Hash.ok (V.tab_cons spec_EntryInts.ok V.tab_nil)) Tryz.func251 (by kernel_rfl) (fun x y h => (show V.evBody spec_LeafOf.E spec_LeafOf.con Tryz.f251 x = _ from spec_LeafOf.eq x).trans (V.cfl (by kernel_rfl) h))
noncomputable abbrev spec_NodeOf.con : V.Con := ⟨(.cons (.int .i64) (.cons (.int .i64) .nil)), (.cons (.int .i64) .nil), fun (x : Int × Int) => spec_NodeOf x.1 x.2, [], [(false, 1), (false, 1)], [(false, 1)], [false], []⟩
noncomputable abbrev spec_NodeOf.E : V.Env := V.mkE V.tys [(247, spec_Hash.con)] [] [] [] [] []
theorem spec_NodeOf.eq (x0 : Int) (x1 : Int) : V.evBody spec_NodeOf.E spec_NodeOf.con Tryz.f293 ((x0, x1) : Int × Int) = spec_NodeOf x0 x1 := by kernel_rfl
theorem spec_NodeOf.ok : V.Valid Tryz.prog 293 spec_NodeOf.con :=
  V.fo (V.tab_cons spec_Hash.ok V.tab_nil) Tryz.func293 (by kernel_rfl) (fun x y h => (show V.evBody spec_NodeOf.E spec_NodeOf.con Tryz.f293 x = _ from spec_NodeOf.eq x.1 x.2).trans (V.cfl (by kernel_rfl) h))
noncomputable abbrev spec_TopFrom.con : V.Con := ⟨(.cons (.int .i64) (.cons (.int .i64) (.cons (.int .i64) (.cons (.sl (.cons (.int .i64) .nil)) .nil)))), (.cons (.int .i64) (.cons .bool .nil)), fun (x : Int × Int × Int × List Int) => spec_TopFrom x.1 x.2.1 x.2.2.1 x.2.2.2, [], [(false, 1), (false, 1), (false, 1), (false, 1)], [(false, 1), (false, 1)], [false, false], []⟩
noncomputable abbrev spec_TopFrom.E : V.Env := V.mkE V.tys [(147, spec_l1In.con), (293, spec_NodeOf.con)] [(7, [0, 1, 2, 3], []), (8, [0, 1, 2, 3, 10], []), (13, [0, 1, 2, 3, 10, 31], []), (25, [0, 1, 2, 3, 10], [])] [] [] [] []
noncomputable abbrev spec_TopFrom.kt (x0 : Int) (x1 : Int) (x2 : Int) (x3 : List Int) : V.Kt (Int × Bool) := V.ktOf spec_TopFrom.E spec_TopFrom.con Tryz.f277 ((x0, x1, x2, x3) : Int × Int × Int × List Int)
noncomputable abbrev spec_TopFrom.s25 (x3 : List Int) (v8_1 : Int) (v8_2 : Int) (v25_0 : Int) (v25_4 : Int) : V.St := ⟨[(0, .v false [.val (.int .i64 v25_0)]), (1, .v false [.val (.int .i64 v8_1)]), (2, .v false [.val (.int .i64 v8_2)]), (3, .v false [.val (.sl (.cons (.int .i64) .nil) x3)]), (10, .v false [.val (.int .i64 v25_4)])], []⟩
noncomputable abbrev spec_TopFrom.s13 (x3 : List Int) (v8_0 : Int) (v8_1 : Int) (v8_2 : Int) (v8_4 : Int) (v13_5 : Bool) : V.St := ⟨[(0, .v false [.val (.int .i64 v8_0)]), (1, .v false [.val (.int .i64 v8_1)]), (2, .v false [.val (.int .i64 v8_2)]), (3, .v false [.val (.sl (.cons (.int .i64) .nil) x3)]), (10, .v false [.val (.int .i64 v8_4)]), (31, .v false [.val (.bool v13_5)])], []⟩
noncomputable abbrev spec_TopFrom.s8 (x3 : List Int) (v8_0 : Int) (v8_1 : Int) (v8_2 : Int) (v8_4 : Int) : V.St := ⟨[(0, .v false [.val (.int .i64 v8_0)]), (1, .v false [.val (.int .i64 v8_1)]), (2, .v false [.val (.int .i64 v8_2)]), (3, .v false [.val (.sl (.cons (.int .i64) .nil) x3)]), (10, .v false [.val (.int .i64 v8_4)])], []⟩
noncomputable abbrev spec_TopFrom.s7 (x0 : Int) (x1 : Int) (x2 : Int) (x3 : List Int) : V.St := ⟨[(0, .v false [.val (.int .i64 x0)]), (1, .v false [.val (.int .i64 x1)]), (2, .v false [.val (.int .i64 x2)]), (3, .v false [.val (.sl (.cons (.int .i64) .nil) x3)])], []⟩
theorem spec_TopFrom.r25 (x0 : Int) (x1 : Int) (x2 : Int) (x3 : List Int) (v8_1 : Int) (v8_2 : Int) (R8 : V.St → Option (Int × Bool)) (v25_0 : Int) (v25_4 : Int) : V.joinF spec_TopFrom.E Tryz.f277.ntmps [1, 1, 1, 0, 0, 0, 1, 0] [R8] (V.codeOf Tryz.f277) (spec_TopFrom.kt x0 x1 x2 x3) (spec_TopFrom.s25 x3 v8_1 v8_2 v25_0 v25_4) = spec_TopFrom.g25 x3 v8_1 v8_2 (fun v8_0 v8_1 v8_2 v8_4 => R8 (spec_TopFrom.s8 x3 v8_0 v8_1 v8_2 v8_4)) v25_0 v25_4 := by kernel_rfl
theorem spec_TopFrom.e25 (x0 : Int) (x1 : Int) (x2 : Int) (x3 : List Int) (v8_1 : Int) (v8_2 : Int) (R8 : V.St → Option (Int × Bool)) (v25_0 : Int) (v25_4 : Int) : V.jn (V.joinF spec_TopFrom.E Tryz.f277.ntmps [1, 1, 1, 0, 0, 0, 1, 0] [R8] (V.codeOf Tryz.f277) (spec_TopFrom.kt x0 x1 x2 x3)) (spec_TopFrom.s25 x3 v8_1 v8_2 v25_0 v25_4) = spec_TopFrom.l25 x3 v8_1 v8_2 (fun v8_0 v8_1 v8_2 v8_4 => R8 (spec_TopFrom.s8 x3 v8_0 v8_1 v8_2 v8_4)) v25_0 v25_4 := by
  rw [V.jn_eq, spec_TopFrom.r25]
  rfl
theorem spec_TopFrom.r13 (x0 : Int) (x1 : Int) (x2 : Int) (x3 : List Int) (v8_0 : Int) (v8_1 : Int) (v8_2 : Int) (v8_4 : Int) (R8 : V.St → Option (Int × Bool)) (v13_5 : Bool) : V.joinF spec_TopFrom.E Tryz.f277.ntmps [1, 1, 1, 0, 0, 0, 1, 0, 0] [R8] (V.codeOf Tryz.f277) (spec_TopFrom.kt x0 x1 x2 x3) (spec_TopFrom.s13 x3 v8_0 v8_1 v8_2 v8_4 v13_5) = spec_TopFrom.g13 x3 v8_0 v8_1 v8_2 v8_4 (fun v8_0 v8_1 v8_2 v8_4 => R8 (spec_TopFrom.s8 x3 v8_0 v8_1 v8_2 v8_4)) (fun v25_0 v25_4 => V.jn (V.joinF spec_TopFrom.E Tryz.f277.ntmps [1, 1, 1, 0, 0, 0, 1, 0] [R8] (V.codeOf Tryz.f277) (spec_TopFrom.kt x0 x1 x2 x3)) (spec_TopFrom.s25 x3 v8_1 v8_2 v25_0 v25_4)) v13_5 := by kernel_rfl
theorem spec_TopFrom.e13 (x0 : Int) (x1 : Int) (x2 : Int) (x3 : List Int) (v8_0 : Int) (v8_1 : Int) (v8_2 : Int) (v8_4 : Int) (R8 : V.St → Option (Int × Bool)) (v13_5 : Bool) : V.jn (V.joinF spec_TopFrom.E Tryz.f277.ntmps [1, 1, 1, 0, 0, 0, 1, 0, 0] [R8] (V.codeOf Tryz.f277) (spec_TopFrom.kt x0 x1 x2 x3)) (spec_TopFrom.s13 x3 v8_0 v8_1 v8_2 v8_4 v13_5) = spec_TopFrom.l13 x3 v8_0 v8_1 v8_2 v8_4 (fun v8_0 v8_1 v8_2 v8_4 => R8 (spec_TopFrom.s8 x3 v8_0 v8_1 v8_2 v8_4)) v13_5 := by
  rw [V.jn_eq, spec_TopFrom.r13]
  simp only [spec_TopFrom.e25]
  rfl
theorem spec_TopFrom.r8 (x0 : Int) (x1 : Int) (x2 : Int) (x3 : List Int) (R : V.St → Option (Int × Bool)) (v8_0 : Int) (v8_1 : Int) (v8_2 : Int) (v8_4 : Int) : V.loopF spec_TopFrom.E Tryz.f277.ntmps [1, 1, 1, 0, 0] [] (V.codeOf Tryz.f277) (spec_TopFrom.kt x0 x1 x2 x3) R (spec_TopFrom.s8 x3 v8_0 v8_1 v8_2 v8_4) = spec_TopFrom.g8 x3 (fun v8_0 v8_1 v8_2 v8_4 => R (spec_TopFrom.s8 x3 v8_0 v8_1 v8_2 v8_4)) (fun v13_5 => V.jn (V.joinF spec_TopFrom.E Tryz.f277.ntmps [1, 1, 1, 0, 0, 0, 1, 0, 0] [R] (V.codeOf Tryz.f277) (spec_TopFrom.kt x0 x1 x2 x3)) (spec_TopFrom.s13 x3 v8_0 v8_1 v8_2 v8_4 v13_5)) v8_0 v8_1 v8_2 v8_4 := by kernel_rfl
theorem spec_TopFrom.e8 (x0 : Int) (x1 : Int) (x2 : Int) (x3 : List Int) : ∀ (n : Nat) (v8_0 : Int) (v8_1 : Int) (v8_2 : Int) (v8_4 : Int), V.loopN (V.loopF spec_TopFrom.E Tryz.f277.ntmps [1, 1, 1, 0, 0] [] (V.codeOf Tryz.f277) (spec_TopFrom.kt x0 x1 x2 x3)) n (spec_TopFrom.s8 x3 v8_0 v8_1 v8_2 v8_4) = spec_TopFrom.l8 x3 n v8_0 v8_1 v8_2 v8_4 := by
  intro n
  induction n with
  | zero => intros; rw [V.loopN_z]; rfl
  | succ n ih =>
    intro v8_0 v8_1 v8_2 v8_4
    rw [V.loopN_s, spec_TopFrom.r8]
    simp only [spec_TopFrom.e13, ih]
    first | exact (spec_TopFrom.u8 ..).symm | rfl
theorem spec_TopFrom.r7 (x0 : Int) (x1 : Int) (x2 : Int) (x3 : List Int) : V.joinF spec_TopFrom.E Tryz.f277.ntmps [1] [] (V.codeOf Tryz.f277) (spec_TopFrom.kt x0 x1 x2 x3) (spec_TopFrom.s7 x0 x1 x2 x3) = spec_TopFrom.g7 x0 x1 x2 x3 (fun v8_0 v8_1 v8_2 v8_4 => V.loopN (V.loopF spec_TopFrom.E Tryz.f277.ntmps [1, 1, 1, 0, 0] [] (V.codeOf Tryz.f277) (spec_TopFrom.kt x0 x1 x2 x3)) V.KK (spec_TopFrom.s8 x3 v8_0 v8_1 v8_2 v8_4)) := by kernel_rfl
theorem spec_TopFrom.e7 (x0 : Int) (x1 : Int) (x2 : Int) (x3 : List Int) : V.jn (V.joinF spec_TopFrom.E Tryz.f277.ntmps [1] [] (V.codeOf Tryz.f277) (spec_TopFrom.kt x0 x1 x2 x3)) (spec_TopFrom.s7 x0 x1 x2 x3) = spec_TopFrom.l7 x0 x1 x2 x3 := by
  rw [V.jn_eq, spec_TopFrom.r7]
  simp only [spec_TopFrom.e8]
  rfl
theorem spec_TopFrom.v (x0 : Int) (x1 : Int) (x2 : Int) (x3 : List Int) : V.evBody spec_TopFrom.E spec_TopFrom.con Tryz.f277 ((x0, x1, x2, x3) : Int × Int × Int × List Int) = spec_TopFrom.b x0 x1 x2 x3 (V.jn (V.joinF spec_TopFrom.E Tryz.f277.ntmps [1] [] (V.codeOf Tryz.f277) (spec_TopFrom.kt x0 x1 x2 x3)) (spec_TopFrom.s7 x0 x1 x2 x3)) := by kernel_rfl
theorem spec_TopFrom.eq (x0 : Int) (x1 : Int) (x2 : Int) (x3 : List Int) : V.evBody spec_TopFrom.E spec_TopFrom.con Tryz.f277 ((x0, x1, x2, x3) : Int × Int × Int × List Int) = spec_TopFrom x0 x1 x2 x3 := by
  rw [spec_TopFrom.v]
  simp only [spec_TopFrom.e7]
  rfl
theorem spec_TopFrom.ok : V.Valid Tryz.prog 277 spec_TopFrom.con :=
  V.fo (V.tab_cons spec_l1In.ok (V.tab_cons spec_NodeOf.ok V.tab_nil)) Tryz.func277 (by kernel_rfl) (fun x y h => (show V.evBody spec_TopFrom.E spec_TopFrom.con Tryz.f277 x = _ from spec_TopFrom.eq x.1 x.2.1 x.2.2.1 x.2.2.2).trans (V.cfl (by kernel_rfl) h))
noncomputable abbrev spec_IsLabel.con : V.Con := ⟨(.cons .str .nil), (.cons .bool .nil), fun (x : ByteArray) => spec_IsLabel x, [], [(false, 1)], [(false, 1)], [false], []⟩
noncomputable abbrev spec_IsLabel.E : V.Env := V.mkE V.tys [(147, spec_l1In.con)] [(7, [0], []), (8, [0, 3], [])] [] [] [] []
noncomputable abbrev spec_IsLabel.kt (x0 : ByteArray) : V.Kt Bool := V.ktOf spec_IsLabel.E spec_IsLabel.con Tryz.f248 ((x0) : ByteArray)
noncomputable abbrev spec_IsLabel.s8 (x0 : ByteArray) (v8_1 : Int) : V.St := ⟨[(0, .v false [.val (.str x0)]), (3, .v false [.val (.int .i64 v8_1)])], []⟩
noncomputable abbrev spec_IsLabel.s7 (x0 : ByteArray) : V.St := ⟨[(0, .v false [.val (.str x0)])], []⟩
theorem spec_IsLabel.r8 (x0 : ByteArray) (R : V.St → Option Bool) (v8_1 : Int) : V.loopF spec_IsLabel.E Tryz.f248.ntmps [1, 1, 0, 1, 0] [] (V.codeOf Tryz.f248) (spec_IsLabel.kt x0) R (spec_IsLabel.s8 x0 v8_1) = spec_IsLabel.g8 x0 (fun v8_1 => R (spec_IsLabel.s8 x0 v8_1)) v8_1 := by kernel_rfl
theorem spec_IsLabel.e8 (x0 : ByteArray) : ∀ (n : Nat) (v8_1 : Int), V.loopN (V.loopF spec_IsLabel.E Tryz.f248.ntmps [1, 1, 0, 1, 0] [] (V.codeOf Tryz.f248) (spec_IsLabel.kt x0)) n (spec_IsLabel.s8 x0 v8_1) = spec_IsLabel.l8 x0 n v8_1 := by
  intro n
  induction n with
  | zero => intros; rw [V.loopN_z]; rfl
  | succ n ih =>
    intro v8_1
    rw [V.loopN_s, spec_IsLabel.r8]
    simp only [ih]
    first | exact (spec_IsLabel.u8 ..).symm | rfl
theorem spec_IsLabel.r7 (x0 : ByteArray) : V.joinF spec_IsLabel.E Tryz.f248.ntmps [1] [] (V.codeOf Tryz.f248) (spec_IsLabel.kt x0) (spec_IsLabel.s7 x0) = spec_IsLabel.g7 x0 (fun v8_1 => V.loopN (V.loopF spec_IsLabel.E Tryz.f248.ntmps [1, 1, 0, 1, 0] [] (V.codeOf Tryz.f248) (spec_IsLabel.kt x0)) V.KK (spec_IsLabel.s8 x0 v8_1)) := by kernel_rfl
theorem spec_IsLabel.e7 (x0 : ByteArray) : V.jn (V.joinF spec_IsLabel.E Tryz.f248.ntmps [1] [] (V.codeOf Tryz.f248) (spec_IsLabel.kt x0)) (spec_IsLabel.s7 x0) = spec_IsLabel.l7 x0 := by
  rw [V.jn_eq, spec_IsLabel.r7]
  simp only [spec_IsLabel.e8]
  rfl
theorem spec_IsLabel.v (x0 : ByteArray) : V.evBody spec_IsLabel.E spec_IsLabel.con Tryz.f248 ((x0) : ByteArray) = spec_IsLabel.b x0 (V.jn (V.joinF spec_IsLabel.E Tryz.f248.ntmps [1] [] (V.codeOf Tryz.f248) (spec_IsLabel.kt x0)) (spec_IsLabel.s7 x0)) := by kernel_rfl
theorem spec_IsLabel.eq (x0 : ByteArray) : V.evBody spec_IsLabel.E spec_IsLabel.con Tryz.f248 ((x0) : ByteArray) = spec_IsLabel x0 := by
  rw [spec_IsLabel.v]
  simp only [spec_IsLabel.e7]
  rfl
theorem spec_IsLabel.ok : V.Valid Tryz.prog 248 spec_IsLabel.con :=
  V.fo (V.tab_cons spec_l1In.ok V.tab_nil) Tryz.func248 (by kernel_rfl) (fun x y h => (show V.evBody spec_IsLabel.E spec_IsLabel.con Tryz.f248 x = _ from spec_IsLabel.eq x).trans (V.cfl (by kernel_rfl) h))
noncomputable abbrev spec_IsPath.con : V.Con := ⟨(.cons (.sl (.cons .str .nil)) .nil), (.cons .bool .nil), fun (x : List ByteArray) => spec_IsPath x, [], [(false, 1)], [(false, 1)], [false], []⟩
noncomputable abbrev spec_IsPath.E : V.Env := V.mkE V.tys [(147, spec_l1In.con), (248, spec_IsLabel.con)] [(4, [0, 3], [])] [] [] [] []
noncomputable abbrev spec_IsPath.kt (x0 : List ByteArray) : V.Kt Bool := V.ktOf spec_IsPath.E spec_IsPath.con Tryz.f249 ((x0) : List ByteArray)
noncomputable abbrev spec_IsPath.s4 (x0 : List ByteArray) (v4_1 : Int) : V.St := ⟨[(0, .v false [.val (.sl (.cons .str .nil) x0)]), (3, .v false [.val (.int .i64 v4_1)])], []⟩
theorem spec_IsPath.r4 (x0 : List ByteArray) (R : V.St → Option Bool) (v4_1 : Int) : V.loopF spec_IsPath.E Tryz.f249.ntmps [1, 0, 1, 0] [] (V.codeOf Tryz.f249) (spec_IsPath.kt x0) R (spec_IsPath.s4 x0 v4_1) = spec_IsPath.g4 x0 (fun v4_1 => R (spec_IsPath.s4 x0 v4_1)) v4_1 := by kernel_rfl
theorem spec_IsPath.e4 (x0 : List ByteArray) : ∀ (n : Nat) (v4_1 : Int), V.loopN (V.loopF spec_IsPath.E Tryz.f249.ntmps [1, 0, 1, 0] [] (V.codeOf Tryz.f249) (spec_IsPath.kt x0)) n (spec_IsPath.s4 x0 v4_1) = spec_IsPath.l4 x0 n v4_1 := by
  intro n
  induction n with
  | zero => intros; rw [V.loopN_z]; rfl
  | succ n ih =>
    intro v4_1
    rw [V.loopN_s, spec_IsPath.r4]
    simp only [ih]
    first | exact (spec_IsPath.u4 ..).symm | rfl
theorem spec_IsPath.v (x0 : List ByteArray) : V.evBody spec_IsPath.E spec_IsPath.con Tryz.f249 ((x0) : List ByteArray) = spec_IsPath.b x0 (fun v4_1 => V.loopN (V.loopF spec_IsPath.E Tryz.f249.ntmps [1, 0, 1, 0] [] (V.codeOf Tryz.f249) (spec_IsPath.kt x0)) V.KK (spec_IsPath.s4 x0 v4_1)) := by kernel_rfl
theorem spec_IsPath.eq (x0 : List ByteArray) : V.evBody spec_IsPath.E spec_IsPath.con Tryz.f249 ((x0) : List ByteArray) = spec_IsPath x0 := by
  rw [spec_IsPath.v]
  simp only [spec_IsPath.e4]
  rfl
theorem spec_IsPath.ok : V.Valid Tryz.prog 249 spec_IsPath.con :=
  V.fo (V.tab_cons spec_l1In.ok (V.tab_cons spec_IsLabel.ok V.tab_nil)) Tryz.func249 (by kernel_rfl) (fun x y h => (show V.evBody spec_IsPath.E spec_IsPath.con Tryz.f249 x = _ from spec_IsPath.eq x).trans (V.cfl (by kernel_rfl) h))
noncomputable abbrev spec_IsEntry.con : V.Con := ⟨V.eEntry, (.cons .bool .nil), fun (x : ByteArray × Int × Int × List ByteArray) => spec_IsEntry x, [], [(true, 4)], [(false, 1)], [false], []⟩
noncomputable abbrev spec_IsEntry.E : V.Env := V.mkE V.tys [(147, spec_l1In.con), (248, spec_IsLabel.con), (249, spec_IsPath.con)] [] [] [] [] []
theorem spec_IsEntry.eq (x0 : TEntry) : V.evBody spec_IsEntry.E spec_IsEntry.con Tryz.f186 ((x0.1, x0.2.1, x0.2.2.1, x0.2.2.2) : ByteArray × Int × Int × List ByteArray) = spec_IsEntry x0 := by kernel_rfl
theorem spec_IsEntry.ok : V.Valid Tryz.prog 186 spec_IsEntry.con :=
  V.fo (V.tab_cons spec_l1In.ok (V.tab_cons spec_IsLabel.ok (V.tab_cons spec_IsPath.ok V.tab_nil))) Tryz.func186 (by kernel_rfl) (fun x y h => (show V.evBody spec_IsEntry.E spec_IsEntry.con Tryz.f186 x = _ from spec_IsEntry.eq x).trans (V.cfl (by kernel_rfl) h))
noncomputable abbrev spec_l10Root.con : V.Con := ⟨(.cons (.int .i64) (.cons (.int .i64) .nil)), (.cons (.int .i64) .nil), fun (x : Int × Int) => spec_l10Root x.1 x.2, [], [(false, 1), (false, 1)], [(false, 1)], [false], []⟩
noncomputable abbrev spec_l10Root.E : V.Env := V.mkE V.tys [(247, spec_Hash.con)] [] [] [] [] []
theorem spec_l10Root.eq (x0 : Int) (x1 : Int) : V.evBody spec_l10Root.E spec_l10Root.con Tryz.f188 ((x0, x1) : Int × Int) = spec_l10Root x0 x1 := by kernel_rfl
theorem spec_l10Root.ok : V.Valid Tryz.prog 188 spec_l10Root.con :=
  V.fo (V.tab_cons spec_Hash.ok V.tab_nil) Tryz.func188 (by kernel_rfl) (fun x y h => (show V.evBody spec_l10Root.E spec_l10Root.con Tryz.f188 x = _ from spec_l10Root.eq x.1 x.2).trans (V.cfl (by kernel_rfl) h))
noncomputable abbrev spec_CheckEntry.con : V.Con := ⟨(.cons (.int .i64) (.cons (.int .i64) (.cons .str (.cons (.int .i64) (.cons (.int .i64) (.cons (.sl (.cons .str .nil)) (.cons (.int .i64) (.cons (.sl (.cons (.int .i64) .nil)) .nil)))))))), (.cons .bool .nil), fun (x : Int × Int × ByteArray × Int × Int × List ByteArray × Int × List Int) => spec_CheckEntry x.1 x.2.1 (x.2.2.1, x.2.2.2.1, x.2.2.2.2.1, x.2.2.2.2.2.1) x.2.2.2.2.2.2, [], [(false, 1), (false, 1), (true, 4), (true, 2)], [(false, 1)], [false], []⟩
noncomputable abbrev spec_CheckEntry.E : V.Env := V.mkE V.tys [(186, spec_IsEntry.con), (188, spec_l10Root.con), (251, spec_LeafOf.con), (277, spec_TopFrom.con)] [] [(1, 11)] [] [] []
theorem spec_CheckEntry.eq (x0 : Int) (x1 : Int) (x2 : TEntry) (x3 : TProof) : V.evBody spec_CheckEntry.E spec_CheckEntry.con Tryz.f230 ((x0, x1, x2.1, x2.2.1, x2.2.2.1, x2.2.2.2, x3.1, x3.2) : Int × Int × ByteArray × Int × Int × List ByteArray × Int × List Int) = spec_CheckEntry x0 x1 x2 x3 := by kernel_rfl
theorem spec_CheckEntry.ok : V.Valid Tryz.prog 230 spec_CheckEntry.con :=
  V.fo (V.tab_cons spec_IsEntry.ok (V.tab_cons spec_l10Root.ok (V.tab_cons spec_LeafOf.ok (V.tab_cons spec_TopFrom.ok V.tab_nil)))) Tryz.func230 (by kernel_rfl) (fun x y h => (show V.evBody spec_CheckEntry.E spec_CheckEntry.con Tryz.f230 x = _ from spec_CheckEntry.eq x.1 x.2.1 (x.2.2.1, x.2.2.2.1, x.2.2.2.2.1, x.2.2.2.2.2.1) x.2.2.2.2.2.2).trans (V.cfl (by kernel_rfl) h))
noncomputable abbrev spec_SamePath.con : V.Con := ⟨(.cons (.sl (.cons .str .nil)) (.cons (.sl (.cons .str .nil)) .nil)), (.cons .bool .nil), fun (x : List ByteArray × List ByteArray) => spec_SamePath x.1 x.2, [], [(false, 1), (false, 1)], [(false, 1)], [false], []⟩
noncomputable abbrev spec_SamePath.E : V.Env := V.mkE V.tys [] [(8, [0, 1, 5], [])] [(6, 8)] [] [] []
noncomputable abbrev spec_SamePath.kt (x0 : List ByteArray) (x1 : List ByteArray) : V.Kt Bool := V.ktOf spec_SamePath.E spec_SamePath.con Tryz.f305 ((x0, x1) : List ByteArray × List ByteArray)
noncomputable abbrev spec_SamePath.s8 (x0 : List ByteArray) (x1 : List ByteArray) (v8_2 : Int) : V.St := ⟨[(0, .v false [.val (.sl (.cons .str .nil) x0)]), (1, .v false [.val (.sl (.cons .str .nil) x1)]), (5, .v false [.val (.int .i64 v8_2)])], []⟩
theorem spec_SamePath.r8 (x0 : List ByteArray) (x1 : List ByteArray) (R : V.St → Option Bool) (v8_2 : Int) : V.loopF spec_SamePath.E Tryz.f305.ntmps [1, 1, 0, 1, 0] [] (V.codeOf Tryz.f305) (spec_SamePath.kt x0 x1) R (spec_SamePath.s8 x0 x1 v8_2) = spec_SamePath.g8 x0 x1 (fun v8_2 => R (spec_SamePath.s8 x0 x1 v8_2)) v8_2 := by kernel_rfl
theorem spec_SamePath.e8 (x0 : List ByteArray) (x1 : List ByteArray) : ∀ (n : Nat) (v8_2 : Int), V.loopN (V.loopF spec_SamePath.E Tryz.f305.ntmps [1, 1, 0, 1, 0] [] (V.codeOf Tryz.f305) (spec_SamePath.kt x0 x1)) n (spec_SamePath.s8 x0 x1 v8_2) = spec_SamePath.l8 x0 x1 n v8_2 := by
  intro n
  induction n with
  | zero => intros; rw [V.loopN_z]; rfl
  | succ n ih =>
    intro v8_2
    rw [V.loopN_s, spec_SamePath.r8]
    simp only [ih]
    first | exact (spec_SamePath.u8 ..).symm | rfl
theorem spec_SamePath.v (x0 : List ByteArray) (x1 : List ByteArray) : V.evBody spec_SamePath.E spec_SamePath.con Tryz.f305 ((x0, x1) : List ByteArray × List ByteArray) = spec_SamePath.b x0 x1 (fun v8_2 => V.loopN (V.loopF spec_SamePath.E Tryz.f305.ntmps [1, 1, 0, 1, 0] [] (V.codeOf Tryz.f305) (spec_SamePath.kt x0 x1)) V.KK (spec_SamePath.s8 x0 x1 v8_2)) := by kernel_rfl
theorem spec_SamePath.eq (x0 : List ByteArray) (x1 : List ByteArray) : V.evBody spec_SamePath.E spec_SamePath.con Tryz.f305 ((x0, x1) : List ByteArray × List ByteArray) = spec_SamePath x0 x1 := by
  rw [spec_SamePath.v]
  simp only [spec_SamePath.e8]
  rfl
theorem spec_SamePath.ok : V.Valid Tryz.prog 305 spec_SamePath.con :=
  V.fo V.tab_nil Tryz.func305 (by kernel_rfl) (fun x y h => (show V.evBody spec_SamePath.E spec_SamePath.con Tryz.f305 x = _ from spec_SamePath.eq x.1 x.2).trans (V.cfl (by kernel_rfl) h))
noncomputable abbrev spec_EqualEntries.con : V.Con := ⟨(.cons .str (.cons (.int .i64) (.cons (.int .i64) (.cons (.sl (.cons .str .nil)) (.cons .str (.cons (.int .i64) (.cons (.int .i64) (.cons (.sl (.cons .str .nil)) .nil)))))))), (.cons .bool .nil), fun (x : ByteArray × Int × Int × List ByteArray × ByteArray × Int × Int × List ByteArray) => spec_EqualEntries (x.1, x.2.1, x.2.2.1, x.2.2.2.1) x.2.2.2.2, [], [(true, 4), (true, 4)], [(false, 1)], [false], []⟩
noncomputable abbrev spec_EqualEntries.E : V.Env := V.mkE V.tys [(305, spec_SamePath.con)] [] [] [] [] []
theorem spec_EqualEntries.eq (x0 : TEntry) (x1 : TEntry) : V.evBody spec_EqualEntries.E spec_EqualEntries.con Tryz.f278 ((x0.1, x0.2.1, x0.2.2.1, x0.2.2.2, x1.1, x1.2.1, x1.2.2.1, x1.2.2.2) : ByteArray × Int × Int × List ByteArray × ByteArray × Int × Int × List ByteArray) = spec_EqualEntries x0 x1 := by kernel_rfl
theorem spec_EqualEntries.ok : V.Valid Tryz.prog 278 spec_EqualEntries.con :=
  V.fo (V.tab_cons spec_SamePath.ok V.tab_nil) Tryz.func278 (by kernel_rfl) (fun x y h => (show V.evBody spec_EqualEntries.E spec_EqualEntries.con Tryz.f278 x = _ from spec_EqualEntries.eq (x.1, x.2.1, x.2.2.1, x.2.2.2.1) x.2.2.2.2).trans (V.cfl (by kernel_rfl) h))
noncomputable abbrev spec_EqualProofs.con : V.Con := ⟨(.cons (.int .i64) (.cons (.sl (.cons (.int .i64) .nil)) (.cons (.int .i64) (.cons (.sl (.cons (.int .i64) .nil)) .nil)))), (.cons .bool .nil), fun (x : Int × List Int × Int × List Int) => spec_EqualProofs (x.1, x.2.1) x.2.2, [], [(true, 2), (true, 2)], [(false, 1)], [false], []⟩
noncomputable abbrev spec_EqualProofs.E : V.Env := V.mkE V.tys [(204, spec_EqualInts.con)] [] [] [] [] []
theorem spec_EqualProofs.eq (x0 : TProof) (x1 : TProof) : V.evBody spec_EqualProofs.E spec_EqualProofs.con Tryz.f279 ((x0.1, x0.2, x1.1, x1.2) : Int × List Int × Int × List Int) = spec_EqualProofs x0 x1 := by kernel_rfl
theorem spec_EqualProofs.ok : V.Valid Tryz.prog 279 spec_EqualProofs.con :=
  V.fo (V.tab_cons spec_EqualInts.ok V.tab_nil) Tryz.func279 (by kernel_rfl) (fun x y h => (show V.evBody spec_EqualProofs.E spec_EqualProofs.con Tryz.f279 x = _ from spec_EqualProofs.eq (x.1, x.2.1) x.2.2).trans (V.cfl (by kernel_rfl) h))
noncomputable abbrev spec_EqualGaps.con : V.Con := ⟨V.A10, (.cons .bool .nil), fun (x : V.D10) => spec_EqualGaps (V.p10_0 x) (V.p10_1 x), [], [(true, 13), (true, 13)], [(false, 1)], [false], []⟩
noncomputable abbrev spec_EqualGaps.E : V.Env := V.mkE V.tys [(278, spec_EqualEntries.con), (279, spec_EqualProofs.con)] [] [] [] [] []
noncomputable abbrev spec_EqualGaps.kt (x0 : TGap) (x1 : TGap) : V.Kt Bool := V.ktOf spec_EqualGaps.E spec_EqualGaps.con Tryz.f231 (V.fl10 x0 x1)
noncomputable abbrev spec_EqualGaps.s (x0 : TGap) (x1 : TGap) : V.St := ⟨[(0, .v true [.val (.int .i64 x0.1), .val (.str x0.2.1), .val (.int .i64 x0.2.2.1), .val (.int .i64 x0.2.2.2.1), .val (.sl (.cons .str .nil) x0.2.2.2.2.1), .val (.str x0.2.2.2.2.2.1), .val (.int .i64 x0.2.2.2.2.2.2.1), .val (.int .i64 x0.2.2.2.2.2.2.2.1), .val (.sl (.cons .str .nil) x0.2.2.2.2.2.2.2.2.1), .val (.int .i64 x0.2.2.2.2.2.2.2.2.2.1), .val (.sl (.cons (.int .i64) .nil) x0.2.2.2.2.2.2.2.2.2.2.1), .val (.int .i64 x0.2.2.2.2.2.2.2.2.2.2.2.1), .val (.sl (.cons (.int .i64) .nil) x0.2.2.2.2.2.2.2.2.2.2.2.2)]), (1, .v true [.val (.int .i64 x1.1), .val (.str x1.2.1), .val (.int .i64 x1.2.2.1), .val (.int .i64 x1.2.2.2.1), .val (.sl (.cons .str .nil) x1.2.2.2.2.1), .val (.str x1.2.2.2.2.2.1), .val (.int .i64 x1.2.2.2.2.2.2.1), .val (.int .i64 x1.2.2.2.2.2.2.2.1), .val (.sl (.cons .str .nil) x1.2.2.2.2.2.2.2.2.1), .val (.int .i64 x1.2.2.2.2.2.2.2.2.2.1), .val (.sl (.cons (.int .i64) .nil) x1.2.2.2.2.2.2.2.2.2.2.1), .val (.int .i64 x1.2.2.2.2.2.2.2.2.2.2.2.1), .val (.sl (.cons (.int .i64) .nil) x1.2.2.2.2.2.2.2.2.2.2.2.2)])], []⟩
theorem spec_EqualGaps.v0 (x0 : TGap) (x1 : TGap) : V.evBody spec_EqualGaps.E spec_EqualGaps.con Tryz.f231 (V.fl10 x0 x1) = V.evC spec_EqualGaps.E Tryz.f231.ntmps (V.codeOf Tryz.f231) (spec_EqualGaps.kt x0 x1) (spec_EqualGaps.s x0 x1) := by kernel_rfl
theorem spec_EqualGaps.v (x0 : TGap) (x1 : TGap) : V.evC spec_EqualGaps.E Tryz.f231.ntmps (V.codeOf Tryz.f231) (spec_EqualGaps.kt x0 x1) (spec_EqualGaps.s x0 x1) = spec_EqualGaps x0 x1 := by kernel_rfl
theorem spec_EqualGaps.eq (x0 : TGap) (x1 : TGap) : V.evBody spec_EqualGaps.E spec_EqualGaps.con Tryz.f231 (V.fl10 x0 x1) = spec_EqualGaps x0 x1 := (spec_EqualGaps.v0 x0 x1).trans (spec_EqualGaps.v x0 x1)
theorem spec_EqualGaps.ok : V.Valid Tryz.prog 231 spec_EqualGaps.con :=
  V.fo (V.tab_cons spec_EqualEntries.ok (V.tab_cons spec_EqualProofs.ok V.tab_nil)) Tryz.func231 (by kernel_rfl) (fun x y h => (show V.evBody spec_EqualGaps.E spec_EqualGaps.con Tryz.f231 x = _ from spec_EqualGaps.eq (V.p10_0 x) (V.p10_1 x)).trans (V.cfl (by kernel_rfl) h))
noncomputable abbrev spec_LeavesOf.con : V.Con := ⟨(.cons (.sl V.eEntry) .nil), (.cons (.sl (.cons (.int .i64) .nil)) .nil), fun (x : List TEntry) => spec_LeavesOf x, [], [(false, 1)], [(false, 1)], [true], []⟩
noncomputable abbrev spec_LeavesOf.E : V.Env := V.mkE V.tys [(251, spec_LeafOf.con)] [(6, [0, 3, 4], [(64000038400192, (.cons (.int .i64) .nil), true)])] [] [] [] []
noncomputable abbrev spec_LeavesOf.kt (x0 : List TEntry) : V.Kt (List Int) := V.ktOf spec_LeavesOf.E spec_LeavesOf.con Tryz.f190 ((x0) : List TEntry)
noncomputable abbrev spec_LeavesOf.s6 (x0 : List TEntry) (v6_1 : Int) (v6_2 : List Int) : V.St := ⟨[(0, .v false [.val (.sl V.eEntry x0)]), (3, .v false [.ref 64000038400192]), (4, .v false [.val (.int .i64 v6_1)])], [(64000038400192, .row (.cons (.int .i64) .nil) true v6_2)]⟩
theorem spec_LeavesOf.r6 (x0 : List TEntry) (R : V.St → Option (List Int)) (v6_1 : Int) (v6_2 : List Int) : V.loopF spec_LeavesOf.E Tryz.f190.ntmps [1, 1, 0, 1, 0] [] (V.codeOf Tryz.f190) (spec_LeavesOf.kt x0) R (spec_LeavesOf.s6 x0 v6_1 v6_2) = spec_LeavesOf.g6 x0 (fun v6_1 v6_2 => R (spec_LeavesOf.s6 x0 v6_1 v6_2)) v6_1 v6_2 := by kernel_rfl
theorem spec_LeavesOf.e6 (x0 : List TEntry) : ∀ (n : Nat) (v6_1 : Int) (v6_2 : List Int), V.loopN (V.loopF spec_LeavesOf.E Tryz.f190.ntmps [1, 1, 0, 1, 0] [] (V.codeOf Tryz.f190) (spec_LeavesOf.kt x0)) n (spec_LeavesOf.s6 x0 v6_1 v6_2) = spec_LeavesOf.l6 x0 n v6_1 v6_2 := by
  intro n
  induction n with
  | zero => intros; rw [V.loopN_z]; rfl
  | succ n ih =>
    intro v6_1 v6_2
    rw [V.loopN_s, spec_LeavesOf.r6]
    simp only [ih]
    first | exact (spec_LeavesOf.u6 ..).symm | rfl
theorem spec_LeavesOf.v (x0 : List TEntry) : V.evBody spec_LeavesOf.E spec_LeavesOf.con Tryz.f190 ((x0) : List TEntry) = spec_LeavesOf.b x0 (fun v6_1 v6_2 => V.loopN (V.loopF spec_LeavesOf.E Tryz.f190.ntmps [1, 1, 0, 1, 0] [] (V.codeOf Tryz.f190) (spec_LeavesOf.kt x0)) V.KK (spec_LeavesOf.s6 x0 v6_1 v6_2)) := by kernel_rfl
theorem spec_LeavesOf.eq (x0 : List TEntry) : V.evBody spec_LeavesOf.E spec_LeavesOf.con Tryz.f190 ((x0) : List TEntry) = spec_LeavesOf x0 := by
  rw [spec_LeavesOf.v]
  simp only [spec_LeavesOf.e6]
  rfl
theorem spec_LeavesOf.ok : V.Valid Tryz.prog 190 spec_LeavesOf.con :=
  V.fo (V.tab_cons spec_LeafOf.ok V.tab_nil) Tryz.func190 (by kernel_rfl) (fun x y h => (show V.evBody spec_LeavesOf.E spec_LeavesOf.con Tryz.f190 x = _ from spec_LeavesOf.eq x).trans (V.cfl (by kernel_rfl) h))
noncomputable abbrev spec_l10Up.con : V.Con := ⟨(.cons (.sl (.cons (.int .i64) .nil)) .nil), (.cons (.sl (.cons (.int .i64) .nil)) .nil), fun (x : List Int) => spec_l10Up x, [], [(false, 1)], [(false, 1)], [true], []⟩
noncomputable abbrev spec_l10Up.E : V.Env := V.mkE V.tys [(293, spec_NodeOf.con)] [(6, [0, 3, 4], [(64000038400192, (.cons (.int .i64) .nil), true)])] [(6, 12)] [] [] []
noncomputable abbrev spec_l10Up.kt (x0 : List Int) : V.Kt (List Int) := V.ktOf spec_l10Up.E spec_l10Up.con Tryz.f250 ((x0) : List Int)
noncomputable abbrev spec_l10Up.s6 (x0 : List Int) (v6_1 : Int) (v6_2 : List Int) : V.St := ⟨[(0, .v false [.val (.sl (.cons (.int .i64) .nil) x0)]), (3, .v false [.ref 64000038400192]), (4, .v false [.val (.int .i64 v6_1)])], [(64000038400192, .row (.cons (.int .i64) .nil) true v6_2)]⟩
theorem spec_l10Up.r6 (x0 : List Int) (R : V.St → Option (List Int)) (v6_1 : Int) (v6_2 : List Int) : V.loopF spec_l10Up.E Tryz.f250.ntmps [1, 1, 0, 1, 0] [] (V.codeOf Tryz.f250) (spec_l10Up.kt x0) R (spec_l10Up.s6 x0 v6_1 v6_2) = spec_l10Up.g6 x0 (fun v6_1 v6_2 => R (spec_l10Up.s6 x0 v6_1 v6_2)) v6_1 v6_2 := by kernel_rfl
theorem spec_l10Up.e6 (x0 : List Int) : ∀ (n : Nat) (v6_1 : Int) (v6_2 : List Int), V.loopN (V.loopF spec_l10Up.E Tryz.f250.ntmps [1, 1, 0, 1, 0] [] (V.codeOf Tryz.f250) (spec_l10Up.kt x0)) n (spec_l10Up.s6 x0 v6_1 v6_2) = spec_l10Up.l6 x0 n v6_1 v6_2 := by
  intro n
  induction n with
  | zero => intros; rw [V.loopN_z]; rfl
  | succ n ih =>
    intro v6_1 v6_2
    rw [V.loopN_s, spec_l10Up.r6]
    simp only [ih]
    first | exact (spec_l10Up.u6 ..).symm | rfl
theorem spec_l10Up.v (x0 : List Int) : V.evBody spec_l10Up.E spec_l10Up.con Tryz.f250 ((x0) : List Int) = spec_l10Up.b x0 (fun v6_1 v6_2 => V.loopN (V.loopF spec_l10Up.E Tryz.f250.ntmps [1, 1, 0, 1, 0] [] (V.codeOf Tryz.f250) (spec_l10Up.kt x0)) V.KK (spec_l10Up.s6 x0 v6_1 v6_2)) := by kernel_rfl
theorem spec_l10Up.eq (x0 : List Int) : V.evBody spec_l10Up.E spec_l10Up.con Tryz.f250 ((x0) : List Int) = spec_l10Up x0 := by
  rw [spec_l10Up.v]
  simp only [spec_l10Up.e6]
  rfl
theorem spec_l10Up.ok : V.Valid Tryz.prog 250 spec_l10Up.con :=
  V.fo (V.tab_cons spec_NodeOf.ok V.tab_nil) Tryz.func250 (by kernel_rfl) (fun x y h => (show V.evBody spec_l10Up.E spec_l10Up.con Tryz.f250 x = _ from spec_l10Up.eq x).trans (V.cfl (by kernel_rfl) h))
noncomputable abbrev spec_TopOf.con : V.Con := ⟨(.cons (.sl (.cons (.int .i64) .nil)) .nil), (.cons (.int .i64) .nil), fun (x : List Int) => spec_TopOf x, [], [(false, 1)], [(false, 1)], [false], []⟩
noncomputable abbrev spec_TopOf.E : V.Env := V.mkE V.tys [(247, spec_Hash.con), (250, spec_l10Up.con)] [(8, [3], [(3, (.cons (.int .i64) .nil), false)])] [] [] [] []
noncomputable abbrev spec_TopOf.kt (x0 : List Int) : V.Kt Int := V.ktOf spec_TopOf.E spec_TopOf.con Tryz.f189 ((x0) : List Int)
noncomputable abbrev spec_TopOf.s8 (v8_0 : List Int) : V.St := ⟨[(3, .v false [.val (.sl (.cons (.int .i64) .nil) v8_0)])], []⟩
theorem spec_TopOf.r8 (x0 : List Int) (R : V.St → Option Int) (v8_0 : List Int) : V.loopF spec_TopOf.E Tryz.f189.ntmps [1, 1, 1, 0, 0] [] (V.codeOf Tryz.f189) (spec_TopOf.kt x0) R (spec_TopOf.s8 v8_0) = spec_TopOf.g8 (fun v8_0 => R (spec_TopOf.s8 v8_0)) v8_0 := by kernel_rfl
theorem spec_TopOf.e8 (x0 : List Int) : ∀ (n : Nat) (v8_0 : List Int), V.loopN (V.loopF spec_TopOf.E Tryz.f189.ntmps [1, 1, 1, 0, 0] [] (V.codeOf Tryz.f189) (spec_TopOf.kt x0)) n (spec_TopOf.s8 v8_0) = spec_TopOf.l8 n v8_0 := by
  intro n
  induction n with
  | zero => intros; rw [V.loopN_z]; rfl
  | succ n ih =>
    intro v8_0
    rw [V.loopN_s, spec_TopOf.r8]
    simp only [ih]
    first | exact (spec_TopOf.u8 ..).symm | rfl
theorem spec_TopOf.v (x0 : List Int) : V.evBody spec_TopOf.E spec_TopOf.con Tryz.f189 ((x0) : List Int) = spec_TopOf.b x0 (fun v8_0 => V.loopN (V.loopF spec_TopOf.E Tryz.f189.ntmps [1, 1, 1, 0, 0] [] (V.codeOf Tryz.f189) (spec_TopOf.kt x0)) V.KK (spec_TopOf.s8 v8_0)) := by kernel_rfl
theorem spec_TopOf.eq (x0 : List Int) : V.evBody spec_TopOf.E spec_TopOf.con Tryz.f189 ((x0) : List Int) = spec_TopOf x0 := by
  rw [spec_TopOf.v]
  simp only [spec_TopOf.e8]
  rfl
theorem spec_TopOf.ok : V.Valid Tryz.prog 189 spec_TopOf.con :=
  V.fo (V.tab_cons spec_Hash.ok (V.tab_cons spec_l10Up.ok V.tab_nil)) Tryz.func189 (by kernel_rfl) (fun x y h => (show V.evBody spec_TopOf.E spec_TopOf.con Tryz.f189 x = _ from spec_TopOf.eq x).trans (V.cfl (by kernel_rfl) h))
noncomputable abbrev spec_RootOf.con : V.Con := ⟨(.cons (.sl V.eEntry) .nil), (.cons (.int .i64) .nil), fun (x : List TEntry) => spec_RootOf x, [], [(false, 1)], [(false, 1)], [false], []⟩
noncomputable abbrev spec_RootOf.E : V.Env := V.mkE V.tys [(188, spec_l10Root.con), (189, spec_TopOf.con), (190, spec_LeavesOf.con)] [] [] [] [] []
theorem spec_RootOf.eq (x0 : List TEntry) : V.evBody spec_RootOf.E spec_RootOf.con Tryz.f88 ((x0) : List TEntry) = spec_RootOf x0 := by kernel_rfl
theorem spec_RootOf.ok : V.Valid Tryz.prog 88 spec_RootOf.con :=
  V.fo (V.tab_cons spec_l10Root.ok (V.tab_cons spec_TopOf.ok (V.tab_cons spec_LeavesOf.ok V.tab_nil))) Tryz.func88 (by kernel_rfl) (fun x y h => (show V.evBody spec_RootOf.E spec_RootOf.con Tryz.f88 x = _ from spec_RootOf.eq x).trans (V.cfl (by kernel_rfl) h))
noncomputable abbrev spec_l12None.con : V.Con := ⟨(.cons .str (.cons (.int .i64) (.cons (.int .i64) (.cons (.sl (.cons .str .nil)) (.cons (.int .i64) (.cons (.sl (.cons (.int .i64) .nil)) .nil)))))), (.cons .bool .nil), fun (x : ByteArray × Int × Int × List ByteArray × Int × List Int) => spec_l12None (x.1, x.2.1, x.2.2.1, x.2.2.2.1) x.2.2.2.2, [], [(true, 4), (true, 2)], [(false, 1)], [false], []⟩
noncomputable abbrev spec_l12None.E : V.Env := V.mkE V.tys [(278, spec_EqualEntries.con), (279, spec_EqualProofs.con)] [] [] [] [] []
theorem spec_l12None.eq (x0 : TEntry) (x1 : TProof) : V.evBody spec_l12None.E spec_l12None.con Tryz.f233 ((x0.1, x0.2.1, x0.2.2.1, x0.2.2.2, x1.1, x1.2) : ByteArray × Int × Int × List ByteArray × Int × List Int) = spec_l12None x0 x1 := by kernel_rfl
theorem spec_l12None.ok : V.Valid Tryz.prog 233 spec_l12None.con :=
  V.fo (V.tab_cons spec_EqualEntries.ok (V.tab_cons spec_EqualProofs.ok V.tab_nil)) Tryz.func233 (by kernel_rfl) (fun x y h => (show V.evBody spec_l12None.E spec_l12None.con Tryz.f233 x = _ from spec_l12None.eq (x.1, x.2.1, x.2.2.1, x.2.2.2.1) x.2.2.2.2).trans (V.cfl (by kernel_rfl) h))
noncomputable abbrev spec_CompareLabels.con : V.Con := ⟨(.cons .str (.cons .str .nil)), (.cons (.int .i64) .nil), fun (x : ByteArray × ByteArray) => spec_CompareLabels x.1 x.2, [], [(false, 1), (false, 1)], [(false, 1)], [false], []⟩
noncomputable abbrev spec_CompareLabels.E : V.Env := V.mkE V.tys [] [] [] [] [] []
theorem spec_CompareLabels.eq (x0 : ByteArray) (x1 : ByteArray) : V.evBody spec_CompareLabels.E spec_CompareLabels.con Tryz.f187 ((x0, x1) : ByteArray × ByteArray) = spec_CompareLabels x0 x1 := by kernel_rfl
theorem spec_CompareLabels.ok : V.Valid Tryz.prog 187 spec_CompareLabels.con :=
  V.fo V.tab_nil Tryz.func187 (by kernel_rfl) (fun x y h => (show V.evBody spec_CompareLabels.E spec_CompareLabels.con Tryz.f187 x = _ from spec_CompareLabels.eq x.1 x.2).trans (V.cfl (by kernel_rfl) h))
noncomputable abbrev spec_CheckAbsence.con : V.Con := ⟨V.A11, (.cons .bool .nil), fun (x : V.D11) => spec_CheckAbsence (V.p11_0 x) (V.p11_1 x) (V.p11_2 x) (V.p11_3 x), [], [(false, 1), (false, 1), (false, 1), (true, 13)], [(false, 1)], [false], []⟩
noncomputable abbrev spec_CheckAbsence.E : V.Env := V.mkE V.tys [(88, spec_RootOf.con), (147, spec_l1In.con), (187, spec_CompareLabels.con), (230, spec_CheckEntry.con), (233, spec_l12None.con), (248, spec_IsLabel.con)] [(7, [0, 1, 2, 7], []), (17, [0, 1, 2, 7], [])] [] [] [] []
noncomputable abbrev spec_CheckAbsence.kt (x0 : Int) (x1 : Int) (x2 : ByteArray) (x3 : TGap) : V.Kt Bool := V.ktOf spec_CheckAbsence.E spec_CheckAbsence.con Tryz.f232 (V.fl11 x0 x1 x2 x3)
noncomputable abbrev spec_CheckAbsence.s17 (x0 : Int) (x1 : Int) (x2 : ByteArray) (x3 : TGap) : V.St := ⟨[(0, .v false [.val (.int .i64 x0)]), (1, .v false [.val (.int .i64 x1)]), (2, .v false [.val (.str x2)]), (7, .v false [.ptr 64000 0])], [(64000, .box [.val (.int .i64 x3.1), .val (.str x3.2.1), .val (.int .i64 x3.2.2.1), .val (.int .i64 x3.2.2.2.1), .val (.sl (.cons .str .nil) x3.2.2.2.2.1), .val (.str x3.2.2.2.2.2.1), .val (.int .i64 x3.2.2.2.2.2.2.1), .val (.int .i64 x3.2.2.2.2.2.2.2.1), .val (.sl (.cons .str .nil) x3.2.2.2.2.2.2.2.2.1), .val (.int .i64 x3.2.2.2.2.2.2.2.2.2.1), .val (.sl (.cons (.int .i64) .nil) x3.2.2.2.2.2.2.2.2.2.2.1), .val (.int .i64 x3.2.2.2.2.2.2.2.2.2.2.2.1), .val (.sl (.cons (.int .i64) .nil) x3.2.2.2.2.2.2.2.2.2.2.2.2)])]⟩
noncomputable abbrev spec_CheckAbsence.s7 (x0 : Int) (x1 : Int) (x2 : ByteArray) (x3 : TGap) : V.St := ⟨[(0, .v false [.val (.int .i64 x0)]), (1, .v false [.val (.int .i64 x1)]), (2, .v false [.val (.str x2)]), (7, .v false [.ptr 64000 0])], [(64000, .box [.val (.int .i64 x3.1), .val (.str x3.2.1), .val (.int .i64 x3.2.2.1), .val (.int .i64 x3.2.2.2.1), .val (.sl (.cons .str .nil) x3.2.2.2.2.1), .val (.str x3.2.2.2.2.2.1), .val (.int .i64 x3.2.2.2.2.2.2.1), .val (.int .i64 x3.2.2.2.2.2.2.2.1), .val (.sl (.cons .str .nil) x3.2.2.2.2.2.2.2.2.1), .val (.int .i64 x3.2.2.2.2.2.2.2.2.2.1), .val (.sl (.cons (.int .i64) .nil) x3.2.2.2.2.2.2.2.2.2.2.1), .val (.int .i64 x3.2.2.2.2.2.2.2.2.2.2.2.1), .val (.sl (.cons (.int .i64) .nil) x3.2.2.2.2.2.2.2.2.2.2.2.2)])]⟩
theorem spec_CheckAbsence.r17 (x0 : Int) (x1 : Int) (x2 : ByteArray) (x3 : TGap) : V.joinF spec_CheckAbsence.E Tryz.f232.ntmps [1, 1] [] (V.codeOf Tryz.f232) (spec_CheckAbsence.kt x0 x1 x2 x3) (spec_CheckAbsence.s17 x0 x1 x2 x3) = spec_CheckAbsence.g17 x0 x1 x2 x3 := by kernel_rfl
theorem spec_CheckAbsence.e17 (x0 : Int) (x1 : Int) (x2 : ByteArray) (x3 : TGap) : V.jn (V.joinF spec_CheckAbsence.E Tryz.f232.ntmps [1, 1] [] (V.codeOf Tryz.f232) (spec_CheckAbsence.kt x0 x1 x2 x3)) (spec_CheckAbsence.s17 x0 x1 x2 x3) = spec_CheckAbsence.l17 x0 x1 x2 x3 := by
  rw [V.jn_eq, spec_CheckAbsence.r17]
  rfl
theorem spec_CheckAbsence.r7 (x0 : Int) (x1 : Int) (x2 : ByteArray) (x3 : TGap) : V.joinF spec_CheckAbsence.E Tryz.f232.ntmps [1] [] (V.codeOf Tryz.f232) (spec_CheckAbsence.kt x0 x1 x2 x3) (spec_CheckAbsence.s7 x0 x1 x2 x3) = spec_CheckAbsence.g7 x0 x1 x2 x3 (V.jn (V.joinF spec_CheckAbsence.E Tryz.f232.ntmps [1, 1] [] (V.codeOf Tryz.f232) (spec_CheckAbsence.kt x0 x1 x2 x3)) (spec_CheckAbsence.s17 x0 x1 x2 x3)) := by kernel_rfl
theorem spec_CheckAbsence.e7 (x0 : Int) (x1 : Int) (x2 : ByteArray) (x3 : TGap) : V.jn (V.joinF spec_CheckAbsence.E Tryz.f232.ntmps [1] [] (V.codeOf Tryz.f232) (spec_CheckAbsence.kt x0 x1 x2 x3)) (spec_CheckAbsence.s7 x0 x1 x2 x3) = spec_CheckAbsence.l7 x0 x1 x2 x3 := by
  rw [V.jn_eq, spec_CheckAbsence.r7]
  simp only [spec_CheckAbsence.e17]
  rfl
noncomputable abbrev spec_CheckAbsence.s (x0 : Int) (x1 : Int) (x2 : ByteArray) (x3 : TGap) : V.St := ⟨[(0, .v false [.val (.int .i64 x0)]), (1, .v false [.val (.int .i64 x1)]), (2, .v false [.val (.str x2)]), (3, .v true [.val (.int .i64 x3.1), .val (.str x3.2.1), .val (.int .i64 x3.2.2.1), .val (.int .i64 x3.2.2.2.1), .val (.sl (.cons .str .nil) x3.2.2.2.2.1), .val (.str x3.2.2.2.2.2.1), .val (.int .i64 x3.2.2.2.2.2.2.1), .val (.int .i64 x3.2.2.2.2.2.2.2.1), .val (.sl (.cons .str .nil) x3.2.2.2.2.2.2.2.2.1), .val (.int .i64 x3.2.2.2.2.2.2.2.2.2.1), .val (.sl (.cons (.int .i64) .nil) x3.2.2.2.2.2.2.2.2.2.2.1), .val (.int .i64 x3.2.2.2.2.2.2.2.2.2.2.2.1), .val (.sl (.cons (.int .i64) .nil) x3.2.2.2.2.2.2.2.2.2.2.2.2)])], []⟩
theorem spec_CheckAbsence.v0 (x0 : Int) (x1 : Int) (x2 : ByteArray) (x3 : TGap) : V.evBody spec_CheckAbsence.E spec_CheckAbsence.con Tryz.f232 (V.fl11 x0 x1 x2 x3) = V.evC spec_CheckAbsence.E Tryz.f232.ntmps (V.codeOf Tryz.f232) (spec_CheckAbsence.kt x0 x1 x2 x3) (spec_CheckAbsence.s x0 x1 x2 x3) := by kernel_rfl
theorem spec_CheckAbsence.v (x0 : Int) (x1 : Int) (x2 : ByteArray) (x3 : TGap) : V.evC spec_CheckAbsence.E Tryz.f232.ntmps (V.codeOf Tryz.f232) (spec_CheckAbsence.kt x0 x1 x2 x3) (spec_CheckAbsence.s x0 x1 x2 x3) = spec_CheckAbsence.b x0 x1 x2 x3 (V.jn (V.joinF spec_CheckAbsence.E Tryz.f232.ntmps [1] [] (V.codeOf Tryz.f232) (spec_CheckAbsence.kt x0 x1 x2 x3)) (spec_CheckAbsence.s7 x0 x1 x2 x3)) := by kernel_rfl
theorem spec_CheckAbsence.eq (x0 : Int) (x1 : Int) (x2 : ByteArray) (x3 : TGap) : V.evBody spec_CheckAbsence.E spec_CheckAbsence.con Tryz.f232 (V.fl11 x0 x1 x2 x3) = spec_CheckAbsence x0 x1 x2 x3 := by
  rw [spec_CheckAbsence.v0, spec_CheckAbsence.v]
  simp only [spec_CheckAbsence.e7]
  rfl
theorem spec_CheckAbsence.ok : V.Valid Tryz.prog 232 spec_CheckAbsence.con :=
  V.fo (V.tab_cons spec_RootOf.ok (V.tab_cons spec_l1In.ok (V.tab_cons spec_CompareLabels.ok (V.tab_cons spec_CheckEntry.ok (V.tab_cons spec_l12None.ok (V.tab_cons spec_IsLabel.ok V.tab_nil)))))) Tryz.func232 (by kernel_rfl) (fun x y h => (show V.evBody spec_CheckAbsence.E spec_CheckAbsence.con Tryz.f232 x = _ from spec_CheckAbsence.eq (V.p11_0 x) (V.p11_1 x) (V.p11_2 x) (V.p11_3 x)).trans (V.cfl (by kernel_rfl) h))
noncomputable abbrev spec_l21Proved.con : V.Con := ⟨V.A12, (.cons .bool .nil), fun (x : V.D12) => spec_l21Proved (V.p12_0 x) (V.p12_1 x) (V.p12_2 x), [], [(true, 16), (false, 1), (true, 21)], [(false, 1)], [false], []⟩
noncomputable abbrev spec_l21Proved.E : V.Env := V.mkE V.tys [(230, spec_CheckEntry.con), (231, spec_EqualGaps.con), (232, spec_CheckAbsence.con), (233, spec_l12None.con)] [] [] [] [] []
noncomputable abbrev spec_l21Proved.kt (x0 : THead) (x1 : ByteArray) (x2 : TAnswer) : V.Kt Bool := V.ktOf spec_l21Proved.E spec_l21Proved.con Tryz.f158 (V.fl12 x0 x1 x2)
noncomputable abbrev spec_l21Proved.s (x0 : THead) (x1 : ByteArray) (x2 : TAnswer) : V.St := ⟨[(0, .v true [.val (.int .i64 x0.1), .val (.int .i64 x0.2.1), .val (.int .i64 x0.2.2.1), .val (.int .i64 x0.2.2.2.1), .val (.int .i64 x0.2.2.2.2.1), .val (.int .i64 x0.2.2.2.2.2.1), .val (.int .i64 x0.2.2.2.2.2.2.1), .val (.int .i64 x0.2.2.2.2.2.2.2.1), .val (.sl (.cons (.int .i64) .nil) x0.2.2.2.2.2.2.2.2.1), .val (.int .i64 x0.2.2.2.2.2.2.2.2.2.1), .val (.sl (.cons (.int .i64) .nil) x0.2.2.2.2.2.2.2.2.2.2.1), .val (.int .i64 x0.2.2.2.2.2.2.2.2.2.2.2.1), .val (.int .i64 x0.2.2.2.2.2.2.2.2.2.2.2.2.1), .val (.sl (.cons (.int .i64) .nil) x0.2.2.2.2.2.2.2.2.2.2.2.2.2.1), .val (.int .i64 x0.2.2.2.2.2.2.2.2.2.2.2.2.2.2.1), .val (.bool x0.2.2.2.2.2.2.2.2.2.2.2.2.2.2.2)]), (1, .v false [.val (.str x1)]), (2, .v true [.val (.sl V.eSigned x2.1), .val (.bool x2.2.1), .val (.str x2.2.2.1), .val (.int .i64 x2.2.2.2.1), .val (.int .i64 x2.2.2.2.2.1), .val (.sl (.cons .str .nil) x2.2.2.2.2.2.1), .val (.int .i64 x2.2.2.2.2.2.2.1), .val (.sl (.cons (.int .i64) .nil) x2.2.2.2.2.2.2.2.1), .val (.int .i64 x2.2.2.2.2.2.2.2.2.1), .val (.str x2.2.2.2.2.2.2.2.2.2.1), .val (.int .i64 x2.2.2.2.2.2.2.2.2.2.2.1), .val (.int .i64 x2.2.2.2.2.2.2.2.2.2.2.2.1), .val (.sl (.cons .str .nil) x2.2.2.2.2.2.2.2.2.2.2.2.2.1), .val (.str x2.2.2.2.2.2.2.2.2.2.2.2.2.2.1), .val (.int .i64 x2.2.2.2.2.2.2.2.2.2.2.2.2.2.2.1), .val (.int .i64 x2.2.2.2.2.2.2.2.2.2.2.2.2.2.2.2.1), .val (.sl (.cons .str .nil) x2.2.2.2.2.2.2.2.2.2.2.2.2.2.2.2.2.1), .val (.int .i64 x2.2.2.2.2.2.2.2.2.2.2.2.2.2.2.2.2.2.1), .val (.sl (.cons (.int .i64) .nil) x2.2.2.2.2.2.2.2.2.2.2.2.2.2.2.2.2.2.2.1), .val (.int .i64 x2.2.2.2.2.2.2.2.2.2.2.2.2.2.2.2.2.2.2.2.1), .val (.sl (.cons (.int .i64) .nil) x2.2.2.2.2.2.2.2.2.2.2.2.2.2.2.2.2.2.2.2.2)])], []⟩
theorem spec_l21Proved.v0 (x0 : THead) (x1 : ByteArray) (x2 : TAnswer) : V.evBody spec_l21Proved.E spec_l21Proved.con Tryz.f158 (V.fl12 x0 x1 x2) = V.evC spec_l21Proved.E Tryz.f158.ntmps (V.codeOf Tryz.f158) (spec_l21Proved.kt x0 x1 x2) (spec_l21Proved.s x0 x1 x2) := by kernel_rfl
theorem spec_l21Proved.v (x0 : THead) (x1 : ByteArray) (x2 : TAnswer) : V.evC spec_l21Proved.E Tryz.f158.ntmps (V.codeOf Tryz.f158) (spec_l21Proved.kt x0 x1 x2) (spec_l21Proved.s x0 x1 x2) = spec_l21Proved x0 x1 x2 := by kernel_rfl
theorem spec_l21Proved.eq (x0 : THead) (x1 : ByteArray) (x2 : TAnswer) : V.evBody spec_l21Proved.E spec_l21Proved.con Tryz.f158 (V.fl12 x0 x1 x2) = spec_l21Proved x0 x1 x2 := (spec_l21Proved.v0 x0 x1 x2).trans (spec_l21Proved.v x0 x1 x2)
theorem spec_l21Proved.ok : V.Valid Tryz.prog 158 spec_l21Proved.con :=
  V.fo (V.tab_cons spec_CheckEntry.ok (V.tab_cons spec_EqualGaps.ok (V.tab_cons spec_CheckAbsence.ok (V.tab_cons spec_l12None.ok V.tab_nil)))) Tryz.func158 (by kernel_rfl) (fun x y h => (show V.evBody spec_l21Proved.E spec_l21Proved.con Tryz.f158 x = _ from spec_l21Proved.eq (V.p12_0 x) (V.p12_1 x) (V.p12_2 x)).trans (V.cfl (by kernel_rfl) h))
noncomputable abbrev spec_CheckAnswer.con : V.Con := ⟨V.A13, (.cons (.int .i64) .nil), fun (x : V.D13) => spec_CheckAnswer (V.p13_0 x) (V.p13_1 x) (V.p13_2 x) (V.p13_3 x), [], [(false, 1), (false, 1), (true, 21), (false, 1)], [(false, 1)], [false], []⟩
noncomputable abbrev spec_CheckAnswer.E : V.Env := V.mkE V.tys [(134, spec_LastHead.con), (157, spec_IsFresh.con), (158, spec_l21Proved.con)] [] [] [] [] []
noncomputable abbrev spec_CheckAnswer.kt (x0 : Int) (x1 : ByteArray) (x2 : TAnswer) (x3 : Int) : V.Kt Int := V.ktOf spec_CheckAnswer.E spec_CheckAnswer.con Tryz.f66 (V.fl13 x0 x1 x2 x3)
noncomputable abbrev spec_CheckAnswer.s (x0 : Int) (x1 : ByteArray) (x2 : TAnswer) (x3 : Int) : V.St := ⟨[(0, .v false [.val (.int .i64 x0)]), (1, .v false [.val (.str x1)]), (2, .v true [.val (.sl V.eSigned x2.1), .val (.bool x2.2.1), .val (.str x2.2.2.1), .val (.int .i64 x2.2.2.2.1), .val (.int .i64 x2.2.2.2.2.1), .val (.sl (.cons .str .nil) x2.2.2.2.2.2.1), .val (.int .i64 x2.2.2.2.2.2.2.1), .val (.sl (.cons (.int .i64) .nil) x2.2.2.2.2.2.2.2.1), .val (.int .i64 x2.2.2.2.2.2.2.2.2.1), .val (.str x2.2.2.2.2.2.2.2.2.2.1), .val (.int .i64 x2.2.2.2.2.2.2.2.2.2.2.1), .val (.int .i64 x2.2.2.2.2.2.2.2.2.2.2.2.1), .val (.sl (.cons .str .nil) x2.2.2.2.2.2.2.2.2.2.2.2.2.1), .val (.str x2.2.2.2.2.2.2.2.2.2.2.2.2.2.1), .val (.int .i64 x2.2.2.2.2.2.2.2.2.2.2.2.2.2.2.1), .val (.int .i64 x2.2.2.2.2.2.2.2.2.2.2.2.2.2.2.2.1), .val (.sl (.cons .str .nil) x2.2.2.2.2.2.2.2.2.2.2.2.2.2.2.2.2.1), .val (.int .i64 x2.2.2.2.2.2.2.2.2.2.2.2.2.2.2.2.2.2.1), .val (.sl (.cons (.int .i64) .nil) x2.2.2.2.2.2.2.2.2.2.2.2.2.2.2.2.2.2.2.1), .val (.int .i64 x2.2.2.2.2.2.2.2.2.2.2.2.2.2.2.2.2.2.2.2.1), .val (.sl (.cons (.int .i64) .nil) x2.2.2.2.2.2.2.2.2.2.2.2.2.2.2.2.2.2.2.2.2)]), (3, .v false [.val (.int .i64 x3)])], []⟩
theorem spec_CheckAnswer.v0 (x0 : Int) (x1 : ByteArray) (x2 : TAnswer) (x3 : Int) : V.evBody spec_CheckAnswer.E spec_CheckAnswer.con Tryz.f66 (V.fl13 x0 x1 x2 x3) = V.evC spec_CheckAnswer.E Tryz.f66.ntmps (V.codeOf Tryz.f66) (spec_CheckAnswer.kt x0 x1 x2 x3) (spec_CheckAnswer.s x0 x1 x2 x3) := by kernel_rfl
theorem spec_CheckAnswer.v (x0 : Int) (x1 : ByteArray) (x2 : TAnswer) (x3 : Int) : V.evC spec_CheckAnswer.E Tryz.f66.ntmps (V.codeOf Tryz.f66) (spec_CheckAnswer.kt x0 x1 x2 x3) (spec_CheckAnswer.s x0 x1 x2 x3) = spec_CheckAnswer x0 x1 x2 x3 := by kernel_rfl
theorem spec_CheckAnswer.eq (x0 : Int) (x1 : ByteArray) (x2 : TAnswer) (x3 : Int) : V.evBody spec_CheckAnswer.E spec_CheckAnswer.con Tryz.f66 (V.fl13 x0 x1 x2 x3) = spec_CheckAnswer x0 x1 x2 x3 := (spec_CheckAnswer.v0 x0 x1 x2 x3).trans (spec_CheckAnswer.v x0 x1 x2 x3)
theorem spec_CheckAnswer.ok : V.Valid Tryz.prog 66 spec_CheckAnswer.con :=
  V.fo (V.tab_cons spec_LastHead.ok (V.tab_cons spec_IsFresh.ok (V.tab_cons spec_l21Proved.ok V.tab_nil))) Tryz.func66 (by kernel_rfl) (fun x y h => (show V.evBody spec_CheckAnswer.E spec_CheckAnswer.con Tryz.f66 x = _ from spec_CheckAnswer.eq (V.p13_0 x) (V.p13_1 x) (V.p13_2 x) (V.p13_3 x)).trans (V.cfl (by kernel_rfl) h))
noncomputable abbrev impl_InRange.con : V.Con := ⟨(.cons (.int .i64) (.cons (.int .i64) (.cons (.int .i64) .nil))), (.cons .bool .nil), fun (x : Int × Int × Int) => impl_InRange x.1 x.2.1 x.2.2, [], [(false, 1), (false, 1), (false, 1)], [(false, 1)], [false], []⟩
noncomputable abbrev impl_InRange.E : V.Env := V.mkE V.tys [] [] [] [] [] []
theorem impl_InRange.eq (x0 : Int) (x1 : Int) (x2 : Int) : V.evBody impl_InRange.E impl_InRange.con Tryz.f151 ((x0, x1, x2) : Int × Int × Int) = impl_InRange x0 x1 x2 := by kernel_rfl
theorem impl_InRange.ok : V.Valid Tryz.prog 151 impl_InRange.con :=
  V.fo V.tab_nil Tryz.func151 (by kernel_rfl) (fun x y h => (show V.evBody impl_InRange.E impl_InRange.con Tryz.f151 x = _ from impl_InRange.eq x.1 x.2.1 x.2.2).trans (V.cfl (by kernel_rfl) h))
noncomputable abbrev impl_isDigest.con : V.Con := ⟨(.cons (.int .i64) .nil), (.cons .bool .nil), fun (x : Int) => impl_isDigest x, [], [(false, 1)], [(false, 1)], [false], []⟩
noncomputable abbrev impl_isDigest.E : V.Env := V.mkE V.tys [(151, impl_InRange.con)] [] [] [] [] []
theorem impl_isDigest.eq (x0 : Int) : V.evBody impl_isDigest.E impl_isDigest.con Tryz.f217 ((x0) : Int) = impl_isDigest x0 := by kernel_rfl
theorem impl_isDigest.ok : V.Valid Tryz.prog 217 impl_isDigest.con :=
  V.fo (V.tab_cons impl_InRange.ok V.tab_nil) Tryz.func217 (by kernel_rfl) (fun x y h => (show V.evBody impl_isDigest.E impl_isDigest.con Tryz.f217 x = _ from impl_isDigest.eq x).trans (V.cfl (by kernel_rfl) h))
noncomputable abbrev impl_isSpan.con : V.Con := ⟨V.A4, (.cons .bool .nil), fun (x : V.D4) => impl_isSpan (V.p4_0 x), [], [(true, 16)], [(false, 1)], [false], []⟩
noncomputable abbrev impl_isSpan.E : V.Env := V.mkE V.tys [] [] [] [] [] []
noncomputable abbrev impl_isSpan.kt (x0 : THead) : V.Kt Bool := V.ktOf impl_isSpan.E impl_isSpan.con Tryz.f255 (V.fl4 x0)
noncomputable abbrev impl_isSpan.s (x0 : THead) : V.St := ⟨[(0, .v true [.val (.int .i64 x0.1), .val (.int .i64 x0.2.1), .val (.int .i64 x0.2.2.1), .val (.int .i64 x0.2.2.2.1), .val (.int .i64 x0.2.2.2.2.1), .val (.int .i64 x0.2.2.2.2.2.1), .val (.int .i64 x0.2.2.2.2.2.2.1), .val (.int .i64 x0.2.2.2.2.2.2.2.1), .val (.sl (.cons (.int .i64) .nil) x0.2.2.2.2.2.2.2.2.1), .val (.int .i64 x0.2.2.2.2.2.2.2.2.2.1), .val (.sl (.cons (.int .i64) .nil) x0.2.2.2.2.2.2.2.2.2.2.1), .val (.int .i64 x0.2.2.2.2.2.2.2.2.2.2.2.1), .val (.int .i64 x0.2.2.2.2.2.2.2.2.2.2.2.2.1), .val (.sl (.cons (.int .i64) .nil) x0.2.2.2.2.2.2.2.2.2.2.2.2.2.1), .val (.int .i64 x0.2.2.2.2.2.2.2.2.2.2.2.2.2.2.1), .val (.bool x0.2.2.2.2.2.2.2.2.2.2.2.2.2.2.2)])], []⟩
theorem impl_isSpan.v0 (x0 : THead) : V.evBody impl_isSpan.E impl_isSpan.con Tryz.f255 (V.fl4 x0) = V.evC impl_isSpan.E Tryz.f255.ntmps (V.codeOf Tryz.f255) (impl_isSpan.kt x0) (impl_isSpan.s x0) := by kernel_rfl
theorem impl_isSpan.v (x0 : THead) : V.evC impl_isSpan.E Tryz.f255.ntmps (V.codeOf Tryz.f255) (impl_isSpan.kt x0) (impl_isSpan.s x0) = impl_isSpan x0 := by kernel_rfl
theorem impl_isSpan.eq (x0 : THead) : V.evBody impl_isSpan.E impl_isSpan.con Tryz.f255 (V.fl4 x0) = impl_isSpan x0 := (impl_isSpan.v0 x0).trans (impl_isSpan.v x0)
theorem impl_isSpan.ok : V.Valid Tryz.prog 255 impl_isSpan.con :=
  V.fo V.tab_nil Tryz.func255 (by kernel_rfl) (fun x y h => (show V.evBody impl_isSpan.E impl_isSpan.con Tryz.f255 x = _ from impl_isSpan.eq (V.p4_0 x)).trans (V.cfl (by kernel_rfl) h))
noncomputable abbrev impl_ascending.con : V.Con := ⟨(.cons (.sl (.cons (.int .i64) .nil)) .nil), (.cons .bool .nil), fun (x : List Int) => impl_ascending x, [], [(false, 1)], [(false, 1)], [false], []⟩
noncomputable abbrev impl_ascending.E : V.Env := V.mkE V.tys [] [(4, [0, 5, 6], [])] [(4, 12)] [] [] []
noncomputable abbrev impl_ascending.kt (x0 : List Int) : V.Kt Bool := V.ktOf impl_ascending.E impl_ascending.con Tryz.f298 ((x0) : List Int)
noncomputable abbrev impl_ascending.s4 (x0 : List Int) (v4_1 : Int) (v4_2 : Int) : V.St := ⟨[(0, .v false [.val (.sl (.cons (.int .i64) .nil) x0)]), (5, .v false [.val (.int .i64 v4_1)]), (6, .v false [.val (.int .i64 v4_2)])], []⟩
theorem impl_ascending.r4 (x0 : List Int) (R : V.St → Option Bool) (v4_1 : Int) (v4_2 : Int) : V.loopF impl_ascending.E Tryz.f298.ntmps [1, 0, 1, 0] [] (V.codeOf Tryz.f298) (impl_ascending.kt x0) R (impl_ascending.s4 x0 v4_1 v4_2) = impl_ascending.g4 x0 (fun v4_1 v4_2 => R (impl_ascending.s4 x0 v4_1 v4_2)) v4_1 v4_2 := by kernel_rfl
theorem impl_ascending.e4 (x0 : List Int) : ∀ (n : Nat) (v4_1 : Int) (v4_2 : Int), V.loopN (V.loopF impl_ascending.E Tryz.f298.ntmps [1, 0, 1, 0] [] (V.codeOf Tryz.f298) (impl_ascending.kt x0)) n (impl_ascending.s4 x0 v4_1 v4_2) = impl_ascending.l4 x0 n v4_1 v4_2 := by
  intro n
  induction n with
  | zero => intros; rw [V.loopN_z]; rfl
  | succ n ih =>
    intro v4_1 v4_2
    rw [V.loopN_s, impl_ascending.r4]
    simp only [ih]
    first | exact (impl_ascending.u4 ..).symm | rfl
theorem impl_ascending.v (x0 : List Int) : V.evBody impl_ascending.E impl_ascending.con Tryz.f298 ((x0) : List Int) = impl_ascending.b x0 (fun v4_1 v4_2 => V.loopN (V.loopF impl_ascending.E Tryz.f298.ntmps [1, 0, 1, 0] [] (V.codeOf Tryz.f298) (impl_ascending.kt x0)) V.KK (impl_ascending.s4 x0 v4_1 v4_2)) := by kernel_rfl
theorem impl_ascending.eq (x0 : List Int) : V.evBody impl_ascending.E impl_ascending.con Tryz.f298 ((x0) : List Int) = impl_ascending x0 := by
  rw [impl_ascending.v]
  simp only [impl_ascending.e4]
  rfl
theorem impl_ascending.ok : V.Valid Tryz.prog 298 impl_ascending.con :=
  V.fo V.tab_nil Tryz.func298 (by kernel_rfl) (fun x y h => (show V.evBody impl_ascending.E impl_ascending.con Tryz.f298 x = _ from impl_ascending.eq x).trans (V.cfl (by kernel_rfl) h))
noncomputable abbrev impl_isKey.con : V.Con := ⟨(.cons (.int .i64) .nil), (.cons .bool .nil), fun (x : Int) => impl_isKey x, [], [(false, 1)], [(false, 1)], [false], []⟩
noncomputable abbrev impl_isKey.E : V.Env := V.mkE V.tys [(151, impl_InRange.con)] [] [] [] [] []
theorem impl_isKey.eq (x0 : Int) : V.evBody impl_isKey.E impl_isKey.con Tryz.f218 ((x0) : Int) = impl_isKey x0 := by kernel_rfl
theorem impl_isKey.ok : V.Valid Tryz.prog 218 impl_isKey.con :=
  V.fo (V.tab_cons impl_InRange.ok V.tab_nil) Tryz.func218 (by kernel_rfl) (fun x y h => (show V.evBody impl_isKey.E impl_isKey.con Tryz.f218 x = _ from impl_isKey.eq x).trans (V.cfl (by kernel_rfl) h))
noncomputable abbrev impl_IsKeys.con : V.Con := ⟨(.cons (.sl (.cons (.int .i64) .nil)) (.cons (.int .i64) .nil)), (.cons .bool .nil), fun (x : List Int × Int) => impl_IsKeys x, [], [(true, 2)], [(false, 1)], [false], []⟩
noncomputable abbrev impl_IsKeys.E : V.Env := V.mkE V.tys [(151, impl_InRange.con), (218, impl_isKey.con), (298, impl_ascending.con)] [] [] [] [] []
theorem impl_IsKeys.eq (x0 : TKeys) : V.evBody impl_IsKeys.E impl_IsKeys.con Tryz.f256 ((x0.1, x0.2) : List Int × Int) = impl_IsKeys x0 := by kernel_rfl
theorem impl_IsKeys.ok : V.Valid Tryz.prog 256 impl_IsKeys.con :=
  V.fo (V.tab_cons impl_InRange.ok (V.tab_cons impl_isKey.ok (V.tab_cons impl_ascending.ok V.tab_nil))) Tryz.func256 (by kernel_rfl) (fun x y h => (show V.evBody impl_IsKeys.E impl_IsKeys.con Tryz.f256 x = _ from impl_IsKeys.eq x).trans (V.cfl (by kernel_rfl) h))
noncomputable abbrev impl_NoKeys.con : V.Con := ⟨(.cons (.sl (.cons (.int .i64) .nil)) (.cons (.int .i64) .nil)), (.cons .bool .nil), fun (x : List Int × Int) => impl_NoKeys x, [], [(true, 2)], [(false, 1)], [false], []⟩
noncomputable abbrev impl_NoKeys.E : V.Env := V.mkE V.tys [] [] [] [] [] []
theorem impl_NoKeys.eq (x0 : TKeys) : V.evBody impl_NoKeys.E impl_NoKeys.con Tryz.f259 ((x0.1, x0.2) : List Int × Int) = impl_NoKeys x0 := by kernel_rfl
theorem impl_NoKeys.ok : V.Valid Tryz.prog 259 impl_NoKeys.con :=
  V.fo V.tab_nil Tryz.func259 (by kernel_rfl) (fun x y h => (show V.evBody impl_NoKeys.E impl_NoKeys.con Tryz.f259 x = _ from impl_NoKeys.eq x).trans (V.cfl (by kernel_rfl) h))
noncomputable abbrev impl_isMaybe.con : V.Con := ⟨(.cons (.sl (.cons (.int .i64) .nil)) (.cons (.int .i64) .nil)), (.cons .bool .nil), fun (x : List Int × Int) => impl_isMaybe x, [], [(true, 2)], [(false, 1)], [false], []⟩
noncomputable abbrev impl_isMaybe.E : V.Env := V.mkE V.tys [(256, impl_IsKeys.con), (259, impl_NoKeys.con)] [] [] [] [] []
theorem impl_isMaybe.eq (x0 : TKeys) : V.evBody impl_isMaybe.E impl_isMaybe.con Tryz.f257 ((x0.1, x0.2) : List Int × Int) = impl_isMaybe x0 := by kernel_rfl
theorem impl_isMaybe.ok : V.Valid Tryz.prog 257 impl_isMaybe.con :=
  V.fo (V.tab_cons impl_IsKeys.ok (V.tab_cons impl_NoKeys.ok V.tab_nil)) Tryz.func257 (by kernel_rfl) (fun x y h => (show V.evBody impl_isMaybe.E impl_isMaybe.con Tryz.f257 x = _ from impl_isMaybe.eq x).trans (V.cfl (by kernel_rfl) h))
noncomputable abbrev impl_isWait.con : V.Con := ⟨(.cons (.int .i64) (.cons (.sl (.cons (.int .i64) .nil)) (.cons (.int .i64) .nil))), (.cons .bool .nil), fun (x : Int × List Int × Int) => impl_isWait x.1 x.2, [], [(false, 1), (true, 2)], [(false, 1)], [false], []⟩
noncomputable abbrev impl_isWait.E : V.Env := V.mkE V.tys [(151, impl_InRange.con), (259, impl_NoKeys.con)] [] [] [] [] []
theorem impl_isWait.eq (x0 : Int) (x1 : TKeys) : V.evBody impl_isWait.E impl_isWait.con Tryz.f258 ((x0, x1.1, x1.2) : Int × List Int × Int) = impl_isWait x0 x1 := by kernel_rfl
theorem impl_isWait.ok : V.Valid Tryz.prog 258 impl_isWait.con :=
  V.fo (V.tab_cons impl_InRange.ok (V.tab_cons impl_NoKeys.ok V.tab_nil)) Tryz.func258 (by kernel_rfl) (fun x y h => (show V.evBody impl_isWait.E impl_isWait.con Tryz.f258 x = _ from impl_isWait.eq x.1 x.2).trans (V.cfl (by kernel_rfl) h))
noncomputable abbrev impl_IsHead.con : V.Con := ⟨V.A4, (.cons .bool .nil), fun (x : V.D4) => impl_IsHead (V.p4_0 x), [], [(true, 16)], [(false, 1)], [false], []⟩
noncomputable abbrev impl_IsHead.E : V.Env := V.mkE V.tys [(151, impl_InRange.con), (217, impl_isDigest.con), (255, impl_isSpan.con), (256, impl_IsKeys.con), (257, impl_isMaybe.con), (258, impl_isWait.con), (259, impl_NoKeys.con)] [] [] [] [] []
noncomputable abbrev impl_IsHead.kt (x0 : THead) : V.Kt Bool := V.ktOf impl_IsHead.E impl_IsHead.con Tryz.f194 (V.fl4 x0)
noncomputable abbrev impl_IsHead.s (x0 : THead) : V.St := ⟨[(0, .v true [.val (.int .i64 x0.1), .val (.int .i64 x0.2.1), .val (.int .i64 x0.2.2.1), .val (.int .i64 x0.2.2.2.1), .val (.int .i64 x0.2.2.2.2.1), .val (.int .i64 x0.2.2.2.2.2.1), .val (.int .i64 x0.2.2.2.2.2.2.1), .val (.int .i64 x0.2.2.2.2.2.2.2.1), .val (.sl (.cons (.int .i64) .nil) x0.2.2.2.2.2.2.2.2.1), .val (.int .i64 x0.2.2.2.2.2.2.2.2.2.1), .val (.sl (.cons (.int .i64) .nil) x0.2.2.2.2.2.2.2.2.2.2.1), .val (.int .i64 x0.2.2.2.2.2.2.2.2.2.2.2.1), .val (.int .i64 x0.2.2.2.2.2.2.2.2.2.2.2.2.1), .val (.sl (.cons (.int .i64) .nil) x0.2.2.2.2.2.2.2.2.2.2.2.2.2.1), .val (.int .i64 x0.2.2.2.2.2.2.2.2.2.2.2.2.2.2.1), .val (.bool x0.2.2.2.2.2.2.2.2.2.2.2.2.2.2.2)])], []⟩
theorem impl_IsHead.v0 (x0 : THead) : V.evBody impl_IsHead.E impl_IsHead.con Tryz.f194 (V.fl4 x0) = V.evC impl_IsHead.E Tryz.f194.ntmps (V.codeOf Tryz.f194) (impl_IsHead.kt x0) (impl_IsHead.s x0) := by kernel_rfl
theorem impl_IsHead.v (x0 : THead) : V.evC impl_IsHead.E Tryz.f194.ntmps (V.codeOf Tryz.f194) (impl_IsHead.kt x0) (impl_IsHead.s x0) = impl_IsHead x0 := by kernel_rfl
theorem impl_IsHead.eq (x0 : THead) : V.evBody impl_IsHead.E impl_IsHead.con Tryz.f194 (V.fl4 x0) = impl_IsHead x0 := (impl_IsHead.v0 x0).trans (impl_IsHead.v x0)
theorem impl_IsHead.ok : V.Valid Tryz.prog 194 impl_IsHead.con :=
  V.fo (V.tab_cons impl_InRange.ok (V.tab_cons impl_isDigest.ok (V.tab_cons impl_isSpan.ok (V.tab_cons impl_IsKeys.ok (V.tab_cons impl_isMaybe.ok (V.tab_cons impl_isWait.ok (V.tab_cons impl_NoKeys.ok V.tab_nil))))))) Tryz.func194 (by kernel_rfl) (fun x y h => (show V.evBody impl_IsHead.E impl_IsHead.con Tryz.f194 x = _ from impl_IsHead.eq (V.p4_0 x)).trans (V.cfl (by kernel_rfl) h))
noncomputable abbrev impl_KeysInts.con : V.Con := ⟨(.cons (.sl (.cons (.int .i64) .nil)) (.cons (.int .i64) .nil)), (.cons (.sl (.cons (.int .i64) .nil)) .nil), fun (x : List Int × Int) => impl_KeysInts x, [], [(true, 2)], [(false, 1)], [true], []⟩
noncomputable abbrev impl_KeysInts.E : V.Env := V.mkE V.tys [] [] [] [] [] []
theorem impl_KeysInts.eq (x0 : TKeys) : V.evBody impl_KeysInts.E impl_KeysInts.con Tryz.f271 ((x0.1, x0.2) : List Int × Int) = impl_KeysInts x0 := by kernel_rfl
theorem impl_KeysInts.ok : V.Valid Tryz.prog 271 impl_KeysInts.con :=
  V.fo V.tab_nil Tryz.func271 (by kernel_rfl) (fun x y h => (show V.evBody impl_KeysInts.E impl_KeysInts.con Tryz.f271 x = _ from impl_KeysInts.eq x).trans (V.cfl (by kernel_rfl) h))
noncomputable abbrev impl_Mod.con : V.Con := ⟨(.cons (.int .i64) (.cons (.int .i64) .nil)), (.cons (.int .i64) .nil), fun (x : Int × Int) => impl_Mod x.1 x.2, [], [(false, 1), (false, 1)], [(false, 1)], [false], []⟩
noncomputable abbrev impl_Mod.E : V.Env := V.mkE V.tys [(151, impl_InRange.con)] [] [] [] [] []
theorem impl_Mod.eq (x0 : Int) (x1 : Int) : V.evBody impl_Mod.E impl_Mod.con Tryz.f299 ((x0, x1) : Int × Int) = impl_Mod x0 x1 := by kernel_rfl
theorem impl_Mod.ok : V.Valid Tryz.prog 299 impl_Mod.con :=
  V.fo (V.tab_cons impl_InRange.ok V.tab_nil) Tryz.func299 (by kernel_rfl) (fun x y h => (show V.evBody impl_Mod.E impl_Mod.con Tryz.f299 x = _ from impl_Mod.eq x.1 x.2).trans (V.cfl (by kernel_rfl) h))
noncomputable abbrev impl_Hash.con : V.Con := ⟨(.cons (.sl (.cons (.int .i64) .nil)) .nil), (.cons (.int .i64) .nil), fun (x : List Int) => impl_Hash x, [], [(false, 1)], [(false, 1)], [false], []⟩
noncomputable abbrev impl_Hash.E : V.Env := V.mkE V.tys [(299, impl_Mod.con)] [(6, [3, 6, 7, 8], [])] [] [] [] []
noncomputable abbrev impl_Hash.kt (x0 : List Int) : V.Kt Int := V.ktOf impl_Hash.E impl_Hash.con Tryz.f260 ((x0) : List Int)
noncomputable abbrev impl_Hash.s6 (x0 : List Int) (v6_0 : Int) (v6_2 : Int) (v6_3 : Int) : V.St := ⟨[(3, .v false [.val (.int .i64 v6_0)]), (6, .v false [.val (.sl (.cons (.int .i64) .nil) x0)]), (7, .v false [.val (.int .i64 v6_2)]), (8, .v false [.val (.int .i64 v6_3)])], []⟩
theorem impl_Hash.r6 (x0 : List Int) (R : V.St → Option Int) (v6_0 : Int) (v6_2 : Int) (v6_3 : Int) : V.loopF impl_Hash.E Tryz.f260.ntmps [1, 1, 0, 1, 0] [] (V.codeOf Tryz.f260) (impl_Hash.kt x0) R (impl_Hash.s6 x0 v6_0 v6_2 v6_3) = impl_Hash.g6 x0 (fun v6_0 v6_2 v6_3 => R (impl_Hash.s6 x0 v6_0 v6_2 v6_3)) v6_0 v6_2 v6_3 := by kernel_rfl
theorem impl_Hash.e6 (x0 : List Int) : ∀ (n : Nat) (v6_0 : Int) (v6_2 : Int) (v6_3 : Int), V.loopN (V.loopF impl_Hash.E Tryz.f260.ntmps [1, 1, 0, 1, 0] [] (V.codeOf Tryz.f260) (impl_Hash.kt x0)) n (impl_Hash.s6 x0 v6_0 v6_2 v6_3) = impl_Hash.l6 x0 n v6_0 v6_2 v6_3 := by
  intro n
  induction n with
  | zero => intros; rw [V.loopN_z]; rfl
  | succ n ih =>
    intro v6_0 v6_2 v6_3
    rw [V.loopN_s, impl_Hash.r6]
    simp only [ih]
    first | exact (impl_Hash.u6 ..).symm | rfl
theorem impl_Hash.v (x0 : List Int) : V.evBody impl_Hash.E impl_Hash.con Tryz.f260 ((x0) : List Int) = impl_Hash.b x0 (fun v6_0 v6_2 v6_3 => V.loopN (V.loopF impl_Hash.E Tryz.f260.ntmps [1, 1, 0, 1, 0] [] (V.codeOf Tryz.f260) (impl_Hash.kt x0)) V.KK (impl_Hash.s6 x0 v6_0 v6_2 v6_3)) := by kernel_rfl
theorem impl_Hash.eq (x0 : List Int) : V.evBody impl_Hash.E impl_Hash.con Tryz.f260 ((x0) : List Int) = impl_Hash x0 := by
  rw [impl_Hash.v]
  simp only [impl_Hash.e6]
  rfl
theorem impl_Hash.ok : V.Valid Tryz.prog 260 impl_Hash.con :=
  V.fo (V.tab_cons impl_Mod.ok V.tab_nil) Tryz.func260 (by kernel_rfl) (fun x y h => (show V.evBody impl_Hash.E impl_Hash.con Tryz.f260 x = _ from impl_Hash.eq x).trans (V.cfl (by kernel_rfl) h))
noncomputable abbrev impl_ZoneOf.con : V.Con := ⟨(.cons (.sl (.cons (.int .i64) .nil)) (.cons (.int .i64) (.cons (.int .i64) .nil))), (.cons (.int .i64) .nil), fun (x : List Int × Int × Int) => impl_ZoneOf (x.1, x.2.1) x.2.2, [], [(true, 2), (false, 1)], [(false, 1)], [false], []⟩
noncomputable abbrev impl_ZoneOf.E : V.Env := V.mkE V.tys [(260, impl_Hash.con), (271, impl_KeysInts.con)] [] [] [] [] []
theorem impl_ZoneOf.eq (x0 : TKeys) (x1 : Int) : V.evBody impl_ZoneOf.E impl_ZoneOf.con Tryz.f227 ((x0.1, x0.2, x1) : List Int × Int × Int) = impl_ZoneOf x0 x1 := by kernel_rfl
theorem impl_ZoneOf.ok : V.Valid Tryz.prog 227 impl_ZoneOf.con :=
  V.fo (V.tab_cons impl_Hash.ok (V.tab_cons impl_KeysInts.ok V.tab_nil)) Tryz.func227 (by kernel_rfl) (fun x y h => (show V.evBody impl_ZoneOf.E impl_ZoneOf.con Tryz.f227 x = _ from impl_ZoneOf.eq (x.1, x.2.1) x.2.2).trans (V.cfl (by kernel_rfl) h))
noncomputable abbrev impl_bit.con : V.Con := ⟨(.cons .bool .nil), (.cons (.int .i64) .nil), fun (x : Bool) => impl_bit x, [], [(false, 1)], [(false, 1)], [false], []⟩
noncomputable abbrev impl_bit.E : V.Env := V.mkE V.tys [] [] [] [] [] []
theorem impl_bit.eq (x0 : Bool) : V.evBody impl_bit.E impl_bit.con Tryz.f272 ((x0) : Bool) = impl_bit x0 := by kernel_rfl
theorem impl_bit.ok : V.Valid Tryz.prog 272 impl_bit.con :=
  V.fo V.tab_nil Tryz.func272 (by kernel_rfl) (fun x y h => (show V.evBody impl_bit.E impl_bit.con Tryz.f272 x = _ from impl_bit.eq x).trans (V.cfl (by kernel_rfl) h))
noncomputable abbrev slices_Grow_int.con : V.Con := ⟨(.cons (.sl (.cons (.int .i64) .nil)) (.cons (.int .i64) .nil)), (.cons (.sl (.cons (.int .i64) .nil)) .nil), fun (x : List Int × Int) => slices_Grow_int x.1 x.2, [], [(false, 1), (false, 1)], [(false, 1)], [true], [0]⟩
noncomputable abbrev slices_Grow_int.E : V.Env := V.mkE V.tys [] [(7, [0, 1], [])] [] [] [] []
noncomputable abbrev slices_Grow_int.kt (x0 : List Int) (x1 : Int) : V.Kt (List Int) := V.ktOf slices_Grow_int.E slices_Grow_int.con Tryz.f303 ((x0, x1) : List Int × Int)
noncomputable abbrev slices_Grow_int.s7 (x1 : Int) : V.St := ⟨[(0, .v false [.nil0]), (1, .v false [.val (.int .i64 x1)])], []⟩
theorem slices_Grow_int.r7 (x0 : List Int) (x1 : Int) : V.joinF slices_Grow_int.E Tryz.f303.ntmps [1] [] (V.codeOf Tryz.f303) (slices_Grow_int.kt x0 x1) (slices_Grow_int.s7 x1) = slices_Grow_int.g7 x1 := by kernel_rfl
theorem slices_Grow_int.e7 (x0 : List Int) (x1 : Int) : V.jn (V.joinF slices_Grow_int.E Tryz.f303.ntmps [1] [] (V.codeOf Tryz.f303) (slices_Grow_int.kt x0 x1)) (slices_Grow_int.s7 x1) = slices_Grow_int.l7 x1 := by
  rw [V.jn_eq, slices_Grow_int.r7]
  rfl
theorem slices_Grow_int.v (x0 : List Int) (x1 : Int) : V.evBody slices_Grow_int.E slices_Grow_int.con Tryz.f303 ((x0, x1) : List Int × Int) = slices_Grow_int.b x0 x1 (V.jn (V.joinF slices_Grow_int.E Tryz.f303.ntmps [1] [] (V.codeOf Tryz.f303) (slices_Grow_int.kt x0 x1)) (slices_Grow_int.s7 x1)) := by kernel_rfl
theorem slices_Grow_int.eq (x0 : List Int) (x1 : Int) : V.evBody slices_Grow_int.E slices_Grow_int.con Tryz.f303 ((x0, x1) : List Int × Int) = slices_Grow_int x0 x1 := by
  rw [slices_Grow_int.v]
  simp only [slices_Grow_int.e7]
  rfl
theorem slices_Grow_int.ok : V.Valid Tryz.prog 303 slices_Grow_int.con :=
  V.fo V.tab_nil Tryz.func303 (by kernel_rfl) (fun x y h => (show V.evBody slices_Grow_int.E slices_Grow_int.con Tryz.f303 x = _ from slices_Grow_int.eq x.1 x.2).trans (V.cfl (by kernel_rfl) h))
noncomputable abbrev slices_Concat_int.con : V.Con := ⟨(.cons (.sl (.cons (.sl (.cons (.int .i64) .nil)) .nil)) .nil), (.cons (.sl (.cons (.int .i64) .nil)) .nil), fun (x : List (List Int)) => slices_Concat_int x, [], [(false, 1)], [(false, 1)], [true], []⟩
noncomputable abbrev slices_Concat_int.E : V.Env := V.mkE V.tys [(303, slices_Grow_int.con)] [(6, [0, 3, 9, 10, 11], []), (22, [6, 25, 26, 27], [])] [] [] [] []
noncomputable abbrev slices_Concat_int.kt (x0 : List (List Int)) : V.Kt (List Int) := V.ktOf slices_Concat_int.E slices_Concat_int.con Tryz.f270 ((x0) : List (List Int))
noncomputable abbrev slices_Concat_int.s22 (x0 : List (List Int)) (v22_1 : Int) (v22_2 : Int) (v22_3 : List Int) : V.St := ⟨[(6, .v false [.ref 64000140800384]), (25, .v false [.val (.sl (.cons (.sl (.cons (.int .i64) .nil)) .nil) x0)]), (26, .v false [.val (.int .i64 v22_1)]), (27, .v false [.val (.int .i64 v22_2)])], [(64000140800384, .row (.cons (.int .i64) .nil) true v22_3)]⟩
noncomputable abbrev slices_Concat_int.s6 (x0 : List (List Int)) (v6_1 : Int) (v6_3 : Int) (v6_4 : Int) : V.St := ⟨[(0, .v false [.val (.sl (.cons (.sl (.cons (.int .i64) .nil)) .nil) x0)]), (3, .v false [.val (.int .i64 v6_1)]), (9, .v false [.val (.sl (.cons (.sl (.cons (.int .i64) .nil)) .nil) x0)]), (10, .v false [.val (.int .i64 v6_3)]), (11, .v false [.val (.int .i64 v6_4)])], []⟩
theorem slices_Concat_int.r22 (x0 : List (List Int)) (R : V.St → Option (List Int)) (v22_1 : Int) (v22_2 : Int) (v22_3 : List Int) : V.loopF slices_Concat_int.E Tryz.f270.ntmps [1, 1, 1, 1, 0, 1, 0] [] (V.codeOf Tryz.f270) (slices_Concat_int.kt x0) R (slices_Concat_int.s22 x0 v22_1 v22_2 v22_3) = slices_Concat_int.g22 x0 (fun v22_1 v22_2 v22_3 => R (slices_Concat_int.s22 x0 v22_1 v22_2 v22_3)) v22_1 v22_2 v22_3 := by kernel_rfl
theorem slices_Concat_int.e22 (x0 : List (List Int)) : ∀ (n : Nat) (v22_1 : Int) (v22_2 : Int) (v22_3 : List Int), V.loopN (V.loopF slices_Concat_int.E Tryz.f270.ntmps [1, 1, 1, 1, 0, 1, 0] [] (V.codeOf Tryz.f270) (slices_Concat_int.kt x0)) n (slices_Concat_int.s22 x0 v22_1 v22_2 v22_3) = slices_Concat_int.l22 x0 n v22_1 v22_2 v22_3 := by
  intro n
  induction n with
  | zero => intros; rw [V.loopN_z]; rfl
  | succ n ih =>
    intro v22_1 v22_2 v22_3
    rw [V.loopN_s, slices_Concat_int.r22]
    simp only [ih]
    first | exact (slices_Concat_int.u22 ..).symm | rfl
theorem slices_Concat_int.r6 (x0 : List (List Int)) (R : V.St → Option (List Int)) (v6_1 : Int) (v6_3 : Int) (v6_4 : Int) : V.loopF slices_Concat_int.E Tryz.f270.ntmps [1, 1, 0, 1, 0] [] (V.codeOf Tryz.f270) (slices_Concat_int.kt x0) R (slices_Concat_int.s6 x0 v6_1 v6_3 v6_4) = slices_Concat_int.g6 x0 (fun v6_1 v6_3 v6_4 => R (slices_Concat_int.s6 x0 v6_1 v6_3 v6_4)) (fun v22_1 v22_2 v22_3 => V.loopN (V.loopF slices_Concat_int.E Tryz.f270.ntmps [1, 1, 1, 1, 0, 1, 0] [] (V.codeOf Tryz.f270) (slices_Concat_int.kt x0)) V.KK (slices_Concat_int.s22 x0 v22_1 v22_2 v22_3)) v6_1 v6_3 v6_4 := by kernel_rfl
theorem slices_Concat_int.e6 (x0 : List (List Int)) : ∀ (n : Nat) (v6_1 : Int) (v6_3 : Int) (v6_4 : Int), V.loopN (V.loopF slices_Concat_int.E Tryz.f270.ntmps [1, 1, 0, 1, 0] [] (V.codeOf Tryz.f270) (slices_Concat_int.kt x0)) n (slices_Concat_int.s6 x0 v6_1 v6_3 v6_4) = slices_Concat_int.l6 x0 n v6_1 v6_3 v6_4 := by
  intro n
  induction n with
  | zero => intros; rw [V.loopN_z]; rfl
  | succ n ih =>
    intro v6_1 v6_3 v6_4
    rw [V.loopN_s, slices_Concat_int.r6]
    simp only [slices_Concat_int.e22, ih]
    first | exact (slices_Concat_int.u6 ..).symm | rfl
theorem slices_Concat_int.v (x0 : List (List Int)) : V.evBody slices_Concat_int.E slices_Concat_int.con Tryz.f270 ((x0) : List (List Int)) = slices_Concat_int.b x0 (fun v6_1 v6_3 v6_4 => V.loopN (V.loopF slices_Concat_int.E Tryz.f270.ntmps [1, 1, 0, 1, 0] [] (V.codeOf Tryz.f270) (slices_Concat_int.kt x0)) V.KK (slices_Concat_int.s6 x0 v6_1 v6_3 v6_4)) := by kernel_rfl
theorem slices_Concat_int.eq (x0 : List (List Int)) : V.evBody slices_Concat_int.E slices_Concat_int.con Tryz.f270 ((x0) : List (List Int)) = slices_Concat_int x0 := by
  rw [slices_Concat_int.v]
  simp only [slices_Concat_int.e6]
  rfl
theorem slices_Concat_int.ok : V.Valid Tryz.prog 270 slices_Concat_int.con :=
  V.fo (V.tab_cons slices_Grow_int.ok V.tab_nil) Tryz.func270 (by kernel_rfl) (fun x y h => (show V.evBody slices_Concat_int.E slices_Concat_int.con Tryz.f270 x = _ from slices_Concat_int.eq x).trans (V.cfl (by kernel_rfl) h))
noncomputable abbrev impl_HeadInts.con : V.Con := ⟨V.A4, (.cons (.sl (.cons (.int .i64) .nil)) .nil), fun (x : V.D4) => impl_HeadInts (V.p4_0 x), [], [(true, 16)], [(false, 1)], [true], []⟩
noncomputable abbrev impl_HeadInts.E : V.Env := V.mkE V.tys [(270, slices_Concat_int.con), (271, impl_KeysInts.con), (272, impl_bit.con)] [] [(1, 33)] [] [] []
noncomputable abbrev impl_HeadInts.kt (x0 : THead) : V.Kt (List Int) := V.ktOf impl_HeadInts.E impl_HeadInts.con Tryz.f210 (V.fl4 x0)
noncomputable abbrev impl_HeadInts.s (x0 : THead) : V.St := ⟨[(0, .v true [.val (.int .i64 x0.1), .val (.int .i64 x0.2.1), .val (.int .i64 x0.2.2.1), .val (.int .i64 x0.2.2.2.1), .val (.int .i64 x0.2.2.2.2.1), .val (.int .i64 x0.2.2.2.2.2.1), .val (.int .i64 x0.2.2.2.2.2.2.1), .val (.int .i64 x0.2.2.2.2.2.2.2.1), .val (.sl (.cons (.int .i64) .nil) x0.2.2.2.2.2.2.2.2.1), .val (.int .i64 x0.2.2.2.2.2.2.2.2.2.1), .val (.sl (.cons (.int .i64) .nil) x0.2.2.2.2.2.2.2.2.2.2.1), .val (.int .i64 x0.2.2.2.2.2.2.2.2.2.2.2.1), .val (.int .i64 x0.2.2.2.2.2.2.2.2.2.2.2.2.1), .val (.sl (.cons (.int .i64) .nil) x0.2.2.2.2.2.2.2.2.2.2.2.2.2.1), .val (.int .i64 x0.2.2.2.2.2.2.2.2.2.2.2.2.2.2.1), .val (.bool x0.2.2.2.2.2.2.2.2.2.2.2.2.2.2.2)])], []⟩
theorem impl_HeadInts.v0 (x0 : THead) : V.evBody impl_HeadInts.E impl_HeadInts.con Tryz.f210 (V.fl4 x0) = V.evC impl_HeadInts.E Tryz.f210.ntmps (V.codeOf Tryz.f210) (impl_HeadInts.kt x0) (impl_HeadInts.s x0) := by kernel_rfl
theorem impl_HeadInts.v (x0 : THead) : V.evC impl_HeadInts.E Tryz.f210.ntmps (V.codeOf Tryz.f210) (impl_HeadInts.kt x0) (impl_HeadInts.s x0) = impl_HeadInts x0 := by kernel_rfl
theorem impl_HeadInts.eq (x0 : THead) : V.evBody impl_HeadInts.E impl_HeadInts.con Tryz.f210 (V.fl4 x0) = impl_HeadInts x0 := (impl_HeadInts.v0 x0).trans (impl_HeadInts.v x0)
theorem impl_HeadInts.ok : V.Valid Tryz.prog 210 impl_HeadInts.con :=
  V.fo (V.tab_cons slices_Concat_int.ok (V.tab_cons impl_KeysInts.ok (V.tab_cons impl_bit.ok V.tab_nil))) Tryz.func210 (by kernel_rfl) (fun x y h => (show V.evBody impl_HeadInts.E impl_HeadInts.con Tryz.f210 x = _ from impl_HeadInts.eq (V.p4_0 x)).trans (V.cfl (by kernel_rfl) h))
noncomputable abbrev impl_KeyedHash.con : V.Con := ⟨(.cons (.int .i64) (.cons (.sl (.cons (.int .i64) .nil)) .nil)), (.cons (.int .i64) .nil), fun (x : Int × List Int) => impl_KeyedHash x.1 x.2, [], [(false, 1), (false, 1)], [(false, 1)], [false], []⟩
noncomputable abbrev impl_KeyedHash.E : V.Env := V.mkE V.tys [(260, impl_Hash.con), (270, slices_Concat_int.con)] [] [] [128320] [] []
theorem impl_KeyedHash.eq (x0 : Int) (x1 : List Int) : V.evBody impl_KeyedHash.E impl_KeyedHash.con Tryz.f222 ((x0, x1) : Int × List Int) = impl_KeyedHash x0 x1 := by kernel_rfl
theorem impl_KeyedHash.ok : V.Valid Tryz.prog 222 impl_KeyedHash.con :=
  V.fo (V.tab_cons impl_Hash.ok (V.tab_cons slices_Concat_int.ok V.tab_nil)) Tryz.func222 (by kernel_rfl) (fun x y h => (show V.evBody impl_KeyedHash.E impl_KeyedHash.con Tryz.f222 x = _ from impl_KeyedHash.eq x.1 x.2).trans (V.cfl (by kernel_rfl) h))
noncomputable abbrev impl_TagOf.con : V.Con := ⟨(.cons (.int .i64) (.cons (.sl (.cons (.int .i64) .nil)) .nil)), (.cons (.int .i64) .nil), fun (x : Int × List Int) => impl_TagOf x.1 x.2, [], [(false, 1), (false, 1)], [(false, 1)], [false], []⟩
noncomputable abbrev impl_TagOf.E : V.Env := V.mkE V.tys [(222, impl_KeyedHash.con)] [] [] [] [] []
theorem impl_TagOf.eq (x0 : Int) (x1 : List Int) : V.evBody impl_TagOf.E impl_TagOf.con Tryz.f128 ((x0, x1) : Int × List Int) = impl_TagOf x0 x1 := by kernel_rfl
theorem impl_TagOf.ok : V.Valid Tryz.prog 128 impl_TagOf.con :=
  V.fo (V.tab_cons impl_KeyedHash.ok V.tab_nil) Tryz.func128 (by kernel_rfl) (fun x y h => (show V.evBody impl_TagOf.E impl_TagOf.con Tryz.f128 x = _ from impl_TagOf.eq x.1 x.2).trans (V.cfl (by kernel_rfl) h))
noncomputable abbrev impl_IsSigBy.con : V.Con := ⟨(.cons (.int .i64) (.cons (.int .i64) (.cons (.sl (.cons (.int .i64) .nil)) .nil))), (.cons .bool .nil), fun (x : Int × Int × List Int) => impl_IsSigBy (x.1, x.2.1) x.2.2, [], [(true, 2), (false, 1)], [(false, 1)], [false], []⟩
noncomputable abbrev impl_IsSigBy.E : V.Env := V.mkE V.tys [(128, impl_TagOf.con), (218, impl_isKey.con)] [] [(1, 10)] [] [] []
theorem impl_IsSigBy.eq (x0 : TSig) (x1 : List Int) : V.evBody impl_IsSigBy.E impl_IsSigBy.con Tryz.f322 ((x0.1, x0.2, x1) : Int × Int × List Int) = impl_IsSigBy x0 x1 := by kernel_rfl
theorem impl_IsSigBy.ok : V.Valid Tryz.prog 322 impl_IsSigBy.con :=
  V.fo (V.tab_cons impl_TagOf.ok (V.tab_cons impl_isKey.ok V.tab_nil)) Tryz.func322 (by kernel_rfl) (fun x y h => (show V.evBody impl_IsSigBy.E impl_IsSigBy.con Tryz.f322 x = _ from impl_IsSigBy.eq (x.1, x.2.1) x.2.2).trans (V.cfl (by kernel_rfl) h))
noncomputable abbrev impl_CountSigs_1.con : V.Con := ⟨(.cons (.int .i64) (.cons (.int .i64) (.cons (.ptr (.cons (.int .i64) .nil)) (.cons (.ptr (.cons (.sl (.cons (.int .i64) .nil)) .nil)) .nil)))), (.cons .bool .nil), fun (x : Int × Int × Int × List Int) => impl_CountSigs_1 (x.1, x.2.1) x.2.2.1 x.2.2.2, [], [(true, 2), (false, 1), (false, 1)], [(false, 1)], [false], []⟩
noncomputable abbrev impl_CountSigs_1.E : V.Env := V.mkE V.tys [(322, impl_IsSigBy.con)] [] [] [] [] []
theorem impl_CountSigs_1.eq (x0 : TSig) (x1 : Int) (x2 : List Int) : V.evBody impl_CountSigs_1.E impl_CountSigs_1.con Tryz.f321 ((x0.1, x0.2, x1, x2) : Int × Int × Int × List Int) = impl_CountSigs_1 x0 x1 x2 := by kernel_rfl
theorem impl_CountSigs_1.ok : V.Valid Tryz.prog 321 impl_CountSigs_1.con :=
  V.fo (V.tab_cons impl_IsSigBy.ok V.tab_nil) Tryz.func321 (by kernel_rfl) (fun x y h => (show V.evBody impl_CountSigs_1.E impl_CountSigs_1.con Tryz.f321 x = _ from impl_CountSigs_1.eq (x.1, x.2.1) x.2.2.1 x.2.2.2).trans (V.cfl (by kernel_rfl) h))
noncomputable abbrev slices_IndexFunc_impl_Sig__CountSigs_1.con : V.Con := ⟨(.cons (.sl (.cons (.int .i64) (.cons (.int .i64) .nil))) (.cons (.fn 321 false .nil (.cons (.ptr (.cons (.int .i64) .nil)) (.cons (.ptr (.cons (.sl (.cons (.int .i64) .nil)) .nil)) .nil))) .nil)), (.cons (.int .i64) .nil), fun (x : List TSig × (Unit) × (Int × List Int)) => slices_IndexFunc_impl_Sig__CountSigs_1 x.1 x.2, [], [(false, 1), (false, 1)], [(false, 1)], [false], []⟩
noncomputable abbrev slices_IndexFunc_impl_Sig__CountSigs_1.E : V.Env := V.mkE V.tys [(321, impl_CountSigs_1.con)] [(4, [0, 1, 7, 8], [])] [] [] [] []
noncomputable abbrev slices_IndexFunc_impl_Sig__CountSigs_1.kt (x0 : List TSig) (x1 : (Unit) × (Int × List Int)) : V.Kt Int := V.ktOf slices_IndexFunc_impl_Sig__CountSigs_1.E slices_IndexFunc_impl_Sig__CountSigs_1.con Tryz.f323 ((x0, x1) : List TSig × (Unit) × (Int × List Int))
noncomputable abbrev slices_IndexFunc_impl_Sig__CountSigs_1.s4 (x0 : List TSig) (x1 : (Unit) × (Int × List Int)) (v4_2 : Int) (v4_3 : Int) : V.St := ⟨[(0, .v false [.val (.sl (.cons (.int .i64) (.cons (.int .i64) .nil)) x0)]), (1, .v false [.val (.fn 321 false .nil (.cons (.ptr (.cons (.int .i64) .nil)) (.cons (.ptr (.cons (.sl (.cons (.int .i64) .nil)) .nil)) .nil)) () x1.2)]), (7, .v false [.val (.int .i64 v4_2)]), (8, .v false [.val (.int .i64 v4_3)])], []⟩
theorem slices_IndexFunc_impl_Sig__CountSigs_1.r4 (x0 : List TSig) (x1 : (Unit) × (Int × List Int)) (R : V.St → Option Int) (v4_2 : Int) (v4_3 : Int) : V.loopF slices_IndexFunc_impl_Sig__CountSigs_1.E Tryz.f323.ntmps [1, 0, 1, 0] [] (V.codeOf Tryz.f323) (slices_IndexFunc_impl_Sig__CountSigs_1.kt x0 x1) R (slices_IndexFunc_impl_Sig__CountSigs_1.s4 x0 x1 v4_2 v4_3) = slices_IndexFunc_impl_Sig__CountSigs_1.g4 x0 x1 (fun v4_2 v4_3 => R (slices_IndexFunc_impl_Sig__CountSigs_1.s4 x0 x1 v4_2 v4_3)) v4_2 v4_3 := by kernel_rfl
theorem slices_IndexFunc_impl_Sig__CountSigs_1.e4 (x0 : List TSig) (x1 : (Unit) × (Int × List Int)) : ∀ (n : Nat) (v4_2 : Int) (v4_3 : Int), V.loopN (V.loopF slices_IndexFunc_impl_Sig__CountSigs_1.E Tryz.f323.ntmps [1, 0, 1, 0] [] (V.codeOf Tryz.f323) (slices_IndexFunc_impl_Sig__CountSigs_1.kt x0 x1)) n (slices_IndexFunc_impl_Sig__CountSigs_1.s4 x0 x1 v4_2 v4_3) = slices_IndexFunc_impl_Sig__CountSigs_1.l4 x0 x1 n v4_2 v4_3 := by
  intro n
  induction n with
  | zero => intros; rw [V.loopN_z]; rfl
  | succ n ih =>
    intro v4_2 v4_3
    rw [V.loopN_s, slices_IndexFunc_impl_Sig__CountSigs_1.r4]
    simp only [ih]
    first | exact (slices_IndexFunc_impl_Sig__CountSigs_1.u4 ..).symm | rfl
theorem slices_IndexFunc_impl_Sig__CountSigs_1.v (x0 : List TSig) (x1 : (Unit) × (Int × List Int)) : V.evBody slices_IndexFunc_impl_Sig__CountSigs_1.E slices_IndexFunc_impl_Sig__CountSigs_1.con Tryz.f323 ((x0, x1) : List TSig × (Unit) × (Int × List Int)) = slices_IndexFunc_impl_Sig__CountSigs_1.b x0 x1 (fun v4_2 v4_3 => V.loopN (V.loopF slices_IndexFunc_impl_Sig__CountSigs_1.E Tryz.f323.ntmps [1, 0, 1, 0] [] (V.codeOf Tryz.f323) (slices_IndexFunc_impl_Sig__CountSigs_1.kt x0 x1)) V.KK (slices_IndexFunc_impl_Sig__CountSigs_1.s4 x0 x1 v4_2 v4_3)) := by kernel_rfl
theorem slices_IndexFunc_impl_Sig__CountSigs_1.eq (x0 : List TSig) (x1 : (Unit) × (Int × List Int)) : V.evBody slices_IndexFunc_impl_Sig__CountSigs_1.E slices_IndexFunc_impl_Sig__CountSigs_1.con Tryz.f323 ((x0, x1) : List TSig × (Unit) × (Int × List Int)) = slices_IndexFunc_impl_Sig__CountSigs_1 x0 x1 := by
  rw [slices_IndexFunc_impl_Sig__CountSigs_1.v]
  simp only [slices_IndexFunc_impl_Sig__CountSigs_1.e4]
  rfl
theorem slices_IndexFunc_impl_Sig__CountSigs_1.ok : V.Valid Tryz.prog 323 slices_IndexFunc_impl_Sig__CountSigs_1.con :=
  V.fo (V.tab_cons impl_CountSigs_1.ok V.tab_nil) Tryz.func323 (by kernel_rfl) (fun x y h => (show V.evBody slices_IndexFunc_impl_Sig__CountSigs_1.E slices_IndexFunc_impl_Sig__CountSigs_1.con Tryz.f323 x = _ from slices_IndexFunc_impl_Sig__CountSigs_1.eq x.1 x.2).trans (V.cfl (by kernel_rfl) h))
noncomputable abbrev slices_ContainsFunc_impl_Sig__CountSigs_1.con : V.Con := ⟨(.cons (.sl (.cons (.int .i64) (.cons (.int .i64) .nil))) (.cons (.fn 321 false .nil (.cons (.ptr (.cons (.int .i64) .nil)) (.cons (.ptr (.cons (.sl (.cons (.int .i64) .nil)) .nil)) .nil))) .nil)), (.cons .bool .nil), fun (x : List TSig × (Unit) × (Int × List Int)) => slices_ContainsFunc_impl_Sig__CountSigs_1 x.1 x.2, [], [(false, 1), (false, 1)], [(false, 1)], [false], []⟩
noncomputable abbrev slices_ContainsFunc_impl_Sig__CountSigs_1.E : V.Env := V.mkE V.tys [(323, slices_IndexFunc_impl_Sig__CountSigs_1.con)] [] [] [] [] []
theorem slices_ContainsFunc_impl_Sig__CountSigs_1.eq (x0 : List TSig) (x1 : (Unit) × (Int × List Int)) : V.evBody slices_ContainsFunc_impl_Sig__CountSigs_1.E slices_ContainsFunc_impl_Sig__CountSigs_1.con Tryz.f320 ((x0, x1) : List TSig × (Unit) × (Int × List Int)) = slices_ContainsFunc_impl_Sig__CountSigs_1 x0 x1 := by kernel_rfl
theorem slices_ContainsFunc_impl_Sig__CountSigs_1.ok : V.Valid Tryz.prog 320 slices_ContainsFunc_impl_Sig__CountSigs_1.con :=
  V.fo (V.tab_cons slices_IndexFunc_impl_Sig__CountSigs_1.ok V.tab_nil) Tryz.func320 (by kernel_rfl) (fun x y h => (show V.evBody slices_ContainsFunc_impl_Sig__CountSigs_1.E slices_ContainsFunc_impl_Sig__CountSigs_1.con Tryz.f320 x = _ from slices_ContainsFunc_impl_Sig__CountSigs_1.eq x.1 x.2).trans (V.cfl (by kernel_rfl) h))
noncomputable abbrev impl_CountSigs.con : V.Con := ⟨(.cons (.sl (.cons (.int .i64) .nil)) (.cons (.int .i64) (.cons (.sl (.cons (.int .i64) .nil)) (.cons (.sl (.cons (.int .i64) (.cons (.int .i64) .nil))) .nil)))), (.cons (.int .i64) .nil), fun (x : List Int × Int × List Int × List TSig) => impl_CountSigs (x.1, x.2.1) x.2.2.1 x.2.2.2, [], [(true, 2), (false, 1), (false, 1)], [(false, 1)], [false], []⟩
noncomputable abbrev impl_CountSigs.E : V.Env := V.mkE V.tys [(320, slices_ContainsFunc_impl_Sig__CountSigs_1.con)] [(6, [2, 4, 7, 11, 12, 13], [])] [] [] [] []
noncomputable abbrev impl_CountSigs.kt (x0 : TKeys) (x1 : List Int) (x2 : List TSig) : V.Kt Int := V.ktOf impl_CountSigs.E impl_CountSigs.con Tryz.f319 ((x0.1, x0.2, x1, x2) : List Int × Int × List Int × List TSig)
noncomputable abbrev impl_CountSigs.s6 (x0 : TKeys) (x1 : List Int) (x2 : List TSig) (v6_1 : Int) (v6_3 : Int) (v6_4 : Int) : V.St := ⟨[(2, .v false [.val (.sl (.cons (.int .i64) (.cons (.int .i64) .nil)) x2)]), (4, .v false [.ptr 64064 0]), (7, .v false [.val (.int .i64 v6_1)]), (11, .v false [.val (.sl (.cons (.int .i64) .nil) x0.1)]), (12, .v false [.val (.int .i64 v6_3)]), (13, .v false [.val (.int .i64 v6_4)])], [(64064, .box [.val (.sl (.cons (.int .i64) .nil) x1)])]⟩
theorem impl_CountSigs.r6 (x0 : TKeys) (x1 : List Int) (x2 : List TSig) (R : V.St → Option Int) (v6_1 : Int) (v6_3 : Int) (v6_4 : Int) : V.loopF impl_CountSigs.E Tryz.f319.ntmps [1, 1, 0, 1, 0] [] (V.codeOf Tryz.f319) (impl_CountSigs.kt x0 x1 x2) R (impl_CountSigs.s6 x0 x1 x2 v6_1 v6_3 v6_4) = impl_CountSigs.g6 x0 x1 x2 (fun v6_1 v6_3 v6_4 => R (impl_CountSigs.s6 x0 x1 x2 v6_1 v6_3 v6_4)) v6_1 v6_3 v6_4 := by kernel_rfl
theorem impl_CountSigs.e6 (x0 : TKeys) (x1 : List Int) (x2 : List TSig) : ∀ (n : Nat) (v6_1 : Int) (v6_3 : Int) (v6_4 : Int), V.loopN (V.loopF impl_CountSigs.E Tryz.f319.ntmps [1, 1, 0, 1, 0] [] (V.codeOf Tryz.f319) (impl_CountSigs.kt x0 x1 x2)) n (impl_CountSigs.s6 x0 x1 x2 v6_1 v6_3 v6_4) = impl_CountSigs.l6 x0 x1 x2 n v6_1 v6_3 v6_4 := by
  intro n
  induction n with
  | zero => intros; rw [V.loopN_z]; rfl
  | succ n ih =>
    intro v6_1 v6_3 v6_4
    rw [V.loopN_s, impl_CountSigs.r6]
    simp only [ih]
    first | exact (impl_CountSigs.u6 ..).symm | rfl
theorem impl_CountSigs.v (x0 : TKeys) (x1 : List Int) (x2 : List TSig) : V.evBody impl_CountSigs.E impl_CountSigs.con Tryz.f319 ((x0.1, x0.2, x1, x2) : List Int × Int × List Int × List TSig) = impl_CountSigs.b x0 x1 x2 (fun v6_1 v6_3 v6_4 => V.loopN (V.loopF impl_CountSigs.E Tryz.f319.ntmps [1, 1, 0, 1, 0] [] (V.codeOf Tryz.f319) (impl_CountSigs.kt x0 x1 x2)) V.KK (impl_CountSigs.s6 x0 x1 x2 v6_1 v6_3 v6_4)) := by kernel_rfl
theorem impl_CountSigs.eq (x0 : TKeys) (x1 : List Int) (x2 : List TSig) : V.evBody impl_CountSigs.E impl_CountSigs.con Tryz.f319 ((x0.1, x0.2, x1, x2) : List Int × Int × List Int × List TSig) = impl_CountSigs x0 x1 x2 := by
  rw [impl_CountSigs.v]
  simp only [impl_CountSigs.e6]
  rfl
theorem impl_CountSigs.ok : V.Valid Tryz.prog 319 impl_CountSigs.con :=
  V.fo (V.tab_cons slices_ContainsFunc_impl_Sig__CountSigs_1.ok V.tab_nil) Tryz.func319 (by kernel_rfl) (fun x y h => (show V.evBody impl_CountSigs.E impl_CountSigs.con Tryz.f319 x = _ from impl_CountSigs.eq (x.1, x.2.1) x.2.2.1 x.2.2.2).trans (V.cfl (by kernel_rfl) h))
noncomputable abbrev impl_IsSigned.con : V.Con := ⟨(.cons (.sl (.cons (.int .i64) .nil)) (.cons (.int .i64) (.cons (.sl (.cons (.int .i64) .nil)) (.cons (.sl (.cons (.int .i64) (.cons (.int .i64) .nil))) .nil)))), (.cons .bool .nil), fun (x : List Int × Int × List Int × List TSig) => impl_IsSigned (x.1, x.2.1) x.2.2.1 x.2.2.2, [], [(true, 2), (false, 1), (false, 1)], [(false, 1)], [false], []⟩
noncomputable abbrev impl_IsSigned.E : V.Env := V.mkE V.tys [(256, impl_IsKeys.con), (319, impl_CountSigs.con)] [] [(1, 9)] [] [] []
theorem impl_IsSigned.eq (x0 : TKeys) (x1 : List Int) (x2 : List TSig) : V.evBody impl_IsSigned.E impl_IsSigned.con Tryz.f315 ((x0.1, x0.2, x1, x2) : List Int × Int × List Int × List TSig) = impl_IsSigned x0 x1 x2 := by kernel_rfl
theorem impl_IsSigned.ok : V.Valid Tryz.prog 315 impl_IsSigned.con :=
  V.fo (V.tab_cons impl_IsKeys.ok (V.tab_cons impl_CountSigs.ok V.tab_nil)) Tryz.func315 (by kernel_rfl) (fun x y h => (show V.evBody impl_IsSigned.E impl_IsSigned.con Tryz.f315 x = _ from impl_IsSigned.eq (x.1, x.2.1) x.2.2.1 x.2.2.2).trans (V.cfl (by kernel_rfl) h))
noncomputable abbrev impl_Signed_isSignedBy.con : V.Con := ⟨V.A14, (.cons .bool .nil), fun (x : V.D14) => impl_Signed_isSignedBy (V.p14_0 x) (V.p14_1 x), [], [(true, 17), (true, 2)], [(false, 1)], [false], []⟩
noncomputable abbrev impl_Signed_isSignedBy.E : V.Env := V.mkE V.tys [(210, impl_HeadInts.con), (315, impl_IsSigned.con)] [] [(1, 6)] [] [] []
noncomputable abbrev impl_Signed_isSignedBy.kt (x0 : TSigned) (x1 : TKeys) : V.Kt Bool := V.ktOf impl_Signed_isSignedBy.E impl_Signed_isSignedBy.con Tryz.f302 (V.fl14 x0 x1)
noncomputable abbrev impl_Signed_isSignedBy.s (x0 : TSigned) (x1 : TKeys) : V.St := ⟨[(0, .v true [.val (.int .i64 x0.1), .val (.int .i64 x0.2.1), .val (.int .i64 x0.2.2.1), .val (.int .i64 x0.2.2.2.1), .val (.int .i64 x0.2.2.2.2.1), .val (.int .i64 x0.2.2.2.2.2.1), .val (.int .i64 x0.2.2.2.2.2.2.1), .val (.int .i64 x0.2.2.2.2.2.2.2.1), .val (.sl (.cons (.int .i64) .nil) x0.2.2.2.2.2.2.2.2.1), .val (.int .i64 x0.2.2.2.2.2.2.2.2.2.1), .val (.sl (.cons (.int .i64) .nil) x0.2.2.2.2.2.2.2.2.2.2.1), .val (.int .i64 x0.2.2.2.2.2.2.2.2.2.2.2.1), .val (.int .i64 x0.2.2.2.2.2.2.2.2.2.2.2.2.1), .val (.sl (.cons (.int .i64) .nil) x0.2.2.2.2.2.2.2.2.2.2.2.2.2.1), .val (.int .i64 x0.2.2.2.2.2.2.2.2.2.2.2.2.2.2.1), .val (.bool x0.2.2.2.2.2.2.2.2.2.2.2.2.2.2.2.1), .val (.sl (.cons (.int .i64) (.cons (.int .i64) .nil)) x0.2.2.2.2.2.2.2.2.2.2.2.2.2.2.2.2)]), (1, .v true [.val (.sl (.cons (.int .i64) .nil) x1.1), .val (.int .i64 x1.2)])], []⟩
theorem impl_Signed_isSignedBy.v0 (x0 : TSigned) (x1 : TKeys) : V.evBody impl_Signed_isSignedBy.E impl_Signed_isSignedBy.con Tryz.f302 (V.fl14 x0 x1) = V.evC impl_Signed_isSignedBy.E Tryz.f302.ntmps (V.codeOf Tryz.f302) (impl_Signed_isSignedBy.kt x0 x1) (impl_Signed_isSignedBy.s x0 x1) := by kernel_rfl
theorem impl_Signed_isSignedBy.v (x0 : TSigned) (x1 : TKeys) : V.evC impl_Signed_isSignedBy.E Tryz.f302.ntmps (V.codeOf Tryz.f302) (impl_Signed_isSignedBy.kt x0 x1) (impl_Signed_isSignedBy.s x0 x1) = impl_Signed_isSignedBy x0 x1 := by kernel_rfl
theorem impl_Signed_isSignedBy.eq (x0 : TSigned) (x1 : TKeys) : V.evBody impl_Signed_isSignedBy.E impl_Signed_isSignedBy.con Tryz.f302 (V.fl14 x0 x1) = impl_Signed_isSignedBy x0 x1 := (impl_Signed_isSignedBy.v0 x0 x1).trans (impl_Signed_isSignedBy.v x0 x1)
theorem impl_Signed_isSignedBy.ok : V.Valid Tryz.prog 302 impl_Signed_isSignedBy.con :=
  V.fo (V.tab_cons impl_HeadInts.ok (V.tab_cons impl_IsSigned.ok V.tab_nil)) Tryz.func302 (by kernel_rfl) (fun x y h => (show V.evBody impl_Signed_isSignedBy.E impl_Signed_isSignedBy.con Tryz.f302 x = _ from impl_Signed_isSignedBy.eq (V.p14_0 x) (V.p14_1 x)).trans (V.cfl (by kernel_rfl) h))
noncomputable abbrev impl_IsFirst.con : V.Con := ⟨V.A5, (.cons .bool .nil), fun (x : V.D5) => impl_IsFirst (V.p5_0 x), [], [(true, 17)], [(false, 1)], [false], []⟩
noncomputable abbrev impl_IsFirst.E : V.Env := V.mkE V.tys [(194, impl_IsHead.con), (227, impl_ZoneOf.con), (302, impl_Signed_isSignedBy.con)] [] [(2, 31)] [] [] []
noncomputable abbrev impl_IsFirst.kt (x0 : TSigned) : V.Kt Bool := V.ktOf impl_IsFirst.E impl_IsFirst.con Tryz.f268 (V.fl5 x0)
noncomputable abbrev impl_IsFirst.s (x0 : TSigned) : V.St := ⟨[(0, .v true [.val (.int .i64 x0.1), .val (.int .i64 x0.2.1), .val (.int .i64 x0.2.2.1), .val (.int .i64 x0.2.2.2.1), .val (.int .i64 x0.2.2.2.2.1), .val (.int .i64 x0.2.2.2.2.2.1), .val (.int .i64 x0.2.2.2.2.2.2.1), .val (.int .i64 x0.2.2.2.2.2.2.2.1), .val (.sl (.cons (.int .i64) .nil) x0.2.2.2.2.2.2.2.2.1), .val (.int .i64 x0.2.2.2.2.2.2.2.2.2.1), .val (.sl (.cons (.int .i64) .nil) x0.2.2.2.2.2.2.2.2.2.2.1), .val (.int .i64 x0.2.2.2.2.2.2.2.2.2.2.2.1), .val (.int .i64 x0.2.2.2.2.2.2.2.2.2.2.2.2.1), .val (.sl (.cons (.int .i64) .nil) x0.2.2.2.2.2.2.2.2.2.2.2.2.2.1), .val (.int .i64 x0.2.2.2.2.2.2.2.2.2.2.2.2.2.2.1), .val (.bool x0.2.2.2.2.2.2.2.2.2.2.2.2.2.2.2.1), .val (.sl (.cons (.int .i64) (.cons (.int .i64) .nil)) x0.2.2.2.2.2.2.2.2.2.2.2.2.2.2.2.2)])], []⟩
theorem impl_IsFirst.v0 (x0 : TSigned) : V.evBody impl_IsFirst.E impl_IsFirst.con Tryz.f268 (V.fl5 x0) = V.evC impl_IsFirst.E Tryz.f268.ntmps (V.codeOf Tryz.f268) (impl_IsFirst.kt x0) (impl_IsFirst.s x0) := by kernel_rfl
theorem impl_IsFirst.v (x0 : TSigned) : V.evC impl_IsFirst.E Tryz.f268.ntmps (V.codeOf Tryz.f268) (impl_IsFirst.kt x0) (impl_IsFirst.s x0) = impl_IsFirst x0 := by kernel_rfl
theorem impl_IsFirst.eq (x0 : TSigned) : V.evBody impl_IsFirst.E impl_IsFirst.con Tryz.f268 (V.fl5 x0) = impl_IsFirst x0 := (impl_IsFirst.v0 x0).trans (impl_IsFirst.v x0)
theorem impl_IsFirst.ok : V.Valid Tryz.prog 268 impl_IsFirst.con :=
  V.fo (V.tab_cons impl_IsHead.ok (V.tab_cons impl_ZoneOf.ok (V.tab_cons impl_Signed_isSignedBy.ok V.tab_nil))) Tryz.func268 (by kernel_rfl) (fun x y h => (show V.evBody impl_IsFirst.E impl_IsFirst.con Tryz.f268 x = _ from impl_IsFirst.eq (V.p5_0 x)).trans (V.cfl (by kernel_rfl) h))
noncomputable abbrev impl_HeadDigest.con : V.Con := ⟨V.A4, (.cons (.int .i64) .nil), fun (x : V.D4) => impl_HeadDigest (V.p4_0 x), [], [(true, 16)], [(false, 1)], [false], []⟩
noncomputable abbrev impl_HeadDigest.E : V.Env := V.mkE V.tys [(210, impl_HeadInts.con), (260, impl_Hash.con)] [] [] [] [] []
noncomputable abbrev impl_HeadDigest.kt (x0 : THead) : V.Kt Int := V.ktOf impl_HeadDigest.E impl_HeadDigest.con Tryz.f197 (V.fl4 x0)
noncomputable abbrev impl_HeadDigest.s (x0 : THead) : V.St := ⟨[(0, .v true [.val (.int .i64 x0.1), .val (.int .i64 x0.2.1), .val (.int .i64 x0.2.2.1), .val (.int .i64 x0.2.2.2.1), .val (.int .i64 x0.2.2.2.2.1), .val (.int .i64 x0.2.2.2.2.2.1), .val (.int .i64 x0.2.2.2.2.2.2.1), .val (.int .i64 x0.2.2.2.2.2.2.2.1), .val (.sl (.cons (.int .i64) .nil) x0.2.2.2.2.2.2.2.2.1), .val (.int .i64 x0.2.2.2.2.2.2.2.2.2.1), .val (.sl (.cons (.int .i64) .nil) x0.2.2.2.2.2.2.2.2.2.2.1), .val (.int .i64 x0.2.2.2.2.2.2.2.2.2.2.2.1), .val (.int .i64 x0.2.2.2.2.2.2.2.2.2.2.2.2.1), .val (.sl (.cons (.int .i64) .nil) x0.2.2.2.2.2.2.2.2.2.2.2.2.2.1), .val (.int .i64 x0.2.2.2.2.2.2.2.2.2.2.2.2.2.2.1), .val (.bool x0.2.2.2.2.2.2.2.2.2.2.2.2.2.2.2)])], []⟩
theorem impl_HeadDigest.v0 (x0 : THead) : V.evBody impl_HeadDigest.E impl_HeadDigest.con Tryz.f197 (V.fl4 x0) = V.evC impl_HeadDigest.E Tryz.f197.ntmps (V.codeOf Tryz.f197) (impl_HeadDigest.kt x0) (impl_HeadDigest.s x0) := by kernel_rfl
theorem impl_HeadDigest.v (x0 : THead) : V.evC impl_HeadDigest.E Tryz.f197.ntmps (V.codeOf Tryz.f197) (impl_HeadDigest.kt x0) (impl_HeadDigest.s x0) = impl_HeadDigest x0 := by kernel_rfl
theorem impl_HeadDigest.eq (x0 : THead) : V.evBody impl_HeadDigest.E impl_HeadDigest.con Tryz.f197 (V.fl4 x0) = impl_HeadDigest x0 := (impl_HeadDigest.v0 x0).trans (impl_HeadDigest.v x0)
theorem impl_HeadDigest.ok : V.Valid Tryz.prog 197 impl_HeadDigest.con :=
  V.fo (V.tab_cons impl_HeadInts.ok (V.tab_cons impl_Hash.ok V.tab_nil)) Tryz.func197 (by kernel_rfl) (fun x y h => (show V.evBody impl_HeadDigest.E impl_HeadDigest.con Tryz.f197 x = _ from impl_HeadDigest.eq (V.p4_0 x)).trans (V.cfl (by kernel_rfl) h))
noncomputable abbrev impl_isNext.con : V.Con := ⟨V.A8, (.cons .bool .nil), fun (x : V.D8) => impl_isNext (V.p8_0 x) (V.p8_1 x), [], [(true, 16), (true, 16)], [(false, 1)], [false], []⟩
noncomputable abbrev impl_isNext.E : V.Env := V.mkE V.tys [(197, impl_HeadDigest.con)] [] [(1, 25)] [] [] []
noncomputable abbrev impl_isNext.kt (x0 : THead) (x1 : THead) : V.Kt Bool := V.ktOf impl_isNext.E impl_isNext.con Tryz.f288 (V.fl8 x0 x1)
noncomputable abbrev impl_isNext.s (x0 : THead) (x1 : THead) : V.St := ⟨[(0, .v true [.val (.int .i64 x0.1), .val (.int .i64 x0.2.1), .val (.int .i64 x0.2.2.1), .val (.int .i64 x0.2.2.2.1), .val (.int .i64 x0.2.2.2.2.1), .val (.int .i64 x0.2.2.2.2.2.1), .val (.int .i64 x0.2.2.2.2.2.2.1), .val (.int .i64 x0.2.2.2.2.2.2.2.1), .val (.sl (.cons (.int .i64) .nil) x0.2.2.2.2.2.2.2.2.1), .val (.int .i64 x0.2.2.2.2.2.2.2.2.2.1), .val (.sl (.cons (.int .i64) .nil) x0.2.2.2.2.2.2.2.2.2.2.1), .val (.int .i64 x0.2.2.2.2.2.2.2.2.2.2.2.1), .val (.int .i64 x0.2.2.2.2.2.2.2.2.2.2.2.2.1), .val (.sl (.cons (.int .i64) .nil) x0.2.2.2.2.2.2.2.2.2.2.2.2.2.1), .val (.int .i64 x0.2.2.2.2.2.2.2.2.2.2.2.2.2.2.1), .val (.bool x0.2.2.2.2.2.2.2.2.2.2.2.2.2.2.2)]), (1, .v true [.val (.int .i64 x1.1), .val (.int .i64 x1.2.1), .val (.int .i64 x1.2.2.1), .val (.int .i64 x1.2.2.2.1), .val (.int .i64 x1.2.2.2.2.1), .val (.int .i64 x1.2.2.2.2.2.1), .val (.int .i64 x1.2.2.2.2.2.2.1), .val (.int .i64 x1.2.2.2.2.2.2.2.1), .val (.sl (.cons (.int .i64) .nil) x1.2.2.2.2.2.2.2.2.1), .val (.int .i64 x1.2.2.2.2.2.2.2.2.2.1), .val (.sl (.cons (.int .i64) .nil) x1.2.2.2.2.2.2.2.2.2.2.1), .val (.int .i64 x1.2.2.2.2.2.2.2.2.2.2.2.1), .val (.int .i64 x1.2.2.2.2.2.2.2.2.2.2.2.2.1), .val (.sl (.cons (.int .i64) .nil) x1.2.2.2.2.2.2.2.2.2.2.2.2.2.1), .val (.int .i64 x1.2.2.2.2.2.2.2.2.2.2.2.2.2.2.1), .val (.bool x1.2.2.2.2.2.2.2.2.2.2.2.2.2.2.2)])], []⟩
theorem impl_isNext.v0 (x0 : THead) (x1 : THead) : V.evBody impl_isNext.E impl_isNext.con Tryz.f288 (V.fl8 x0 x1) = V.evC impl_isNext.E Tryz.f288.ntmps (V.codeOf Tryz.f288) (impl_isNext.kt x0 x1) (impl_isNext.s x0 x1) := by kernel_rfl
theorem impl_isNext.v (x0 : THead) (x1 : THead) : V.evC impl_isNext.E Tryz.f288.ntmps (V.codeOf Tryz.f288) (impl_isNext.kt x0 x1) (impl_isNext.s x0 x1) = impl_isNext x0 x1 := by kernel_rfl
theorem impl_isNext.eq (x0 : THead) (x1 : THead) : V.evBody impl_isNext.E impl_isNext.con Tryz.f288 (V.fl8 x0 x1) = impl_isNext x0 x1 := (impl_isNext.v0 x0 x1).trans (impl_isNext.v x0 x1)
theorem impl_isNext.ok : V.Valid Tryz.prog 288 impl_isNext.con :=
  V.fo (V.tab_cons impl_HeadDigest.ok V.tab_nil) Tryz.func288 (by kernel_rfl) (fun x y h => (show V.evBody impl_isNext.E impl_isNext.con Tryz.f288 x = _ from impl_isNext.eq (V.p8_0 x) (V.p8_1 x)).trans (V.cfl (by kernel_rfl) h))
noncomputable abbrev impl_ownerCode.con : V.Con := ⟨V.A9, (.cons (.int .i64) .nil), fun (x : V.D9) => impl_ownerCode (V.p9_0 x) (V.p9_1 x), [], [(true, 16), (true, 17)], [(false, 1)], [false], []⟩
noncomputable abbrev impl_ownerCode.E : V.Env := V.mkE V.tys [(302, impl_Signed_isSignedBy.con)] [] [] [] [] []
noncomputable abbrev impl_ownerCode.kt (x0 : THead) (x1 : TSigned) : V.Kt Int := V.ktOf impl_ownerCode.E impl_ownerCode.con Tryz.f289 (V.fl9 x0 x1)
noncomputable abbrev impl_ownerCode.s (x0 : THead) (x1 : TSigned) : V.St := ⟨[(0, .v true [.val (.int .i64 x0.1), .val (.int .i64 x0.2.1), .val (.int .i64 x0.2.2.1), .val (.int .i64 x0.2.2.2.1), .val (.int .i64 x0.2.2.2.2.1), .val (.int .i64 x0.2.2.2.2.2.1), .val (.int .i64 x0.2.2.2.2.2.2.1), .val (.int .i64 x0.2.2.2.2.2.2.2.1), .val (.sl (.cons (.int .i64) .nil) x0.2.2.2.2.2.2.2.2.1), .val (.int .i64 x0.2.2.2.2.2.2.2.2.2.1), .val (.sl (.cons (.int .i64) .nil) x0.2.2.2.2.2.2.2.2.2.2.1), .val (.int .i64 x0.2.2.2.2.2.2.2.2.2.2.2.1), .val (.int .i64 x0.2.2.2.2.2.2.2.2.2.2.2.2.1), .val (.sl (.cons (.int .i64) .nil) x0.2.2.2.2.2.2.2.2.2.2.2.2.2.1), .val (.int .i64 x0.2.2.2.2.2.2.2.2.2.2.2.2.2.2.1), .val (.bool x0.2.2.2.2.2.2.2.2.2.2.2.2.2.2.2)]), (1, .v true [.val (.int .i64 x1.1), .val (.int .i64 x1.2.1), .val (.int .i64 x1.2.2.1), .val (.int .i64 x1.2.2.2.1), .val (.int .i64 x1.2.2.2.2.1), .val (.int .i64 x1.2.2.2.2.2.1), .val (.int .i64 x1.2.2.2.2.2.2.1), .val (.int .i64 x1.2.2.2.2.2.2.2.1), .val (.sl (.cons (.int .i64) .nil) x1.2.2.2.2.2.2.2.2.1), .val (.int .i64 x1.2.2.2.2.2.2.2.2.2.1), .val (.sl (.cons (.int .i64) .nil) x1.2.2.2.2.2.2.2.2.2.2.1), .val (.int .i64 x1.2.2.2.2.2.2.2.2.2.2.2.1), .val (.int .i64 x1.2.2.2.2.2.2.2.2.2.2.2.2.1), .val (.sl (.cons (.int .i64) .nil) x1.2.2.2.2.2.2.2.2.2.2.2.2.2.1), .val (.int .i64 x1.2.2.2.2.2.2.2.2.2.2.2.2.2.2.1), .val (.bool x1.2.2.2.2.2.2.2.2.2.2.2.2.2.2.2.1), .val (.sl (.cons (.int .i64) (.cons (.int .i64) .nil)) x1.2.2.2.2.2.2.2.2.2.2.2.2.2.2.2.2)])], []⟩
theorem impl_ownerCode.v0 (x0 : THead) (x1 : TSigned) : V.evBody impl_ownerCode.E impl_ownerCode.con Tryz.f289 (V.fl9 x0 x1) = V.evC impl_ownerCode.E Tryz.f289.ntmps (V.codeOf Tryz.f289) (impl_ownerCode.kt x0 x1) (impl_ownerCode.s x0 x1) := by kernel_rfl
theorem impl_ownerCode.v (x0 : THead) (x1 : TSigned) : V.evC impl_ownerCode.E Tryz.f289.ntmps (V.codeOf Tryz.f289) (impl_ownerCode.kt x0 x1) (impl_ownerCode.s x0 x1) = impl_ownerCode x0 x1 := by kernel_rfl
theorem impl_ownerCode.eq (x0 : THead) (x1 : TSigned) : V.evBody impl_ownerCode.E impl_ownerCode.con Tryz.f289 (V.fl9 x0 x1) = impl_ownerCode x0 x1 := (impl_ownerCode.v0 x0 x1).trans (impl_ownerCode.v x0 x1)
theorem impl_ownerCode.ok : V.Valid Tryz.prog 289 impl_ownerCode.con :=
  V.fo (V.tab_cons impl_Signed_isSignedBy.ok V.tab_nil) Tryz.func289 (by kernel_rfl) (fun x y h => (show V.evBody impl_ownerCode.E impl_ownerCode.con Tryz.f289 x = _ from impl_ownerCode.eq (V.p9_0 x) (V.p9_1 x)).trans (V.cfl (by kernel_rfl) h))
noncomputable abbrev slices_Equal_int.con : V.Con := ⟨(.cons (.sl (.cons (.int .i64) .nil)) (.cons (.sl (.cons (.int .i64) .nil)) .nil)), (.cons .bool .nil), fun (x : List Int × List Int) => slices_Equal_int x.1 x.2, [], [(false, 1), (false, 1)], [(false, 1)], [false], []⟩
noncomputable abbrev slices_Equal_int.E : V.Env := V.mkE V.tys [] [(8, [0, 1, 12, 13], [])] [(6, 8)] [] [] []
noncomputable abbrev slices_Equal_int.kt (x0 : List Int) (x1 : List Int) : V.Kt Bool := V.ktOf slices_Equal_int.E slices_Equal_int.con Tryz.f209 ((x0, x1) : List Int × List Int)
noncomputable abbrev slices_Equal_int.s8 (x0 : List Int) (x1 : List Int) (v8_2 : Int) (v8_3 : Int) : V.St := ⟨[(0, .v false [.val (.sl (.cons (.int .i64) .nil) x0)]), (1, .v false [.val (.sl (.cons (.int .i64) .nil) x1)]), (12, .v false [.val (.int .i64 v8_2)]), (13, .v false [.val (.int .i64 v8_3)])], []⟩
theorem slices_Equal_int.r8 (x0 : List Int) (x1 : List Int) (R : V.St → Option Bool) (v8_2 : Int) (v8_3 : Int) : V.loopF slices_Equal_int.E Tryz.f209.ntmps [1, 1, 0, 1, 0] [] (V.codeOf Tryz.f209) (slices_Equal_int.kt x0 x1) R (slices_Equal_int.s8 x0 x1 v8_2 v8_3) = slices_Equal_int.g8 x0 x1 (fun v8_2 v8_3 => R (slices_Equal_int.s8 x0 x1 v8_2 v8_3)) v8_2 v8_3 := by kernel_rfl
theorem slices_Equal_int.e8 (x0 : List Int) (x1 : List Int) : ∀ (n : Nat) (v8_2 : Int) (v8_3 : Int), V.loopN (V.loopF slices_Equal_int.E Tryz.f209.ntmps [1, 1, 0, 1, 0] [] (V.codeOf Tryz.f209) (slices_Equal_int.kt x0 x1)) n (slices_Equal_int.s8 x0 x1 v8_2 v8_3) = slices_Equal_int.l8 x0 x1 n v8_2 v8_3 := by
  intro n
  induction n with
  | zero => intros; rw [V.loopN_z]; rfl
  | succ n ih =>
    intro v8_2 v8_3
    rw [V.loopN_s, slices_Equal_int.r8]
    simp only [ih]
    first | exact (slices_Equal_int.u8 ..).symm | rfl
theorem slices_Equal_int.v (x0 : List Int) (x1 : List Int) : V.evBody slices_Equal_int.E slices_Equal_int.con Tryz.f209 ((x0, x1) : List Int × List Int) = slices_Equal_int.b x0 x1 (fun v8_2 v8_3 => V.loopN (V.loopF slices_Equal_int.E Tryz.f209.ntmps [1, 1, 0, 1, 0] [] (V.codeOf Tryz.f209) (slices_Equal_int.kt x0 x1)) V.KK (slices_Equal_int.s8 x0 x1 v8_2 v8_3)) := by kernel_rfl
theorem slices_Equal_int.eq (x0 : List Int) (x1 : List Int) : V.evBody slices_Equal_int.E slices_Equal_int.con Tryz.f209 ((x0, x1) : List Int × List Int) = slices_Equal_int x0 x1 := by
  rw [slices_Equal_int.v]
  simp only [slices_Equal_int.e8]
  rfl
theorem slices_Equal_int.ok : V.Valid Tryz.prog 209 slices_Equal_int.con :=
  V.fo V.tab_nil Tryz.func209 (by kernel_rfl) (fun x y h => (show V.evBody slices_Equal_int.E slices_Equal_int.con Tryz.f209 x = _ from slices_Equal_int.eq x.1 x.2).trans (V.cfl (by kernel_rfl) h))
noncomputable abbrev impl_EqualKeys.con : V.Con := ⟨(.cons (.sl (.cons (.int .i64) .nil)) (.cons (.int .i64) (.cons (.sl (.cons (.int .i64) .nil)) (.cons (.int .i64) .nil)))), (.cons .bool .nil), fun (x : List Int × Int × List Int × Int) => impl_EqualKeys (x.1, x.2.1) x.2.2, [], [(true, 2), (true, 2)], [(false, 1)], [false], []⟩
noncomputable abbrev impl_EqualKeys.E : V.Env := V.mkE V.tys [(209, slices_Equal_int.con)] [] [] [] [] []
theorem impl_EqualKeys.eq (x0 : TKeys) (x1 : TKeys) : V.evBody impl_EqualKeys.E impl_EqualKeys.con Tryz.f208 ((x0.1, x0.2, x1.1, x1.2) : List Int × Int × List Int × Int) = impl_EqualKeys x0 x1 := by kernel_rfl
theorem impl_EqualKeys.ok : V.Valid Tryz.prog 208 impl_EqualKeys.con :=
  V.fo (V.tab_cons slices_Equal_int.ok V.tab_nil) Tryz.func208 (by kernel_rfl) (fun x y h => (show V.evBody impl_EqualKeys.E impl_EqualKeys.con Tryz.f208 x = _ from impl_EqualKeys.eq (x.1, x.2.1) x.2.2).trans (V.cfl (by kernel_rfl) h))
noncomputable abbrev impl_SameContents.con : V.Con := ⟨V.A8, (.cons .bool .nil), fun (x : V.D8) => impl_SameContents (V.p8_0 x) (V.p8_1 x), [], [(true, 16), (true, 16)], [(false, 1)], [false], []⟩
noncomputable abbrev impl_SameContents.E : V.Env := V.mkE V.tys [] [] [] [] [] []
noncomputable abbrev impl_SameContents.kt (x0 : THead) (x1 : THead) : V.Kt Bool := V.ktOf impl_SameContents.E impl_SameContents.con Tryz.f310 (V.fl8 x0 x1)
noncomputable abbrev impl_SameContents.s (x0 : THead) (x1 : THead) : V.St := ⟨[(0, .v true [.val (.int .i64 x0.1), .val (.int .i64 x0.2.1), .val (.int .i64 x0.2.2.1), .val (.int .i64 x0.2.2.2.1), .val (.int .i64 x0.2.2.2.2.1), .val (.int .i64 x0.2.2.2.2.2.1), .val (.int .i64 x0.2.2.2.2.2.2.1), .val (.int .i64 x0.2.2.2.2.2.2.2.1), .val (.sl (.cons (.int .i64) .nil) x0.2.2.2.2.2.2.2.2.1), .val (.int .i64 x0.2.2.2.2.2.2.2.2.2.1), .val (.sl (.cons (.int .i64) .nil) x0.2.2.2.2.2.2.2.2.2.2.1), .val (.int .i64 x0.2.2.2.2.2.2.2.2.2.2.2.1), .val (.int .i64 x0.2.2.2.2.2.2.2.2.2.2.2.2.1), .val (.sl (.cons (.int .i64) .nil) x0.2.2.2.2.2.2.2.2.2.2.2.2.2.1), .val (.int .i64 x0.2.2.2.2.2.2.2.2.2.2.2.2.2.2.1), .val (.bool x0.2.2.2.2.2.2.2.2.2.2.2.2.2.2.2)]), (1, .v true [.val (.int .i64 x1.1), .val (.int .i64 x1.2.1), .val (.int .i64 x1.2.2.1), .val (.int .i64 x1.2.2.2.1), .val (.int .i64 x1.2.2.2.2.1), .val (.int .i64 x1.2.2.2.2.2.1), .val (.int .i64 x1.2.2.2.2.2.2.1), .val (.int .i64 x1.2.2.2.2.2.2.2.1), .val (.sl (.cons (.int .i64) .nil) x1.2.2.2.2.2.2.2.2.1), .val (.int .i64 x1.2.2.2.2.2.2.2.2.2.1), .val (.sl (.cons (.int .i64) .nil) x1.2.2.2.2.2.2.2.2.2.2.1), .val (.int .i64 x1.2.2.2.2.2.2.2.2.2.2.2.1), .val (.int .i64 x1.2.2.2.2.2.2.2.2.2.2.2.2.1), .val (.sl (.cons (.int .i64) .nil) x1.2.2.2.2.2.2.2.2.2.2.2.2.2.1), .val (.int .i64 x1.2.2.2.2.2.2.2.2.2.2.2.2.2.2.1), .val (.bool x1.2.2.2.2.2.2.2.2.2.2.2.2.2.2.2)])], []⟩
theorem impl_SameContents.v0 (x0 : THead) (x1 : THead) : V.evBody impl_SameContents.E impl_SameContents.con Tryz.f310 (V.fl8 x0 x1) = V.evC impl_SameContents.E Tryz.f310.ntmps (V.codeOf Tryz.f310) (impl_SameContents.kt x0 x1) (impl_SameContents.s x0 x1) := by kernel_rfl
theorem impl_SameContents.v (x0 : THead) (x1 : THead) : V.evC impl_SameContents.E Tryz.f310.ntmps (V.codeOf Tryz.f310) (impl_SameContents.kt x0 x1) (impl_SameContents.s x0 x1) = impl_SameContents x0 x1 := by kernel_rfl
theorem impl_SameContents.eq (x0 : THead) (x1 : THead) : V.evBody impl_SameContents.E impl_SameContents.con Tryz.f310 (V.fl8 x0 x1) = impl_SameContents x0 x1 := (impl_SameContents.v0 x0 x1).trans (impl_SameContents.v x0 x1)
theorem impl_SameContents.ok : V.Valid Tryz.prog 310 impl_SameContents.con :=
  V.fo V.tab_nil Tryz.func310 (by kernel_rfl) (fun x y h => (show V.evBody impl_SameContents.E impl_SameContents.con Tryz.f310 x = _ from impl_SameContents.eq (V.p8_0 x) (V.p8_1 x)).trans (V.cfl (by kernel_rfl) h))
noncomputable abbrev impl_heirCode.con : V.Con := ⟨V.A9, (.cons (.int .i64) .nil), fun (x : V.D9) => impl_heirCode (V.p9_0 x) (V.p9_1 x), [], [(true, 16), (true, 17)], [(false, 1)], [false], []⟩
noncomputable abbrev impl_heirCode.E : V.Env := V.mkE V.tys [(208, impl_EqualKeys.con), (259, impl_NoKeys.con), (302, impl_Signed_isSignedBy.con), (310, impl_SameContents.con)] [(11, [2, 3, 5, 11], []), (15, [2, 3, 25], [])] [] [] [] []
noncomputable abbrev impl_heirCode.kt (x0 : THead) (x1 : TSigned) : V.Kt Int := V.ktOf impl_heirCode.E impl_heirCode.con Tryz.f290 (V.fl9 x0 x1)
noncomputable abbrev impl_heirCode.s15 (x0 : THead) (x1 : TSigned) (v15_0 : Bool) : V.St := ⟨[(2, .v false [.ptr 64000 0]), (3, .v false [.ptr 64064 0]), (25, .v false [.val (.bool v15_0)])], [(64000, .box [.val (.int .i64 x0.1), .val (.int .i64 x0.2.1), .val (.int .i64 x0.2.2.1), .val (.int .i64 x0.2.2.2.1), .val (.int .i64 x0.2.2.2.2.1), .val (.int .i64 x0.2.2.2.2.2.1), .val (.int .i64 x0.2.2.2.2.2.2.1), .val (.int .i64 x0.2.2.2.2.2.2.2.1), .val (.sl (.cons (.int .i64) .nil) x0.2.2.2.2.2.2.2.2.1), .val (.int .i64 x0.2.2.2.2.2.2.2.2.2.1), .val (.sl (.cons (.int .i64) .nil) x0.2.2.2.2.2.2.2.2.2.2.1), .val (.int .i64 x0.2.2.2.2.2.2.2.2.2.2.2.1), .val (.int .i64 x0.2.2.2.2.2.2.2.2.2.2.2.2.1), .val (.sl (.cons (.int .i64) .nil) x0.2.2.2.2.2.2.2.2.2.2.2.2.2.1), .val (.int .i64 x0.2.2.2.2.2.2.2.2.2.2.2.2.2.2.1), .val (.bool x0.2.2.2.2.2.2.2.2.2.2.2.2.2.2.2)]), (64064, .box [.val (.int .i64 x1.1), .val (.int .i64 x1.2.1), .val (.int .i64 x1.2.2.1), .val (.int .i64 x1.2.2.2.1), .val (.int .i64 x1.2.2.2.2.1), .val (.int .i64 x1.2.2.2.2.2.1), .val (.int .i64 x1.2.2.2.2.2.2.1), .val (.int .i64 x1.2.2.2.2.2.2.2.1), .val (.sl (.cons (.int .i64) .nil) x1.2.2.2.2.2.2.2.2.1), .val (.int .i64 x1.2.2.2.2.2.2.2.2.2.1), .val (.sl (.cons (.int .i64) .nil) x1.2.2.2.2.2.2.2.2.2.2.1), .val (.int .i64 x1.2.2.2.2.2.2.2.2.2.2.2.1), .val (.int .i64 x1.2.2.2.2.2.2.2.2.2.2.2.2.1), .val (.sl (.cons (.int .i64) .nil) x1.2.2.2.2.2.2.2.2.2.2.2.2.2.1), .val (.int .i64 x1.2.2.2.2.2.2.2.2.2.2.2.2.2.2.1), .val (.bool x1.2.2.2.2.2.2.2.2.2.2.2.2.2.2.2.1), .val (.sl (.cons (.int .i64) (.cons (.int .i64) .nil)) x1.2.2.2.2.2.2.2.2.2.2.2.2.2.2.2.2)])]⟩
noncomputable abbrev impl_heirCode.s11 (x0 : THead) (x1 : TSigned) (v11_0 : Bool) : V.St := ⟨[(2, .v false [.ptr 64000 0]), (3, .v false [.ptr 64064 0]), (5, .v false [.ptr 128128 0]), (11, .v false [.val (.bool v11_0)])], [(64000, .box [.val (.int .i64 x0.1), .val (.int .i64 x0.2.1), .val (.int .i64 x0.2.2.1), .val (.int .i64 x0.2.2.2.1), .val (.int .i64 x0.2.2.2.2.1), .val (.int .i64 x0.2.2.2.2.2.1), .val (.int .i64 x0.2.2.2.2.2.2.1), .val (.int .i64 x0.2.2.2.2.2.2.2.1), .val (.sl (.cons (.int .i64) .nil) x0.2.2.2.2.2.2.2.2.1), .val (.int .i64 x0.2.2.2.2.2.2.2.2.2.1), .val (.sl (.cons (.int .i64) .nil) x0.2.2.2.2.2.2.2.2.2.2.1), .val (.int .i64 x0.2.2.2.2.2.2.2.2.2.2.2.1), .val (.int .i64 x0.2.2.2.2.2.2.2.2.2.2.2.2.1), .val (.sl (.cons (.int .i64) .nil) x0.2.2.2.2.2.2.2.2.2.2.2.2.2.1), .val (.int .i64 x0.2.2.2.2.2.2.2.2.2.2.2.2.2.2.1), .val (.bool x0.2.2.2.2.2.2.2.2.2.2.2.2.2.2.2)]), (64064, .box [.val (.int .i64 x1.1), .val (.int .i64 x1.2.1), .val (.int .i64 x1.2.2.1), .val (.int .i64 x1.2.2.2.1), .val (.int .i64 x1.2.2.2.2.1), .val (.int .i64 x1.2.2.2.2.2.1), .val (.int .i64 x1.2.2.2.2.2.2.1), .val (.int .i64 x1.2.2.2.2.2.2.2.1), .val (.sl (.cons (.int .i64) .nil) x1.2.2.2.2.2.2.2.2.1), .val (.int .i64 x1.2.2.2.2.2.2.2.2.2.1), .val (.sl (.cons (.int .i64) .nil) x1.2.2.2.2.2.2.2.2.2.2.1), .val (.int .i64 x1.2.2.2.2.2.2.2.2.2.2.2.1), .val (.int .i64 x1.2.2.2.2.2.2.2.2.2.2.2.2.1), .val (.sl (.cons (.int .i64) .nil) x1.2.2.2.2.2.2.2.2.2.2.2.2.2.1), .val (.int .i64 x1.2.2.2.2.2.2.2.2.2.2.2.2.2.2.1), .val (.bool x1.2.2.2.2.2.2.2.2.2.2.2.2.2.2.2.1), .val (.sl (.cons (.int .i64) (.cons (.int .i64) .nil)) x1.2.2.2.2.2.2.2.2.2.2.2.2.2.2.2.2)]), (128128, .box [.val (.int .i64 x1.1), .val (.int .i64 x1.2.1), .val (.int .i64 x1.2.2.1), .val (.int .i64 x1.2.2.2.1), .val (.int .i64 x1.2.2.2.2.1), .val (.int .i64 x1.2.2.2.2.2.1), .val (.int .i64 x1.2.2.2.2.2.2.1), .val (.int .i64 x1.2.2.2.2.2.2.2.1), .val (.sl (.cons (.int .i64) .nil) x1.2.2.2.2.2.2.2.2.1), .val (.int .i64 x1.2.2.2.2.2.2.2.2.2.1), .val (.sl (.cons (.int .i64) .nil) x1.2.2.2.2.2.2.2.2.2.2.1), .val (.int .i64 x1.2.2.2.2.2.2.2.2.2.2.2.1), .val (.int .i64 x1.2.2.2.2.2.2.2.2.2.2.2.2.1), .val (.sl (.cons (.int .i64) .nil) x1.2.2.2.2.2.2.2.2.2.2.2.2.2.1), .val (.int .i64 x1.2.2.2.2.2.2.2.2.2.2.2.2.2.2.1), .val (.bool x1.2.2.2.2.2.2.2.2.2.2.2.2.2.2.2.1)])]⟩
theorem impl_heirCode.r15 (x0 : THead) (x1 : TSigned) (v15_0 : Bool) : V.joinF impl_heirCode.E Tryz.f290.ntmps [1, 1, 0, 0, 1, 1, 1, 1] [] (V.codeOf Tryz.f290) (impl_heirCode.kt x0 x1) (impl_heirCode.s15 x0 x1 v15_0) = impl_heirCode.g15 x0 x1 v15_0 := by kernel_rfl
theorem impl_heirCode.e15 (x0 : THead) (x1 : TSigned) (v15_0 : Bool) : V.jn (V.joinF impl_heirCode.E Tryz.f290.ntmps [1, 1, 0, 0, 1, 1, 1, 1] [] (V.codeOf Tryz.f290) (impl_heirCode.kt x0 x1)) (impl_heirCode.s15 x0 x1 v15_0) = impl_heirCode.l15 x0 x1 v15_0 := by
  rw [V.jn_eq, impl_heirCode.r15]
  rfl
theorem impl_heirCode.r11 (x0 : THead) (x1 : TSigned) (v11_0 : Bool) : V.joinF impl_heirCode.E Tryz.f290.ntmps [1, 1, 0, 0, 1, 1] [] (V.codeOf Tryz.f290) (impl_heirCode.kt x0 x1) (impl_heirCode.s11 x0 x1 v11_0) = impl_heirCode.g11 x0 x1 (fun v15_0 => V.jn (V.joinF impl_heirCode.E Tryz.f290.ntmps [1, 1, 0, 0, 1, 1, 1, 1] [] (V.codeOf Tryz.f290) (impl_heirCode.kt x0 x1)) (impl_heirCode.s15 x0 x1 v15_0)) v11_0 := by kernel_rfl
theorem impl_heirCode.e11 (x0 : THead) (x1 : TSigned) (v11_0 : Bool) : V.jn (V.joinF impl_heirCode.E Tryz.f290.ntmps [1, 1, 0, 0, 1, 1] [] (V.codeOf Tryz.f290) (impl_heirCode.kt x0 x1)) (impl_heirCode.s11 x0 x1 v11_0) = impl_heirCode.l11 x0 x1 v11_0 := by
  rw [V.jn_eq, impl_heirCode.r11]
  simp only [impl_heirCode.e15]
  rfl
noncomputable abbrev impl_heirCode.s (x0 : THead) (x1 : TSigned) : V.St := ⟨[(0, .v true [.val (.int .i64 x0.1), .val (.int .i64 x0.2.1), .val (.int .i64 x0.2.2.1), .val (.int .i64 x0.2.2.2.1), .val (.int .i64 x0.2.2.2.2.1), .val (.int .i64 x0.2.2.2.2.2.1), .val (.int .i64 x0.2.2.2.2.2.2.1), .val (.int .i64 x0.2.2.2.2.2.2.2.1), .val (.sl (.cons (.int .i64) .nil) x0.2.2.2.2.2.2.2.2.1), .val (.int .i64 x0.2.2.2.2.2.2.2.2.2.1), .val (.sl (.cons (.int .i64) .nil) x0.2.2.2.2.2.2.2.2.2.2.1), .val (.int .i64 x0.2.2.2.2.2.2.2.2.2.2.2.1), .val (.int .i64 x0.2.2.2.2.2.2.2.2.2.2.2.2.1), .val (.sl (.cons (.int .i64) .nil) x0.2.2.2.2.2.2.2.2.2.2.2.2.2.1), .val (.int .i64 x0.2.2.2.2.2.2.2.2.2.2.2.2.2.2.1), .val (.bool x0.2.2.2.2.2.2.2.2.2.2.2.2.2.2.2)]), (1, .v true [.val (.int .i64 x1.1), .val (.int .i64 x1.2.1), .val (.int .i64 x1.2.2.1), .val (.int .i64 x1.2.2.2.1), .val (.int .i64 x1.2.2.2.2.1), .val (.int .i64 x1.2.2.2.2.2.1), .val (.int .i64 x1.2.2.2.2.2.2.1), .val (.int .i64 x1.2.2.2.2.2.2.2.1), .val (.sl (.cons (.int .i64) .nil) x1.2.2.2.2.2.2.2.2.1), .val (.int .i64 x1.2.2.2.2.2.2.2.2.2.1), .val (.sl (.cons (.int .i64) .nil) x1.2.2.2.2.2.2.2.2.2.2.1), .val (.int .i64 x1.2.2.2.2.2.2.2.2.2.2.2.1), .val (.int .i64 x1.2.2.2.2.2.2.2.2.2.2.2.2.1), .val (.sl (.cons (.int .i64) .nil) x1.2.2.2.2.2.2.2.2.2.2.2.2.2.1), .val (.int .i64 x1.2.2.2.2.2.2.2.2.2.2.2.2.2.2.1), .val (.bool x1.2.2.2.2.2.2.2.2.2.2.2.2.2.2.2.1), .val (.sl (.cons (.int .i64) (.cons (.int .i64) .nil)) x1.2.2.2.2.2.2.2.2.2.2.2.2.2.2.2.2)])], []⟩
theorem impl_heirCode.v0 (x0 : THead) (x1 : TSigned) : V.evBody impl_heirCode.E impl_heirCode.con Tryz.f290 (V.fl9 x0 x1) = V.evC impl_heirCode.E Tryz.f290.ntmps (V.codeOf Tryz.f290) (impl_heirCode.kt x0 x1) (impl_heirCode.s x0 x1) := by kernel_rfl
theorem impl_heirCode.v (x0 : THead) (x1 : TSigned) : V.evC impl_heirCode.E Tryz.f290.ntmps (V.codeOf Tryz.f290) (impl_heirCode.kt x0 x1) (impl_heirCode.s x0 x1) = impl_heirCode.b x0 x1 (fun v11_0 => V.jn (V.joinF impl_heirCode.E Tryz.f290.ntmps [1, 1, 0, 0, 1, 1] [] (V.codeOf Tryz.f290) (impl_heirCode.kt x0 x1)) (impl_heirCode.s11 x0 x1 v11_0)) := by kernel_rfl
theorem impl_heirCode.eq (x0 : THead) (x1 : TSigned) : V.evBody impl_heirCode.E impl_heirCode.con Tryz.f290 (V.fl9 x0 x1) = impl_heirCode x0 x1 := by
  rw [impl_heirCode.v0, impl_heirCode.v]
  simp only [impl_heirCode.e11]
  rfl
theorem impl_heirCode.ok : V.Valid Tryz.prog 290 impl_heirCode.con :=
  V.fo (V.tab_cons impl_EqualKeys.ok (V.tab_cons impl_NoKeys.ok (V.tab_cons impl_Signed_isSignedBy.ok (V.tab_cons impl_SameContents.ok V.tab_nil)))) Tryz.func290 (by kernel_rfl) (fun x y h => (show V.evBody impl_heirCode.E impl_heirCode.con Tryz.f290 x = _ from impl_heirCode.eq (V.p9_0 x) (V.p9_1 x)).trans (V.cfl (by kernel_rfl) h))
end Go.Proofs.YtpioofmdambjoaaGreat
