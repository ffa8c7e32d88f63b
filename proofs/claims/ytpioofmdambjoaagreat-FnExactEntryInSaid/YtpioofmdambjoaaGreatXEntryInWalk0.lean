/- That the functions compute it. -/
import Derived.Test.YtpioofmdambjoaaGreatXEntryInPure0
import Derived.Test.YtpioofmdambjoaaGreatProg
namespace Go.Proofs.YtpioofmdambjoaaGreat
set_option linter.unusedVariables false
set_option maxRecDepth 100000
namespace V
abbrev eSigned : ETy := (.cons (.int .i64) (.cons (.int .i64) (.cons (.int .i64) (.cons (.int .i64) (.cons (.int .i64) (.cons (.int .i64) (.cons (.int .i64) (.cons (.int .i64) (.cons (.sl (.cons (.int .i64) .nil)) (.cons (.int .i64) (.cons (.sl (.cons (.int .i64) .nil)) (.cons (.int .i64) (.cons (.int .i64) (.cons (.sl (.cons (.int .i64) .nil)) (.cons (.int .i64) (.cons .bool (.cons (.sl (.cons (.int .i64) (.cons (.int .i64) .nil))) .nil)))))))))))))))))
abbrev eAnswer : ETy := (.cons (.sl eSigned) (.cons .bool (.cons .str (.cons (.int .i64) (.cons (.int .i64) (.cons (.sl (.cons .str .nil)) (.cons (.int .i64) (.cons (.sl (.cons (.int .i64) .nil)) (.cons (.int .i64) (.cons .str (.cons (.int .i64) (.cons (.int .i64) (.cons (.sl (.cons .str .nil)) (.cons .str (.cons (.int .i64) (.cons (.int .i64) (.cons (.sl (.cons .str .nil)) (.cons (.int .i64) (.cons (.sl (.cons (.int .i64) .nil)) (.cons (.int .i64) (.cons (.sl (.cons (.int .i64) .nil)) .nil)))))))))))))))))))))
abbrev eEntry : ETy := (.cons .str (.cons (.int .i64) (.cons (.int .i64) (.cons (.sl (.cons .str .nil)) .nil))))
abbrev eGap : ETy := (.cons (.int .i64) (.cons .str (.cons (.int .i64) (.cons (.int .i64) (.cons (.sl (.cons .str .nil)) (.cons .str (.cons (.int .i64) (.cons (.int .i64) (.cons (.sl (.cons .str .nil)) (.cons (.int .i64) (.cons (.sl (.cons (.int .i64) .nil)) (.cons (.int .i64) (.cons (.sl (.cons (.int .i64) .nil)) .nil)))))))))))))
abbrev eHead : ETy := (.cons (.int .i64) (.cons (.int .i64) (.cons (.int .i64) (.cons (.int .i64) (.cons (.int .i64) (.cons (.int .i64) (.cons (.int .i64) (.cons (.int .i64) (.cons (.sl (.cons (.int .i64) .nil)) (.cons (.int .i64) (.cons (.sl (.cons (.int .i64) .nil)) (.cons (.int .i64) (.cons (.int .i64) (.cons (.sl (.cons (.int .i64) .nil)) (.cons (.int .i64) (.cons .bool .nil))))))))))))))))
abbrev eREntryBool : ETy := (.cons .str (.cons (.int .i64) (.cons (.int .i64) (.cons (.sl (.cons .str .nil)) (.cons .bool .nil)))))
abbrev eRHeadBool : ETy := (.cons (.int .i64) (.cons (.int .i64) (.cons (.int .i64) (.cons (.int .i64) (.cons (.int .i64) (.cons (.int .i64) (.cons (.int .i64) (.cons (.int .i64) (.cons (.sl (.cons (.int .i64) .nil)) (.cons (.int .i64) (.cons (.sl (.cons (.int .i64) .nil)) (.cons (.int .i64) (.cons (.int .i64) (.cons (.sl (.cons (.int .i64) .nil)) (.cons (.int .i64) (.cons .bool (.cons .bool .nil)))))))))))))))))
abbrev D0 : Type := Int × Int × Int × Int × Int × Int × Int × Int × List Int × Int × List Int × Int × Int × List Int × Int × Bool × Int
abbrev A0 : ETy := (.cons (.int .i64) (.cons (.int .i64) (.cons (.int .i64) (.cons (.int .i64) (.cons (.int .i64) (.cons (.int .i64) (.cons (.int .i64) (.cons (.int .i64) (.cons (.sl (.cons (.int .i64) .nil)) (.cons (.int .i64) (.cons (.sl (.cons (.int .i64) .nil)) (.cons (.int .i64) (.cons (.int .i64) (.cons (.sl (.cons (.int .i64) .nil)) (.cons (.int .i64) (.cons .bool (.cons (.int .i64) .nil)))))))))))))))))
abbrev fl0 (x0 : THead) (x1 : Int) : D0 := (x0.1, x0.2.1, x0.2.2.1, x0.2.2.2.1, x0.2.2.2.2.1, x0.2.2.2.2.2.1, x0.2.2.2.2.2.2.1, x0.2.2.2.2.2.2.2.1, x0.2.2.2.2.2.2.2.2.1, x0.2.2.2.2.2.2.2.2.2.1, x0.2.2.2.2.2.2.2.2.2.2.1, x0.2.2.2.2.2.2.2.2.2.2.2.1, x0.2.2.2.2.2.2.2.2.2.2.2.2.1, x0.2.2.2.2.2.2.2.2.2.2.2.2.2.1, x0.2.2.2.2.2.2.2.2.2.2.2.2.2.2.1, x0.2.2.2.2.2.2.2.2.2.2.2.2.2.2.2, x1)
abbrev p0_0 (x : D0) : THead := (x.1, x.2.1, x.2.2.1, x.2.2.2.1, x.2.2.2.2.1, x.2.2.2.2.2.1, x.2.2.2.2.2.2.1, x.2.2.2.2.2.2.2.1, x.2.2.2.2.2.2.2.2.1, x.2.2.2.2.2.2.2.2.2.1, x.2.2.2.2.2.2.2.2.2.2.1, x.2.2.2.2.2.2.2.2.2.2.2.1, x.2.2.2.2.2.2.2.2.2.2.2.2.1, x.2.2.2.2.2.2.2.2.2.2.2.2.2.1, x.2.2.2.2.2.2.2.2.2.2.2.2.2.2.1, x.2.2.2.2.2.2.2.2.2.2.2.2.2.2.2.1)
abbrev p0_1 (x : D0) : Int := x.2.2.2.2.2.2.2.2.2.2.2.2.2.2.2.2
abbrev D1 : Type := Int × Int × Int × Int × Int × Int × Int × Int × List Int × Int × List Int × Int × Int × List Int × Int × Bool × List TSig × Int
abbrev A1 : ETy := (.cons (.int .i64) (.cons (.int .i64) (.cons (.int .i64) (.cons (.int .i64) (.cons (.int .i64) (.cons (.int .i64) (.cons (.int .i64) (.cons (.int .i64) (.cons (.sl (.cons (.int .i64) .nil)) (.cons (.int .i64) (.cons (.sl (.cons (.int .i64) .nil)) (.cons (.int .i64) (.cons (.int .i64) (.cons (.sl (.cons (.int .i64) .nil)) (.cons (.int .i64) (.cons .bool (.cons (.sl (.cons (.int .i64) (.cons (.int .i64) .nil))) (.cons (.int .i64) .nil))))))))))))))))))
abbrev fl1 (x0 : TSigned) (x1 : Int) : D1 := (x0.1, x0.2.1, x0.2.2.1, x0.2.2.2.1, x0.2.2.2.2.1, x0.2.2.2.2.2.1, x0.2.2.2.2.2.2.1, x0.2.2.2.2.2.2.2.1, x0.2.2.2.2.2.2.2.2.1, x0.2.2.2.2.2.2.2.2.2.1, x0.2.2.2.2.2.2.2.2.2.2.1, x0.2.2.2.2.2.2.2.2.2.2.2.1, x0.2.2.2.2.2.2.2.2.2.2.2.2.1, x0.2.2.2.2.2.2.2.2.2.2.2.2.2.1, x0.2.2.2.2.2.2.2.2.2.2.2.2.2.2.1, x0.2.2.2.2.2.2.2.2.2.2.2.2.2.2.2.1, x0.2.2.2.2.2.2.2.2.2.2.2.2.2.2.2.2, x1)
abbrev p1_0 (x : D1) : TSigned := (x.1, x.2.1, x.2.2.1, x.2.2.2.1, x.2.2.2.2.1, x.2.2.2.2.2.1, x.2.2.2.2.2.2.1, x.2.2.2.2.2.2.2.1, x.2.2.2.2.2.2.2.2.1, x.2.2.2.2.2.2.2.2.2.1, x.2.2.2.2.2.2.2.2.2.2.1, x.2.2.2.2.2.2.2.2.2.2.2.1, x.2.2.2.2.2.2.2.2.2.2.2.2.1, x.2.2.2.2.2.2.2.2.2.2.2.2.2.1, x.2.2.2.2.2.2.2.2.2.2.2.2.2.2.1, x.2.2.2.2.2.2.2.2.2.2.2.2.2.2.2.1, x.2.2.2.2.2.2.2.2.2.2.2.2.2.2.2.2.1)
abbrev p1_1 (x : D1) : Int := x.2.2.2.2.2.2.2.2.2.2.2.2.2.2.2.2.2
abbrev D2 : Type := Int × ByteArray × Int × Int × List ByteArray × ByteArray × Int × Int × List ByteArray × Int × List Int × Int × List Int × Int
abbrev A2 : ETy := (.cons (.int .i64) (.cons .str (.cons (.int .i64) (.cons (.int .i64) (.cons (.sl (.cons .str .nil)) (.cons .str (.cons (.int .i64) (.cons (.int .i64) (.cons (.sl (.cons .str .nil)) (.cons (.int .i64) (.cons (.sl (.cons (.int .i64) .nil)) (.cons (.int .i64) (.cons (.sl (.cons (.int .i64) .nil)) (.cons (.int .i64) .nil))))))))))))))
abbrev fl2 (x0 : TGap) (x1 : Int) : D2 := (x0.1, x0.2.1, x0.2.2.1, x0.2.2.2.1, x0.2.2.2.2.1, x0.2.2.2.2.2.1, x0.2.2.2.2.2.2.1, x0.2.2.2.2.2.2.2.1, x0.2.2.2.2.2.2.2.2.1, x0.2.2.2.2.2.2.2.2.2.1, x0.2.2.2.2.2.2.2.2.2.2.1, x0.2.2.2.2.2.2.2.2.2.2.2.1, x0.2.2.2.2.2.2.2.2.2.2.2.2, x1)
abbrev p2_0 (x : D2) : TGap := (x.1, x.2.1, x.2.2.1, x.2.2.2.1, x.2.2.2.2.1, x.2.2.2.2.2.1, x.2.2.2.2.2.2.1, x.2.2.2.2.2.2.2.1, x.2.2.2.2.2.2.2.2.1, x.2.2.2.2.2.2.2.2.2.1, x.2.2.2.2.2.2.2.2.2.2.1, x.2.2.2.2.2.2.2.2.2.2.2.1, x.2.2.2.2.2.2.2.2.2.2.2.2.1)
abbrev p2_1 (x : D2) : Int := x.2.2.2.2.2.2.2.2.2.2.2.2.2
abbrev D3 : Type := List TSigned × Bool × ByteArray × Int × Int × List ByteArray × Int × List Int × Int × ByteArray × Int × Int × List ByteArray × ByteArray × Int × Int × List ByteArray × Int × List Int × Int × List Int × Int
abbrev A3 : ETy := (.cons (.sl eSigned) (.cons .bool (.cons .str (.cons (.int .i64) (.cons (.int .i64) (.cons (.sl (.cons .str .nil)) (.cons (.int .i64) (.cons (.sl (.cons (.int .i64) .nil)) (.cons (.int .i64) (.cons .str (.cons (.int .i64) (.cons (.int .i64) (.cons (.sl (.cons .str .nil)) (.cons .str (.cons (.int .i64) (.cons (.int .i64) (.cons (.sl (.cons .str .nil)) (.cons (.int .i64) (.cons (.sl (.cons (.int .i64) .nil)) (.cons (.int .i64) (.cons (.sl (.cons (.int .i64) .nil)) (.cons (.int .i64) .nil))))))))))))))))))))))
abbrev fl3 (x0 : TAnswer) (x1 : Int) : D3 := (x0.1, x0.2.1, x0.2.2.1, x0.2.2.2.1, x0.2.2.2.2.1, x0.2.2.2.2.2.1, x0.2.2.2.2.2.2.1, x0.2.2.2.2.2.2.2.1, x0.2.2.2.2.2.2.2.2.1, x0.2.2.2.2.2.2.2.2.2.1, x0.2.2.2.2.2.2.2.2.2.2.1, x0.2.2.2.2.2.2.2.2.2.2.2.1, x0.2.2.2.2.2.2.2.2.2.2.2.2.1, x0.2.2.2.2.2.2.2.2.2.2.2.2.2.1, x0.2.2.2.2.2.2.2.2.2.2.2.2.2.2.1, x0.2.2.2.2.2.2.2.2.2.2.2.2.2.2.2.1, x0.2.2.2.2.2.2.2.2.2.2.2.2.2.2.2.2.1, x0.2.2.2.2.2.2.2.2.2.2.2.2.2.2.2.2.2.1, x0.2.2.2.2.2.2.2.2.2.2.2.2.2.2.2.2.2.2.1, x0.2.2.2.2.2.2.2.2.2.2.2.2.2.2.2.2.2.2.2.1, x0.2.2.2.2.2.2.2.2.2.2.2.2.2.2.2.2.2.2.2.2, x1)
abbrev p3_0 (x : D3) : TAnswer := (x.1, x.2.1, x.2.2.1, x.2.2.2.1, x.2.2.2.2.1, x.2.2.2.2.2.1, x.2.2.2.2.2.2.1, x.2.2.2.2.2.2.2.1, x.2.2.2.2.2.2.2.2.1, x.2.2.2.2.2.2.2.2.2.1, x.2.2.2.2.2.2.2.2.2.2.1, x.2.2.2.2.2.2.2.2.2.2.2.1, x.2.2.2.2.2.2.2.2.2.2.2.2.1, x.2.2.2.2.2.2.2.2.2.2.2.2.2.1, x.2.2.2.2.2.2.2.2.2.2.2.2.2.2.1, x.2.2.2.2.2.2.2.2.2.2.2.2.2.2.2.1, x.2.2.2.2.2.2.2.2.2.2.2.2.2.2.2.2.1, x.2.2.2.2.2.2.2.2.2.2.2.2.2.2.2.2.2.1, x.2.2.2.2.2.2.2.2.2.2.2.2.2.2.2.2.2.2.1, x.2.2.2.2.2.2.2.2.2.2.2.2.2.2.2.2.2.2.2.1, x.2.2.2.2.2.2.2.2.2.2.2.2.2.2.2.2.2.2.2.2.1)
abbrev p3_1 (x : D3) : Int := x.2.2.2.2.2.2.2.2.2.2.2.2.2.2.2.2.2.2.2.2.2
abbrev D4 : Type := Int × Int × Int × Int × Int × Int × Int × Int × List Int × Int × List Int × Int × Int × List Int × Int × Bool
abbrev A4 : ETy := eHead
abbrev fl4 (x0 : THead) : D4 := (x0.1, x0.2.1, x0.2.2.1, x0.2.2.2.1, x0.2.2.2.2.1, x0.2.2.2.2.2.1, x0.2.2.2.2.2.2.1, x0.2.2.2.2.2.2.2.1, x0.2.2.2.2.2.2.2.2.1, x0.2.2.2.2.2.2.2.2.2.1, x0.2.2.2.2.2.2.2.2.2.2.1, x0.2.2.2.2.2.2.2.2.2.2.2.1, x0.2.2.2.2.2.2.2.2.2.2.2.2.1, x0.2.2.2.2.2.2.2.2.2.2.2.2.2.1, x0.2.2.2.2.2.2.2.2.2.2.2.2.2.2.1, x0.2.2.2.2.2.2.2.2.2.2.2.2.2.2.2)
abbrev p4_0 (x : D4) : THead := x
abbrev D5 : Type := Int × Int × Int × Int × Int × Int × Int × Int × List Int × Int × List Int × Int × Int × List Int × Int × Bool × List TSig
abbrev A5 : ETy := eSigned
abbrev fl5 (x0 : TSigned) : D5 := (x0.1, x0.2.1, x0.2.2.1, x0.2.2.2.1, x0.2.2.2.2.1, x0.2.2.2.2.2.1, x0.2.2.2.2.2.2.1, x0.2.2.2.2.2.2.2.1, x0.2.2.2.2.2.2.2.2.1, x0.2.2.2.2.2.2.2.2.2.1, x0.2.2.2.2.2.2.2.2.2.2.1, x0.2.2.2.2.2.2.2.2.2.2.2.1, x0.2.2.2.2.2.2.2.2.2.2.2.2.1, x0.2.2.2.2.2.2.2.2.2.2.2.2.2.1, x0.2.2.2.2.2.2.2.2.2.2.2.2.2.2.1, x0.2.2.2.2.2.2.2.2.2.2.2.2.2.2.2.1, x0.2.2.2.2.2.2.2.2.2.2.2.2.2.2.2.2)
abbrev p5_0 (x : D5) : TSigned := x
abbrev D6 : Type := Int × ByteArray × Int × Int × List ByteArray × ByteArray × Int × Int × List ByteArray × Int × List Int × Int × List Int
abbrev A6 : ETy := eGap
abbrev fl6 (x0 : TGap) : D6 := (x0.1, x0.2.1, x0.2.2.1, x0.2.2.2.1, x0.2.2.2.2.1, x0.2.2.2.2.2.1, x0.2.2.2.2.2.2.1, x0.2.2.2.2.2.2.2.1, x0.2.2.2.2.2.2.2.2.1, x0.2.2.2.2.2.2.2.2.2.1, x0.2.2.2.2.2.2.2.2.2.2.1, x0.2.2.2.2.2.2.2.2.2.2.2.1, x0.2.2.2.2.2.2.2.2.2.2.2.2)
abbrev p6_0 (x : D6) : TGap := x
abbrev D7 : Type := List TSigned × Bool × ByteArray × Int × Int × List ByteArray × Int × List Int × Int × ByteArray × Int × Int × List ByteArray × ByteArray × Int × Int × List ByteArray × Int × List Int × Int × List Int
abbrev A7 : ETy := eAnswer
abbrev fl7 (x0 : TAnswer) : D7 := (x0.1, x0.2.1, x0.2.2.1, x0.2.2.2.1, x0.2.2.2.2.1, x0.2.2.2.2.2.1, x0.2.2.2.2.2.2.1, x0.2.2.2.2.2.2.2.1, x0.2.2.2.2.2.2.2.2.1, x0.2.2.2.2.2.2.2.2.2.1, x0.2.2.2.2.2.2.2.2.2.2.1, x0.2.2.2.2.2.2.2.2.2.2.2.1, x0.2.2.2.2.2.2.2.2.2.2.2.2.1, x0.2.2.2.2.2.2.2.2.2.2.2.2.2.1, x0.2.2.2.2.2.2.2.2.2.2.2.2.2.2.1, x0.2.2.2.2.2.2.2.2.2.2.2.2.2.2.2.1, x0.2.2.2.2.2.2.2.2.2.2.2.2.2.2.2.2.1, x0.2.2.2.2.2.2.2.2.2.2.2.2.2.2.2.2.2.1, x0.2.2.2.2.2.2.2.2.2.2.2.2.2.2.2.2.2.2.1, x0.2.2.2.2.2.2.2.2.2.2.2.2.2.2.2.2.2.2.2.1, x0.2.2.2.2.2.2.2.2.2.2.2.2.2.2.2.2.2.2.2.2)
abbrev p7_0 (x : D7) : TAnswer := x
abbrev D8 : Type := Int × Int × Int × Int × Int × Int × Int × Int × List Int × Int × List Int × Int × Int × List Int × Int × Bool × Int × Int × Int × Int × Int × Int × Int × Int × List Int × Int × List Int × Int × Int × List Int × Int × Bool
abbrev A8 : ETy := (.cons (.int .i64) (.cons (.int .i64) (.cons (.int .i64) (.cons (.int .i64) (.cons (.int .i64) (.cons (.int .i64) (.cons (.int .i64) (.cons (.int .i64) (.cons (.sl (.cons (.int .i64) .nil)) (.cons (.int .i64) (.cons (.sl (.cons (.int .i64) .nil)) (.cons (.int .i64) (.cons (.int .i64) (.cons (.sl (.cons (.int .i64) .nil)) (.cons (.int .i64) (.cons .bool (.cons (.int .i64) (.cons (.int .i64) (.cons (.int .i64) (.cons (.int .i64) (.cons (.int .i64) (.cons (.int .i64) (.cons (.int .i64) (.cons (.int .i64) (.cons (.sl (.cons (.int .i64) .nil)) (.cons (.int .i64) (.cons (.sl (.cons (.int .i64) .nil)) (.cons (.int .i64) (.cons (.int .i64) (.cons (.sl (.cons (.int .i64) .nil)) (.cons (.int .i64) (.cons .bool .nil))))))))))))))))))))))))))))))))
abbrev fl8 (x0 : THead) (x1 : THead) : D8 := (x0.1, x0.2.1, x0.2.2.1, x0.2.2.2.1, x0.2.2.2.2.1, x0.2.2.2.2.2.1, x0.2.2.2.2.2.2.1, x0.2.2.2.2.2.2.2.1, x0.2.2.2.2.2.2.2.2.1, x0.2.2.2.2.2.2.2.2.2.1, x0.2.2.2.2.2.2.2.2.2.2.1, x0.2.2.2.2.2.2.2.2.2.2.2.1, x0.2.2.2.2.2.2.2.2.2.2.2.2.1, x0.2.2.2.2.2.2.2.2.2.2.2.2.2.1, x0.2.2.2.2.2.2.2.2.2.2.2.2.2.2.1, x0.2.2.2.2.2.2.2.2.2.2.2.2.2.2.2, x1.1, x1.2.1, x1.2.2.1, x1.2.2.2.1, x1.2.2.2.2.1, x1.2.2.2.2.2.1, x1.2.2.2.2.2.2.1, x1.2.2.2.2.2.2.2.1, x1.2.2.2.2.2.2.2.2.1, x1.2.2.2.2.2.2.2.2.2.1, x1.2.2.2.2.2.2.2.2.2.2.1, x1.2.2.2.2.2.2.2.2.2.2.2.1, x1.2.2.2.2.2.2.2.2.2.2.2.2.1, x1.2.2.2.2.2.2.2.2.2.2.2.2.2.1, x1.2.2.2.2.2.2.2.2.2.2.2.2.2.2.1, x1.2.2.2.2.2.2.2.2.2.2.2.2.2.2.2)
abbrev p8_0 (x : D8) : THead := (x.1, x.2.1, x.2.2.1, x.2.2.2.1, x.2.2.2.2.1, x.2.2.2.2.2.1, x.2.2.2.2.2.2.1, x.2.2.2.2.2.2.2.1, x.2.2.2.2.2.2.2.2.1, x.2.2.2.2.2.2.2.2.2.1, x.2.2.2.2.2.2.2.2.2.2.1, x.2.2.2.2.2.2.2.2.2.2.2.1, x.2.2.2.2.2.2.2.2.2.2.2.2.1, x.2.2.2.2.2.2.2.2.2.2.2.2.2.1, x.2.2.2.2.2.2.2.2.2.2.2.2.2.2.1, x.2.2.2.2.2.2.2.2.2.2.2.2.2.2.2.1)
abbrev p8_1 (x : D8) : THead := x.2.2.2.2.2.2.2.2.2.2.2.2.2.2.2.2
abbrev D9 : Type := Int × Int × Int × Int × Int × Int × Int × Int × List Int × Int × List Int × Int × Int × List Int × Int × Bool × Int × Int × Int × Int × Int × Int × Int × Int × List Int × Int × List Int × Int × Int × List Int × Int × Bool × List TSig
abbrev A9 : ETy := (.cons (.int .i64) (.cons (.int .i64) (.cons (.int .i64) (.cons (.int .i64) (.cons (.int .i64) (.cons (.int .i64) (.cons (.int .i64) (.cons (.int .i64) (.cons (.sl (.cons (.int .i64) .nil)) (.cons (.int .i64) (.cons (.sl (.cons (.int .i64) .nil)) (.cons (.int .i64) (.cons (.int .i64) (.cons (.sl (.cons (.int .i64) .nil)) (.cons (.int .i64) (.cons .bool (.cons (.int .i64) (.cons (.int .i64) (.cons (.int .i64) (.cons (.int .i64) (.cons (.int .i64) (.cons (.int .i64) (.cons (.int .i64) (.cons (.int .i64) (.cons (.sl (.cons (.int .i64) .nil)) (.cons (.int .i64) (.cons (.sl (.cons (.int .i64) .nil)) (.cons (.int .i64) (.cons (.int .i64) (.cons (.sl (.cons (.int .i64) .nil)) (.cons (.int .i64) (.cons .bool (.cons (.sl (.cons (.int .i64) (.cons (.int .i64) .nil))) .nil)))))))))))))))))))))))))))))))))
abbrev fl9 (x0 : THead) (x1 : TSigned) : D9 := (x0.1, x0.2.1, x0.2.2.1, x0.2.2.2.1, x0.2.2.2.2.1, x0.2.2.2.2.2.1, x0.2.2.2.2.2.2.1, x0.2.2.2.2.2.2.2.1, x0.2.2.2.2.2.2.2.2.1, x0.2.2.2.2.2.2.2.2.2.1, x0.2.2.2.2.2.2.2.2.2.2.1, x0.2.2.2.2.2.2.2.2.2.2.2.1, x0.2.2.2.2.2.2.2.2.2.2.2.2.1, x0.2.2.2.2.2.2.2.2.2.2.2.2.2.1, x0.2.2.2.2.2.2.2.2.2.2.2.2.2.2.1, x0.2.2.2.2.2.2.2.2.2.2.2.2.2.2.2, x1.1, x1.2.1, x1.2.2.1, x1.2.2.2.1, x1.2.2.2.2.1, x1.2.2.2.2.2.1, x1.2.2.2.2.2.2.1, x1.2.2.2.2.2.2.2.1, x1.2.2.2.2.2.2.2.2.1, x1.2.2.2.2.2.2.2.2.2.1, x1.2.2.2.2.2.2.2.2.2.2.1, x1.2.2.2.2.2.2.2.2.2.2.2.1, x1.2.2.2.2.2.2.2.2.2.2.2.2.1, x1.2.2.2.2.2.2.2.2.2.2.2.2.2.1, x1.2.2.2.2.2.2.2.2.2.2.2.2.2.2.1, x1.2.2.2.2.2.2.2.2.2.2.2.2.2.2.2.1, x1.2.2.2.2.2.2.2.2.2.2.2.2.2.2.2.2)
abbrev p9_0 (x : D9) : THead := (x.1, x.2.1, x.2.2.1, x.2.2.2.1, x.2.2.2.2.1, x.2.2.2.2.2.1, x.2.2.2.2.2.2.1, x.2.2.2.2.2.2.2.1, x.2.2.2.2.2.2.2.2.1, x.2.2.2.2.2.2.2.2.2.1, x.2.2.2.2.2.2.2.2.2.2.1, x.2.2.2.2.2.2.2.2.2.2.2.1, x.2.2.2.2.2.2.2.2.2.2.2.2.1, x.2.2.2.2.2.2.2.2.2.2.2.2.2.1, x.2.2.2.2.2.2.2.2.2.2.2.2.2.2.1, x.2.2.2.2.2.2.2.2.2.2.2.2.2.2.2.1)
abbrev p9_1 (x : D9) : TSigned := x.2.2.2.2.2.2.2.2.2.2.2.2.2.2.2.2
abbrev D10 : Type := Int × ByteArray × Int × Int × List ByteArray × ByteArray × Int × Int × List ByteArray × Int × List Int × Int × List Int × Int × ByteArray × Int × Int × List ByteArray × ByteArray × Int × Int × List ByteArray × Int × List Int × Int × List Int
abbrev A10 : ETy := (.cons (.int .i64) (.cons .str (.cons (.int .i64) (.cons (.int .i64) (.cons (.sl (.cons .str .nil)) (.cons .str (.cons (.int .i64) (.cons (.int .i64) (.cons (.sl (.cons .str .nil)) (.cons (.int .i64) (.cons (.sl (.cons (.int .i64) .nil)) (.cons (.int .i64) (.cons (.sl (.cons (.int .i64) .nil)) (.cons (.int .i64) (.cons .str (.cons (.int .i64) (.cons (.int .i64) (.cons (.sl (.cons .str .nil)) (.cons .str (.cons (.int .i64) (.cons (.int .i64) (.cons (.sl (.cons .str .nil)) (.cons (.int .i64) (.cons (.sl (.cons (.int .i64) .nil)) (.cons (.int .i64) (.cons (.sl (.cons (.int .i64) .nil)) .nil))))))))))))))))))))))))))
abbrev fl10 (x0 : TGap) (x1 : TGap) : D10 := (x0.1, x0.2.1, x0.2.2.1, x0.2.2.2.1, x0.2.2.2.2.1, x0.2.2.2.2.2.1, x0.2.2.2.2.2.2.1, x0.2.2.2.2.2.2.2.1, x0.2.2.2.2.2.2.2.2.1, x0.2.2.2.2.2.2.2.2.2.1, x0.2.2.2.2.2.2.2.2.2.2.1, x0.2.2.2.2.2.2.2.2.2.2.2.1, x0.2.2.2.2.2.2.2.2.2.2.2.2, x1.1, x1.2.1, x1.2.2.1, x1.2.2.2.1, x1.2.2.2.2.1, x1.2.2.2.2.2.1, x1.2.2.2.2.2.2.1, x1.2.2.2.2.2.2.2.1, x1.2.2.2.2.2.2.2.2.1, x1.2.2.2.2.2.2.2.2.2.1, x1.2.2.2.2.2.2.2.2.2.2.1, x1.2.2.2.2.2.2.2.2.2.2.2.1, x1.2.2.2.2.2.2.2.2.2.2.2.2)
abbrev p10_0 (x : D10) : TGap := (x.1, x.2.1, x.2.2.1, x.2.2.2.1, x.2.2.2.2.1, x.2.2.2.2.2.1, x.2.2.2.2.2.2.1, x.2.2.2.2.2.2.2.1, x.2.2.2.2.2.2.2.2.1, x.2.2.2.2.2.2.2.2.2.1, x.2.2.2.2.2.2.2.2.2.2.1, x.2.2.2.2.2.2.2.2.2.2.2.1, x.2.2.2.2.2.2.2.2.2.2.2.2.1)
abbrev p10_1 (x : D10) : TGap := x.2.2.2.2.2.2.2.2.2.2.2.2.2
abbrev D11 : Type := Int × Int × ByteArray × Int × ByteArray × Int × Int × List ByteArray × ByteArray × Int × Int × List ByteArray × Int × List Int × Int × List Int
abbrev A11 : ETy := (.cons (.int .i64) (.cons (.int .i64) (.cons .str (.cons (.int .i64) (.cons .str (.cons (.int .i64) (.cons (.int .i64) (.cons (.sl (.cons .str .nil)) (.cons .str (.cons (.int .i64) (.cons (.int .i64) (.cons (.sl (.cons .str .nil)) (.cons (.int .i64) (.cons (.sl (.cons (.int .i64) .nil)) (.cons (.int .i64) (.cons (.sl (.cons (.int .i64) .nil)) .nil))))))))))))))))
abbrev fl11 (x0 : Int) (x1 : Int) (x2 : ByteArray) (x3 : TGap) : D11 := (x0, x1, x2, x3.1, x3.2.1, x3.2.2.1, x3.2.2.2.1, x3.2.2.2.2.1, x3.2.2.2.2.2.1, x3.2.2.2.2.2.2.1, x3.2.2.2.2.2.2.2.1, x3.2.2.2.2.2.2.2.2.1, x3.2.2.2.2.2.2.2.2.2.1, x3.2.2.2.2.2.2.2.2.2.2.1, x3.2.2.2.2.2.2.2.2.2.2.2.1, x3.2.2.2.2.2.2.2.2.2.2.2.2)
abbrev p11_0 (x : D11) : Int := x.1
abbrev p11_1 (x : D11) : Int := x.2.1
abbrev p11_2 (x : D11) : ByteArray := x.2.2.1
abbrev p11_3 (x : D11) : TGap := x.2.2.2
abbrev D12 : Type := Int × Int × Int × Int × Int × Int × Int × Int × List Int × Int × List Int × Int × Int × List Int × Int × Bool × ByteArray × List TSigned × Bool × ByteArray × Int × Int × List ByteArray × Int × List Int × Int × ByteArray × Int × Int × List ByteArray × ByteArray × Int × Int × List ByteArray × Int × List Int × Int × List Int
abbrev A12 : ETy := (.cons (.int .i64) (.cons (.int .i64) (.cons (.int .i64) (.cons (.int .i64) (.cons (.int .i64) (.cons (.int .i64) (.cons (.int .i64) (.cons (.int .i64) (.cons (.sl (.cons (.int .i64) .nil)) (.cons (.int .i64) (.cons (.sl (.cons (.int .i64) .nil)) (.cons (.int .i64) (.cons (.int .i64) (.cons (.sl (.cons (.int .i64) .nil)) (.cons (.int .i64) (.cons .bool (.cons .str (.cons (.sl eSigned) (.cons .bool (.cons .str (.cons (.int .i64) (.cons (.int .i64) (.cons (.sl (.cons .str .nil)) (.cons (.int .i64) (.cons (.sl (.cons (.int .i64) .nil)) (.cons (.int .i64) (.cons .str (.cons (.int .i64) (.cons (.int .i64) (.cons (.sl (.cons .str .nil)) (.cons .str (.cons (.int .i64) (.cons (.int .i64) (.cons (.sl (.cons .str .nil)) (.cons (.int .i64) (.cons (.sl (.cons (.int .i64) .nil)) (.cons (.int .i64) (.cons (.sl (.cons (.int .i64) .nil)) .nil))))))))))))))))))))))))))))))))))))))
abbrev fl12 (x0 : THead) (x1 : ByteArray) (x2 : TAnswer) : D12 := (x0.1, x0.2.1, x0.2.2.1, x0.2.2.2.1, x0.2.2.2.2.1, x0.2.2.2.2.2.1, x0.2.2.2.2.2.2.1, x0.2.2.2.2.2.2.2.1, x0.2.2.2.2.2.2.2.2.1, x0.2.2.2.2.2.2.2.2.2.1, x0.2.2.2.2.2.2.2.2.2.2.1, x0.2.2.2.2.2.2.2.2.2.2.2.1, x0.2.2.2.2.2.2.2.2.2.2.2.2.1, x0.2.2.2.2.2.2.2.2.2.2.2.2.2.1, x0.2.2.2.2.2.2.2.2.2.2.2.2.2.2.1, x0.2.2.2.2.2.2.2.2.2.2.2.2.2.2.2, x1, x2.1, x2.2.1, x2.2.2.1, x2.2.2.2.1, x2.2.2.2.2.1, x2.2.2.2.2.2.1, x2.2.2.2.2.2.2.1, x2.2.2.2.2.2.2.2.1, x2.2.2.2.2.2.2.2.2.1, x2.2.2.2.2.2.2.2.2.2.1, x2.2.2.2.2.2.2.2.2.2.2.1, x2.2.2.2.2.2.2.2.2.2.2.2.1, x2.2.2.2.2.2.2.2.2.2.2.2.2.1, x2.2.2.2.2.2.2.2.2.2.2.2.2.2.1, x2.2.2.2.2.2.2.2.2.2.2.2.2.2.2.1, x2.2.2.2.2.2.2.2.2.2.2.2.2.2.2.2.1, x2.2.2.2.2.2.2.2.2.2.2.2.2.2.2.2.2.1, x2.2.2.2.2.2.2.2.2.2.2.2.2.2.2.2.2.2.1, x2.2.2.2.2.2.2.2.2.2.2.2.2.2.2.2.2.2.2.1, x2.2.2.2.2.2.2.2.2.2.2.2.2.2.2.2.2.2.2.2.1, x2.2.2.2.2.2.2.2.2.2.2.2.2.2.2.2.2.2.2.2.2)
abbrev p12_0 (x : D12) : THead := (x.1, x.2.1, x.2.2.1, x.2.2.2.1, x.2.2.2.2.1, x.2.2.2.2.2.1, x.2.2.2.2.2.2.1, x.2.2.2.2.2.2.2.1, x.2.2.2.2.2.2.2.2.1, x.2.2.2.2.2.2.2.2.2.1, x.2.2.2.2.2.2.2.2.2.2.1, x.2.2.2.2.2.2.2.2.2.2.2.1, x.2.2.2.2.2.2.2.2.2.2.2.2.1, x.2.2.2.2.2.2.2.2.2.2.2.2.2.1, x.2.2.2.2.2.2.2.2.2.2.2.2.2.2.1, x.2.2.2.2.2.2.2.2.2.2.2.2.2.2.2.1)
abbrev p12_1 (x : D12) : ByteArray := x.2.2.2.2.2.2.2.2.2.2.2.2.2.2.2.2.1
abbrev p12_2 (x : D12) : TAnswer := x.2.2.2.2.2.2.2.2.2.2.2.2.2.2.2.2.2
abbrev D13 : Type := Int × ByteArray × List TSigned × Bool × ByteArray × Int × Int × List ByteArray × Int × List Int × Int × ByteArray × Int × Int × List ByteArray × ByteArray × Int × Int × List ByteArray × Int × List Int × Int × List Int × Int
abbrev A13 : ETy := (.cons (.int .i64) (.cons .str (.cons (.sl eSigned) (.cons .bool (.cons .str (.cons (.int .i64) (.cons (.int .i64) (.cons (.sl (.cons .str .nil)) (.cons (.int .i64) (.cons (.sl (.cons (.int .i64) .nil)) (.cons (.int .i64) (.cons .str (.cons (.int .i64) (.cons (.int .i64) (.cons (.sl (.cons .str .nil)) (.cons .str (.cons (.int .i64) (.cons (.int .i64) (.cons (.sl (.cons .str .nil)) (.cons (.int .i64) (.cons (.sl (.cons (.int .i64) .nil)) (.cons (.int .i64) (.cons (.sl (.cons (.int .i64) .nil)) (.cons (.int .i64) .nil))))))))))))))))))))))))
abbrev fl13 (x0 : Int) (x1 : ByteArray) (x2 : TAnswer) (x3 : Int) : D13 := (x0, x1, x2.1, x2.2.1, x2.2.2.1, x2.2.2.2.1, x2.2.2.2.2.1, x2.2.2.2.2.2.1, x2.2.2.2.2.2.2.1, x2.2.2.2.2.2.2.2.1, x2.2.2.2.2.2.2.2.2.1, x2.2.2.2.2.2.2.2.2.2.1, x2.2.2.2.2.2.2.2.2.2.2.1, x2.2.2.2.2.2.2.2.2.2.2.2.1, x2.2.2.2.2.2.2.2.2.2.2.2.2.1, x2.2.2.2.2.2.2.2.2.2.2.2.2.2.1, x2.2.2.2.2.2.2.2.2.2.2.2.2.2.2.1, x2.2.2.2.2.2.2.2.2.2.2.2.2.2.2.2.1, x2.2.2.2.2.2.2.2.2.2.2.2.2.2.2.2.2.1, x2.2.2.2.2.2.2.2.2.2.2.2.2.2.2.2.2.2.1, x2.2.2.2.2.2.2.2.2.2.2.2.2.2.2.2.2.2.2.1, x2.2.2.2.2.2.2.2.2.2.2.2.2.2.2.2.2.2.2.2.1, x2.2.2.2.2.2.2.2.2.2.2.2.2.2.2.2.2.2.2.2.2, x3)
abbrev p13_0 (x : D13) : Int := x.1
abbrev p13_1 (x : D13) : ByteArray := x.2.1
abbrev p13_2 (x : D13) : TAnswer := (x.2.2.1, x.2.2.2.1, x.2.2.2.2.1, x.2.2.2.2.2.1, x.2.2.2.2.2.2.1, x.2.2.2.2.2.2.2.1, x.2.2.2.2.2.2.2.2.1, x.2.2.2.2.2.2.2.2.2.1, x.2.2.2.2.2.2.2.2.2.2.1, x.2.2.2.2.2.2.2.2.2.2.2.1, x.2.2.2.2.2.2.2.2.2.2.2.2.1, x.2.2.2.2.2.2.2.2.2.2.2.2.2.1, x.2.2.2.2.2.2.2.2.2.2.2.2.2.2.1, x.2.2.2.2.2.2.2.2.2.2.2.2.2.2.2.1, x.2.2.2.2.2.2.2.2.2.2.2.2.2.2.2.2.1, x.2.2.2.2.2.2.2.2.2.2.2.2.2.2.2.2.2.1, x.2.2.2.2.2.2.2.2.2.2.2.2.2.2.2.2.2.2.1, x.2.2.2.2.2.2.2.2.2.2.2.2.2.2.2.2.2.2.2.1, x.2.2.2.2.2.2.2.2.2.2.2.2.2.2.2.2.2.2.2.2.1, x.2.2.2.2.2.2.2.2.2.2.2.2.2.2.2.2.2.2.2.2.2.1, x.2.2.2.2.2.2.2.2.2.2.2.2.2.2.2.2.2.2.2.2.2.2.1)
abbrev p13_3 (x : D13) : Int := x.2.2.2.2.2.2.2.2.2.2.2.2.2.2.2.2.2.2.2.2.2.2.2
abbrev D14 : Type := Int × Int × Int × Int × Int × Int × Int × Int × List Int × Int × List Int × Int × Int × List Int × Int × Bool × List TSig × List Int × Int
abbrev A14 : ETy := (.cons (.int .i64) (.cons (.int .i64) (.cons (.int .i64) (.cons (.int .i64) (.cons (.int .i64) (.cons (.int .i64) (.cons (.int .i64) (.cons (.int .i64) (.cons (.sl (.cons (.int .i64) .nil)) (.cons (.int .i64) (.cons (.sl (.cons (.int .i64) .nil)) (.cons (.int .i64) (.cons (.int .i64) (.cons (.sl (.cons (.int .i64) .nil)) (.cons (.int .i64) (.cons .bool (.cons (.sl (.cons (.int .i64) (.cons (.int .i64) .nil))) (.cons (.sl (.cons (.int .i64) .nil)) (.cons (.int .i64) .nil)))))))))))))))))))
abbrev fl14 (x0 : TSigned) (x1 : TKeys) : D14 := (x0.1, x0.2.1, x0.2.2.1, x0.2.2.2.1, x0.2.2.2.2.1, x0.2.2.2.2.2.1, x0.2.2.2.2.2.2.1, x0.2.2.2.2.2.2.2.1, x0.2.2.2.2.2.2.2.2.1, x0.2.2.2.2.2.2.2.2.2.1, x0.2.2.2.2.2.2.2.2.2.2.1, x0.2.2.2.2.2.2.2.2.2.2.2.1, x0.2.2.2.2.2.2.2.2.2.2.2.2.1, x0.2.2.2.2.2.2.2.2.2.2.2.2.2.1, x0.2.2.2.2.2.2.2.2.2.2.2.2.2.2.1, x0.2.2.2.2.2.2.2.2.2.2.2.2.2.2.2.1, x0.2.2.2.2.2.2.2.2.2.2.2.2.2.2.2.2, x1.1, x1.2)
abbrev p14_0 (x : D14) : TSigned := (x.1, x.2.1, x.2.2.1, x.2.2.2.1, x.2.2.2.2.1, x.2.2.2.2.2.1, x.2.2.2.2.2.2.1, x.2.2.2.2.2.2.2.1, x.2.2.2.2.2.2.2.2.1, x.2.2.2.2.2.2.2.2.2.1, x.2.2.2.2.2.2.2.2.2.2.1, x.2.2.2.2.2.2.2.2.2.2.2.1, x.2.2.2.2.2.2.2.2.2.2.2.2.1, x.2.2.2.2.2.2.2.2.2.2.2.2.2.1, x.2.2.2.2.2.2.2.2.2.2.2.2.2.2.1, x.2.2.2.2.2.2.2.2.2.2.2.2.2.2.2.1, x.2.2.2.2.2.2.2.2.2.2.2.2.2.2.2.2.1)
abbrev p14_1 (x : D14) : TKeys := x.2.2.2.2.2.2.2.2.2.2.2.2.2.2.2.2.2
abbrev D15 : Type := Int × Int × Int × Int × Int × Int × Int × Int × List Int × Int × List Int × Int × Int × List Int × Int × Bool × List TSig × Int × Int × Int × Int × Int × Int × Int × Int × List Int × Int × List Int × Int × Int × List Int × Int × Bool × List TSig
abbrev A15 : ETy := (.cons (.int .i64) (.cons (.int .i64) (.cons (.int .i64) (.cons (.int .i64) (.cons (.int .i64) (.cons (.int .i64) (.cons (.int .i64) (.cons (.int .i64) (.cons (.sl (.cons (.int .i64) .nil)) (.cons (.int .i64) (.cons (.sl (.cons (.int .i64) .nil)) (.cons (.int .i64) (.cons (.int .i64) (.cons (.sl (.cons (.int .i64) .nil)) (.cons (.int .i64) (.cons .bool (.cons (.sl (.cons (.int .i64) (.cons (.int .i64) .nil))) (.cons (.int .i64) (.cons (.int .i64) (.cons (.int .i64) (.cons (.int .i64) (.cons (.int .i64) (.cons (.int .i64) (.cons (.int .i64) (.cons (.int .i64) (.cons (.sl (.cons (.int .i64) .nil)) (.cons (.int .i64) (.cons (.sl (.cons (.int .i64) .nil)) (.cons (.int .i64) (.cons (.int .i64) (.cons (.sl (.cons (.int .i64) .nil)) (.cons (.int .i64) (.cons .bool (.cons (.sl (.cons (.int .i64) (.cons (.int .i64) .nil))) .nil))))))))))))))))))))))))))))))))))
abbrev fl15 (x0 : TSigned) (x1 : TSigned) : D15 := (x0.1, x0.2.1, x0.2.2.1, x0.2.2.2.1, x0.2.2.2.2.1, x0.2.2.2.2.2.1, x0.2.2.2.2.2.2.1, x0.2.2.2.2.2.2.2.1, x0.2.2.2.2.2.2.2.2.1, x0.2.2.2.2.2.2.2.2.2.1, x0.2.2.2.2.2.2.2.2.2.2.1, x0.2.2.2.2.2.2.2.2.2.2.2.1, x0.2.2.2.2.2.2.2.2.2.2.2.2.1, x0.2.2.2.2.2.2.2.2.2.2.2.2.2.1, x0.2.2.2.2.2.2.2.2.2.2.2.2.2.2.1, x0.2.2.2.2.2.2.2.2.2.2.2.2.2.2.2.1, x0.2.2.2.2.2.2.2.2.2.2.2.2.2.2.2.2, x1.1, x1.2.1, x1.2.2.1, x1.2.2.2.1, x1.2.2.2.2.1, x1.2.2.2.2.2.1, x1.2.2.2.2.2.2.1, x1.2.2.2.2.2.2.2.1, x1.2.2.2.2.2.2.2.2.1, x1.2.2.2.2.2.2.2.2.2.1, x1.2.2.2.2.2.2.2.2.2.2.1, x1.2.2.2.2.2.2.2.2.2.2.2.1, x1.2.2.2.2.2.2.2.2.2.2.2.2.1, x1.2.2.2.2.2.2.2.2.2.2.2.2.2.1, x1.2.2.2.2.2.2.2.2.2.2.2.2.2.2.1, x1.2.2.2.2.2.2.2.2.2.2.2.2.2.2.2.1, x1.2.2.2.2.2.2.2.2.2.2.2.2.2.2.2.2)
abbrev p15_0 (x : D15) : TSigned := (x.1, x.2.1, x.2.2.1, x.2.2.2.1, x.2.2.2.2.1, x.2.2.2.2.2.1, x.2.2.2.2.2.2.1, x.2.2.2.2.2.2.2.1, x.2.2.2.2.2.2.2.2.1, x.2.2.2.2.2.2.2.2.2.1, x.2.2.2.2.2.2.2.2.2.2.1, x.2.2.2.2.2.2.2.2.2.2.2.1, x.2.2.2.2.2.2.2.2.2.2.2.2.1, x.2.2.2.2.2.2.2.2.2.2.2.2.2.1, x.2.2.2.2.2.2.2.2.2.2.2.2.2.2.1, x.2.2.2.2.2.2.2.2.2.2.2.2.2.2.2.1, x.2.2.2.2.2.2.2.2.2.2.2.2.2.2.2.2.1)
abbrev p15_1 (x : D15) : TSigned := x.2.2.2.2.2.2.2.2.2.2.2.2.2.2.2.2.2
abbrev D16 : Type := List TSigned × Bool × ByteArray × Int × Int × List ByteArray × Int × List Int × Int × ByteArray × Int × Int × List ByteArray × ByteArray × Int × Int × List ByteArray × Int × List Int × Int × List Int × List TSigned × Bool × ByteArray × Int × Int × List ByteArray × Int × List Int × Int × ByteArray × Int × Int × List ByteArray × ByteArray × Int × Int × List ByteArray × Int × List Int × Int × List Int
abbrev A16 : ETy := (.cons (.sl eSigned) (.cons .bool (.cons .str (.cons (.int .i64) (.cons (.int .i64) (.cons (.sl (.cons .str .nil)) (.cons (.int .i64) (.cons (.sl (.cons (.int .i64) .nil)) (.cons (.int .i64) (.cons .str (.cons (.int .i64) (.cons (.int .i64) (.cons (.sl (.cons .str .nil)) (.cons .str (.cons (.int .i64) (.cons (.int .i64) (.cons (.sl (.cons .str .nil)) (.cons (.int .i64) (.cons (.sl (.cons (.int .i64) .nil)) (.cons (.int .i64) (.cons (.sl (.cons (.int .i64) .nil)) (.cons (.sl eSigned) (.cons .bool (.cons .str (.cons (.int .i64) (.cons (.int .i64) (.cons (.sl (.cons .str .nil)) (.cons (.int .i64) (.cons (.sl (.cons (.int .i64) .nil)) (.cons (.int .i64) (.cons .str (.cons (.int .i64) (.cons (.int .i64) (.cons (.sl (.cons .str .nil)) (.cons .str (.cons (.int .i64) (.cons (.int .i64) (.cons (.sl (.cons .str .nil)) (.cons (.int .i64) (.cons (.sl (.cons (.int .i64) .nil)) (.cons (.int .i64) (.cons (.sl (.cons (.int .i64) .nil)) .nil))))))))))))))))))))))))))))))))))))))))))
abbrev fl16 (x0 : TAnswer) (x1 : TAnswer) : D16 := (x0.1, x0.2.1, x0.2.2.1, x0.2.2.2.1, x0.2.2.2.2.1, x0.2.2.2.2.2.1, x0.2.2.2.2.2.2.1, x0.2.2.2.2.2.2.2.1, x0.2.2.2.2.2.2.2.2.1, x0.2.2.2.2.2.2.2.2.2.1, x0.2.2.2.2.2.2.2.2.2.2.1, x0.2.2.2.2.2.2.2.2.2.2.2.1, x0.2.2.2.2.2.2.2.2.2.2.2.2.1, x0.2.2.2.2.2.2.2.2.2.2.2.2.2.1, x0.2.2.2.2.2.2.2.2.2.2.2.2.2.2.1, x0.2.2.2.2.2.2.2.2.2.2.2.2.2.2.2.1, x0.2.2.2.2.2.2.2.2.2.2.2.2.2.2.2.2.1, x0.2.2.2.2.2.2.2.2.2.2.2.2.2.2.2.2.2.1, x0.2.2.2.2.2.2.2.2.2.2.2.2.2.2.2.2.2.2.1, x0.2.2.2.2.2.2.2.2.2.2.2.2.2.2.2.2.2.2.2.1, x0.2.2.2.2.2.2.2.2.2.2.2.2.2.2.2.2.2.2.2.2, x1.1, x1.2.1, x1.2.2.1, x1.2.2.2.1, x1.2.2.2.2.1, x1.2.2.2.2.2.1, x1.2.2.2.2.2.2.1, x1.2.2.2.2.2.2.2.1, x1.2.2.2.2.2.2.2.2.1, x1.2.2.2.2.2.2.2.2.2.1, x1.2.2.2.2.2.2.2.2.2.2.1, x1.2.2.2.2.2.2.2.2.2.2.2.1, x1.2.2.2.2.2.2.2.2.2.2.2.2.1, x1.2.2.2.2.2.2.2.2.2.2.2.2.2.1, x1.2.2.2.2.2.2.2.2.2.2.2.2.2.2.1, x1.2.2.2.2.2.2.2.2.2.2.2.2.2.2.2.1, x1.2.2.2.2.2.2.2.2.2.2.2.2.2.2.2.2.1, x1.2.2.2.2.2.2.2.2.2.2.2.2.2.2.2.2.2.1, x1.2.2.2.2.2.2.2.2.2.2.2.2.2.2.2.2.2.2.1, x1.2.2.2.2.2.2.2.2.2.2.2.2.2.2.2.2.2.2.2.1, x1.2.2.2.2.2.2.2.2.2.2.2.2.2.2.2.2.2.2.2.2)
abbrev p16_0 (x : D16) : TAnswer := (x.1, x.2.1, x.2.2.1, x.2.2.2.1, x.2.2.2.2.1, x.2.2.2.2.2.1, x.2.2.2.2.2.2.1, x.2.2.2.2.2.2.2.1, x.2.2.2.2.2.2.2.2.1, x.2.2.2.2.2.2.2.2.2.1, x.2.2.2.2.2.2.2.2.2.2.1, x.2.2.2.2.2.2.2.2.2.2.2.1, x.2.2.2.2.2.2.2.2.2.2.2.2.1, x.2.2.2.2.2.2.2.2.2.2.2.2.2.1, x.2.2.2.2.2.2.2.2.2.2.2.2.2.2.1, x.2.2.2.2.2.2.2.2.2.2.2.2.2.2.2.1, x.2.2.2.2.2.2.2.2.2.2.2.2.2.2.2.2.1, x.2.2.2.2.2.2.2.2.2.2.2.2.2.2.2.2.2.1, x.2.2.2.2.2.2.2.2.2.2.2.2.2.2.2.2.2.2.1, x.2.2.2.2.2.2.2.2.2.2.2.2.2.2.2.2.2.2.2.1, x.2.2.2.2.2.2.2.2.2.2.2.2.2.2.2.2.2.2.2.2.1)
abbrev p16_1 (x : D16) : TAnswer := x.2.2.2.2.2.2.2.2.2.2.2.2.2.2.2.2.2.2.2.2.2
abbrev tys : List (Nat × TI) := [(3, ⟨.int .i64, false, [.val (.int .i64 (0 : Int))], 8, [], (.cons (.int .i64) .nil)⟩),
  (4, ⟨.bool, false, [.val (.bool false)], 1, [], (.cons .bool .nil)⟩),
  (5, ⟨.int .u8, false, [.val (.int .u8 (0 : Int))], 1, [], (.cons (.int .u8) .nil)⟩),
  (9, ⟨.str, false, [.val (.str (⟨#[]⟩ : ByteArray))], 16, [], (.cons .str .nil)⟩),
  (22, ⟨.sl 3, false, [.nil0], 24, [], (.cons (.sl (.cons (.int .i64) .nil)) .nil)⟩),
  (24, ⟨.st, false, [.nil0, .val (.int .i64 (0 : Int))], 32, [(0, 1, false), (1, 1, false)], (.cons (.sl (.cons (.int .i64) .nil)) (.cons (.int .i64) .nil))⟩),
  (26, ⟨.st, false, [.val (.int .i64 (0 : Int)), .val (.int .i64 (0 : Int)), .val (.int .i64 (0 : Int)), .val (.int .i64 (0 : Int)), .val (.int .i64 (0 : Int)), .val (.int .i64 (0 : Int)), .val (.int .i64 (0 : Int)), .val (.int .i64 (0 : Int)), .nil0, .val (.int .i64 (0 : Int)), .nil0, .val (.int .i64 (0 : Int)), .val (.int .i64 (0 : Int)), .nil0, .val (.int .i64 (0 : Int)), .val (.bool false)], 176, [(0, 1, false), (1, 1, false), (2, 1, false), (3, 1, false), (4, 1, false), (5, 1, false), (6, 1, false), (7, 1, false), (8, 2, true), (10, 2, true), (12, 1, false), (13, 2, true), (15, 1, false)], V.eHead⟩),
  (30, ⟨.st, false, [.nil0, .val (.int .i64 (0 : Int))], 32, [(0, 1, false), (1, 1, false)], (.cons (.sl (.cons (.int .i64) .nil)) (.cons (.int .i64) .nil))⟩),
  (32, ⟨.st, false, [.val (.int .i64 (0 : Int)), .val (.int .i64 (0 : Int)), .val (.int .i64 (0 : Int)), .val (.int .i64 (0 : Int)), .val (.int .i64 (0 : Int)), .val (.int .i64 (0 : Int)), .val (.int .i64 (0 : Int)), .val (.int .i64 (0 : Int)), .nil0, .val (.int .i64 (0 : Int)), .nil0, .val (.int .i64 (0 : Int)), .val (.int .i64 (0 : Int)), .nil0, .val (.int .i64 (0 : Int)), .val (.bool false)], 176, [(0, 1, false), (1, 1, false), (2, 1, false), (3, 1, false), (4, 1, false), (5, 1, false), (6, 1, false), (7, 1, false), (8, 2, true), (10, 2, true), (12, 1, false), (13, 2, true), (15, 1, false)], V.eHead⟩),
  (36, ⟨.sl 117, false, [.nil0], 24, [], (.cons (.sl V.eEntry) .nil)⟩),
  (43, ⟨.sl 154, false, [.nil0], 24, [], (.cons (.sl V.eSigned) .nil)⟩),
  (45, ⟨.sl 67, false, [.nil0], 24, [], (.cons (.sl (.cons (.int .i64) (.cons (.int .i64) .nil))) .nil)⟩),
  (47, ⟨.st, false, [.val (.int .i64 (0 : Int)), .val (.int .i64 (0 : Int)), .val (.int .i64 (0 : Int)), .val (.int .i64 (0 : Int)), .val (.int .i64 (0 : Int)), .val (.int .i64 (0 : Int)), .val (.int .i64 (0 : Int)), .val (.int .i64 (0 : Int)), .nil0, .val (.int .i64 (0 : Int)), .nil0, .val (.int .i64 (0 : Int)), .val (.int .i64 (0 : Int)), .nil0, .val (.int .i64 (0 : Int)), .val (.bool false), .nil0], 200, [(0, 16, true), (16, 1, false)], V.eSigned⟩),
  (52, ⟨.sl 47, false, [.nil0], 24, [], (.cons (.sl V.eSigned) .nil)⟩),
  (67, ⟨.st, true, [.val (.int .i64 (0 : Int)), .val (.int .i64 (0 : Int))], 16, [(0, 1, false), (1, 1, false)], (.cons (.int .i64) (.cons (.int .i64) .nil))⟩),
  (106, ⟨.sl 9, false, [.nil0], 24, [], (.cons (.sl (.cons .str .nil)) .nil)⟩),
  (108, ⟨.st, false, [.val (.str (⟨#[]⟩ : ByteArray)), .val (.int .i64 (0 : Int)), .val (.int .i64 (0 : Int)), .nil0], 56, [(0, 1, false), (1, 1, false), (2, 1, false), (3, 1, false)], V.eEntry⟩),
  (110, ⟨.st, false, [.val (.int .i64 (0 : Int)), .nil0], 32, [(0, 1, false), (1, 1, false)], (.cons (.int .i64) (.cons (.sl (.cons (.int .i64) .nil)) .nil))⟩),
  (112, ⟨.st, false, [.val (.int .i64 (0 : Int)), .val (.str (⟨#[]⟩ : ByteArray)), .val (.int .i64 (0 : Int)), .val (.int .i64 (0 : Int)), .nil0, .val (.str (⟨#[]⟩ : ByteArray)), .val (.int .i64 (0 : Int)), .val (.int .i64 (0 : Int)), .nil0, .val (.int .i64 (0 : Int)), .nil0, .val (.int .i64 (0 : Int)), .nil0], 184, [(0, 1, false), (1, 4, true), (5, 4, true), (9, 2, true), (11, 2, true)], V.eGap⟩),
  (114, ⟨.st, false, [.nil0, .val (.bool false), .val (.str (⟨#[]⟩ : ByteArray)), .val (.int .i64 (0 : Int)), .val (.int .i64 (0 : Int)), .nil0, .val (.int .i64 (0 : Int)), .nil0, .val (.int .i64 (0 : Int)), .val (.str (⟨#[]⟩ : ByteArray)), .val (.int .i64 (0 : Int)), .val (.int .i64 (0 : Int)), .nil0, .val (.str (⟨#[]⟩ : ByteArray)), .val (.int .i64 (0 : Int)), .val (.int .i64 (0 : Int)), .nil0, .val (.int .i64 (0 : Int)), .nil0, .val (.int .i64 (0 : Int)), .nil0], 304, [(0, 1, false), (1, 1, false), (2, 4, true), (6, 2, true), (8, 13, true)], V.eAnswer⟩),
  (117, ⟨.st, false, [.val (.str (⟨#[]⟩ : ByteArray)), .val (.int .i64 (0 : Int)), .val (.int .i64 (0 : Int)), .nil0], 56, [(0, 1, false), (1, 1, false), (2, 1, false), (3, 1, false)], V.eEntry⟩),
  (118, ⟨.st, false, [.val (.int .i64 (0 : Int)), .nil0], 32, [(0, 1, false), (1, 1, false)], (.cons (.int .i64) (.cons (.sl (.cons (.int .i64) .nil)) .nil))⟩),
  (120, ⟨.st, false, [.val (.int .i64 (0 : Int)), .val (.str (⟨#[]⟩ : ByteArray)), .val (.int .i64 (0 : Int)), .val (.int .i64 (0 : Int)), .nil0, .val (.str (⟨#[]⟩ : ByteArray)), .val (.int .i64 (0 : Int)), .val (.int .i64 (0 : Int)), .nil0, .val (.int .i64 (0 : Int)), .nil0, .val (.int .i64 (0 : Int)), .nil0], 184, [(0, 1, false), (1, 4, true), (5, 4, true), (9, 2, true), (11, 2, true)], V.eGap⟩),
  (122, ⟨.st, false, [.nil0, .val (.bool false), .val (.str (⟨#[]⟩ : ByteArray)), .val (.int .i64 (0 : Int)), .val (.int .i64 (0 : Int)), .nil0, .val (.int .i64 (0 : Int)), .nil0, .val (.int .i64 (0 : Int)), .val (.str (⟨#[]⟩ : ByteArray)), .val (.int .i64 (0 : Int)), .val (.int .i64 (0 : Int)), .nil0, .val (.str (⟨#[]⟩ : ByteArray)), .val (.int .i64 (0 : Int)), .val (.int .i64 (0 : Int)), .nil0, .val (.int .i64 (0 : Int)), .nil0, .val (.int .i64 (0 : Int)), .nil0], 304, [(0, 1, false), (1, 1, false), (2, 4, true), (6, 2, true), (8, 13, true)], V.eAnswer⟩),
  (152, ⟨.sl 248, false, [.nil0], 24, [], (.cons (.sl (.cons (.int .i64) (.cons (.int .i64) .nil))) .nil)⟩),
  (154, ⟨.st, false, [.val (.int .i64 (0 : Int)), .val (.int .i64 (0 : Int)), .val (.int .i64 (0 : Int)), .val (.int .i64 (0 : Int)), .val (.int .i64 (0 : Int)), .val (.int .i64 (0 : Int)), .val (.int .i64 (0 : Int)), .val (.int .i64 (0 : Int)), .nil0, .val (.int .i64 (0 : Int)), .nil0, .val (.int .i64 (0 : Int)), .val (.int .i64 (0 : Int)), .nil0, .val (.int .i64 (0 : Int)), .val (.bool false), .nil0], 200, [(0, 16, true), (16, 1, false)], V.eSigned⟩),
  (216, ⟨.sl 5, false, [.nil0], 24, [], (.cons (.sl (.cons (.int .u8) .nil)) .nil)⟩),
  (248, ⟨.st, true, [.val (.int .i64 (0 : Int)), .val (.int .i64 (0 : Int))], 16, [(0, 1, false), (1, 1, false)], (.cons (.int .i64) (.cons (.int .i64) .nil))⟩),
  (261, ⟨.sl 22, false, [.nil0], 24, [], (.cons (.sl (.cons (.sl (.cons (.int .i64) .nil)) .nil)) .nil)⟩)]
theorem tysOk : tyAll Tryz.prog tys = true := by kernel_rfl
theorem mixed : Tryz.prog.follows .mixedOrders = true := by kernel_rfl
theorem cfl {α : Type} {a b c : α} (e : a = b) (h : a = c) : b = c := e.symm.trans h
theorem fo {g : Nat} {fn : Func} {con : Con} {tab : List (Nat × Con)} {heads : List (Nat × List Nat × Cv)} {pre : List (Nat × Nat)} {shallow : List Nat} {movs flts : List (Nat × List Nat)} (h : TabOk Tryz.prog tab) (hf : Tryz.prog.funcs[g]? = some fn) (hq : (!(fn.name == "runtime.NumGoroutine") && (!fn.body.isNone && conOk con fn.ntmps)) = true) (hev : ∀ x y, con.f x = some y → evBody (mkE tys tab heads pre shallow movs flts) con fn x = some y) : Valid Tryz.prog g con := by
  simp only [Bool.and_eq_true, Bool.not_eq_true'] at hq
  exact body_ok (env_ok mixed tysOk h) hf hq.1 hq.2.1 hq.2.2 hev
theorem fo2 {g : Nat} {fn : Func} {con : Con} {tab tab2 : List (Nat × Con)} {sites : List Nat} {heads : List (Nat × List Nat × Cv)} {pre : List (Nat × Nat)} {shallow : List Nat} {movs flts : List (Nat × List Nat)} (h : TabOk Tryz.prog tab) (h2 : TabOk Tryz.prog tab2) (hf : Tryz.prog.funcs[g]? = some fn) (hq : (!(fn.name == "runtime.NumGoroutine") && (!fn.body.isNone && conOk con fn.ntmps)) = true) (hev : ∀ x y, con.f x = some y → evBody (mkE2 tys tab sites tab2 heads pre shallow movs flts) con fn x = some y) : Valid Tryz.prog g con := by
  simp only [Bool.and_eq_true, Bool.not_eq_true'] at hq
  exact body_ok (env_ok2 mixed tysOk h h2) hf hq.1 hq.2.1 hq.2.2 hev
end V
noncomputable abbrev zq98.con : V.Con := ⟨(.cons (.sl (.cons (.int .i64) .nil)) (.cons (.int .i64) .nil)), (.cons (.int .i64) .nil), fun (x : List Int × Int) => zq98 x.1 x.2, [], [(false, 1), (false, 1)], [(false, 1)], [false], []⟩
noncomputable abbrev zq98.E : V.Env := V.mkE V.tys [] [] [] [] [] []
theorem zq98.eq (x0 : List Int) (x1 : Int) : V.evBody zq98.E zq98.con Tryz.f137 ((x0, x1) : List Int × Int) = zq98 x0 x1 := by kernel_rfl
theorem zq98.ok : V.Valid Tryz.prog 137 zq98.con :=
  V.fo V.tab_nil Tryz.func137 (by kernel_rfl) (fun x y h => (show V.evBody zq98.E zq98.con Tryz.f137 x = _ from zq98.eq x.1 x.2).trans (V.cfl (by kernel_rfl) h))
noncomputable abbrev zq99.con : V.Con := ⟨(.cons (.sl (.cons (.int .i64) .nil)) (.cons (.int .i64) (.cons (.int .i64) .nil))), (.cons (.int .i64) .nil), fun (x : List Int × Int × Int) => zq99 (x.1, x.2.1) x.2.2, [], [(true, 2), (false, 1)], [(false, 1)], [false], []⟩
noncomputable abbrev zq99.E : V.Env := V.mkE V.tys [(137, zq98.con)] [] [] [] [] []
theorem zq99.eq (x0 : TKeys) (x1 : Int) : V.evBody zq99.E zq99.con Tryz.f50 ((x0.1, x0.2, x1) : List Int × Int × Int) = zq99 x0 x1 := by kernel_rfl
theorem zq99.ok : V.Valid Tryz.prog 50 zq99.con :=
  V.fo (V.tab_cons zq98.ok V.tab_nil) Tryz.func50 (by kernel_rfl) (fun x y h => (show V.evBody zq99.E zq99.con Tryz.f50 x = _ from zq99.eq (x.1, x.2.1) x.2.2).trans (V.cfl (by kernel_rfl) h))
noncomputable abbrev zq97.con : V.Con := ⟨V.A0, (.cons (.int .i64) .nil), fun (x : V.D0) => zq97 (V.p0_0 x) (V.p0_1 x), [], [(true, 16), (false, 1)], [(false, 1)], [false], []⟩
noncomputable abbrev zq97.E : V.Env := V.mkE V.tys [(50, zq99.con)] [] [] [] [] []
noncomputable abbrev zq97.kt (x0 : THead) (x1 : Int) : V.Kt Int := V.ktOf zq97.E zq97.con Tryz.f15 (V.fl0 x0 x1)
noncomputable abbrev zq97.s (x0 : THead) (x1 : Int) : V.St := ⟨[(0, .v true [.val (.int .i64 x0.1), .val (.int .i64 x0.2.1), .val (.int .i64 x0.2.2.1), .val (.int .i64 x0.2.2.2.1), .val (.int .i64 x0.2.2.2.2.1), .val (.int .i64 x0.2.2.2.2.2.1), .val (.int .i64 x0.2.2.2.2.2.2.1), .val (.int .i64 x0.2.2.2.2.2.2.2.1), .val (.sl (.cons (.int .i64) .nil) x0.2.2.2.2.2.2.2.2.1), .val (.int .i64 x0.2.2.2.2.2.2.2.2.2.1), .val (.sl (.cons (.int .i64) .nil) x0.2.2.2.2.2.2.2.2.2.2.1), .val (.int .i64 x0.2.2.2.2.2.2.2.2.2.2.2.1), .val (.int .i64 x0.2.2.2.2.2.2.2.2.2.2.2.2.1), .val (.sl (.cons (.int .i64) .nil) x0.2.2.2.2.2.2.2.2.2.2.2.2.2.1), .val (.int .i64 x0.2.2.2.2.2.2.2.2.2.2.2.2.2.2.1), .val (.bool x0.2.2.2.2.2.2.2.2.2.2.2.2.2.2.2)]), (1, .v false [.val (.int .i64 x1)])], []⟩
theorem zq97.v0 (x0 : THead) (x1 : Int) : V.evBody zq97.E zq97.con Tryz.f15 (V.fl0 x0 x1) = V.evC zq97.E Tryz.f15.ntmps (V.codeOf Tryz.f15) (zq97.kt x0 x1) (zq97.s x0 x1) := by kernel_rfl
theorem zq97.v (x0 : THead) (x1 : Int) : V.evC zq97.E Tryz.f15.ntmps (V.codeOf Tryz.f15) (zq97.kt x0 x1) (zq97.s x0 x1) = zq97 x0 x1 := by kernel_rfl
theorem zq97.eq (x0 : THead) (x1 : Int) : V.evBody zq97.E zq97.con Tryz.f15 (V.fl0 x0 x1) = zq97 x0 x1 := (zq97.v0 x0 x1).trans (zq97.v x0 x1)
theorem zq97.ok : V.Valid Tryz.prog 15 zq97.con :=
  V.fo (V.tab_cons zq99.ok V.tab_nil) Tryz.func15 (by kernel_rfl) (fun x y h => (show V.evBody zq97.E zq97.con Tryz.f15 x = _ from zq97.eq (V.p0_0 x) (V.p0_1 x)).trans (V.cfl (by kernel_rfl) h))
noncomputable abbrev zq101.con : V.Con := ⟨(.cons (.sl (.cons (.int .i64) (.cons (.int .i64) .nil))) (.cons (.int .i64) .nil)), (.cons (.int .i64) .nil), fun (x : List TSig × Int) => zq101 x.1 x.2, [], [(false, 1), (false, 1)], [(false, 1)], [false], []⟩
noncomputable abbrev zq101.E : V.Env := V.mkE V.tys [] [] [] [] [] []
theorem zq101.eq (x0 : List TSig) (x1 : Int) : V.evBody zq101.E zq101.con Tryz.f202 ((x0, x1) : List TSig × Int) = zq101 x0 x1 := by kernel_rfl
theorem zq101.ok : V.Valid Tryz.prog 202 zq101.con :=
  V.fo V.tab_nil Tryz.func202 (by kernel_rfl) (fun x y h => (show V.evBody zq101.E zq101.con Tryz.f202 x = _ from zq101.eq x.1 x.2).trans (V.cfl (by kernel_rfl) h))
noncomputable abbrev zq102.con : V.Con := ⟨V.A1, (.cons (.int .i64) .nil), fun (x : V.D1) => zq102 (V.p1_0 x) (V.p1_1 x), [], [(true, 17), (false, 1)], [(false, 1)], [false], []⟩
noncomputable abbrev zq102.E : V.Env := V.mkE V.tys [(15, zq97.con), (202, zq101.con)] [] [] [] [] []
noncomputable abbrev zq102.kt (x0 : TSigned) (x1 : Int) : V.Kt Int := V.ktOf zq102.E zq102.con Tryz.f98 (V.fl1 x0 x1)
noncomputable abbrev zq102.s (x0 : TSigned) (x1 : Int) : V.St := ⟨[(0, .v true [.val (.int .i64 x0.1), .val (.int .i64 x0.2.1), .val (.int .i64 x0.2.2.1), .val (.int .i64 x0.2.2.2.1), .val (.int .i64 x0.2.2.2.2.1), .val (.int .i64 x0.2.2.2.2.2.1), .val (.int .i64 x0.2.2.2.2.2.2.1), .val (.int .i64 x0.2.2.2.2.2.2.2.1), .val (.sl (.cons (.int .i64) .nil) x0.2.2.2.2.2.2.2.2.1), .val (.int .i64 x0.2.2.2.2.2.2.2.2.2.1), .val (.sl (.cons (.int .i64) .nil) x0.2.2.2.2.2.2.2.2.2.2.1), .val (.int .i64 x0.2.2.2.2.2.2.2.2.2.2.2.1), .val (.int .i64 x0.2.2.2.2.2.2.2.2.2.2.2.2.1), .val (.sl (.cons (.int .i64) .nil) x0.2.2.2.2.2.2.2.2.2.2.2.2.2.1), .val (.int .i64 x0.2.2.2.2.2.2.2.2.2.2.2.2.2.2.1), .val (.bool x0.2.2.2.2.2.2.2.2.2.2.2.2.2.2.2.1), .val (.sl (.cons (.int .i64) (.cons (.int .i64) .nil)) x0.2.2.2.2.2.2.2.2.2.2.2.2.2.2.2.2)]), (1, .v false [.val (.int .i64 x1)])], []⟩
theorem zq102.v0 (x0 : TSigned) (x1 : Int) : V.evBody zq102.E zq102.con Tryz.f98 (V.fl1 x0 x1) = V.evC zq102.E Tryz.f98.ntmps (V.codeOf Tryz.f98) (zq102.kt x0 x1) (zq102.s x0 x1) := by kernel_rfl
theorem zq102.v (x0 : TSigned) (x1 : Int) : V.evC zq102.E Tryz.f98.ntmps (V.codeOf Tryz.f98) (zq102.kt x0 x1) (zq102.s x0 x1) = zq102 x0 x1 := by kernel_rfl
theorem zq102.eq (x0 : TSigned) (x1 : Int) : V.evBody zq102.E zq102.con Tryz.f98 (V.fl1 x0 x1) = zq102 x0 x1 := (zq102.v0 x0 x1).trans (zq102.v x0 x1)
theorem zq102.ok : V.Valid Tryz.prog 98 zq102.con :=
  V.fo (V.tab_cons zq97.ok (V.tab_cons zq101.ok V.tab_nil)) Tryz.func98 (by kernel_rfl) (fun x y h => (show V.evBody zq102.E zq102.con Tryz.f98 x = _ from zq102.eq (V.p1_0 x) (V.p1_1 x)).trans (V.cfl (by kernel_rfl) h))
noncomputable abbrev zq103.con : V.Con := ⟨(.cons (.sl V.eSigned) (.cons (.int .i64) .nil)), (.cons (.int .i64) .nil), fun (x : List TSigned × Int) => zq103 x.1 x.2, [], [(false, 1), (false, 1)], [(false, 1)], [false], []⟩
noncomputable abbrev zq103.E : V.Env := V.mkE V.tys [(98, zq102.con)] [(10, [0, 1, 5], [])] [] [] [] []
noncomputable abbrev zq103.kt (x0 : List TSigned) (x1 : Int) : V.Kt Int := V.ktOf zq103.E zq103.con Tryz.f26 ((x0, x1) : List TSigned × Int)
noncomputable abbrev zq103.s10 (x0 : List TSigned) (v10_1 : Int) (v10_2 : Int) : V.St := ⟨[(0, .v false [.val (.sl V.eSigned x0)]), (1, .v false [.val (.int .i64 v10_1)]), (5, .v false [.val (.int .i64 v10_2)])], []⟩
theorem zq103.r10 (x0 : List TSigned) (x1 : Int) (R : V.St → Option Int) (v10_1 : Int) (v10_2 : Int) : V.loopF zq103.E Tryz.f26.ntmps [1, 1, 1, 0, 1, 0] [] (V.codeOf Tryz.f26) (zq103.kt x0 x1) R (zq103.s10 x0 v10_1 v10_2) = zq103.g10 x0 (fun v10_1 v10_2 => R (zq103.s10 x0 v10_1 v10_2)) v10_1 v10_2 := by kernel_rfl
theorem zq103.e10 (x0 : List TSigned) (x1 : Int) : ∀ (n : Nat) (v10_1 : Int) (v10_2 : Int), V.loopN (V.loopF zq103.E Tryz.f26.ntmps [1, 1, 1, 0, 1, 0] [] (V.codeOf Tryz.f26) (zq103.kt x0 x1)) n (zq103.s10 x0 v10_1 v10_2) = zq103.l10 x0 n v10_1 v10_2 := by
  intro n
  induction n with
  | zero => intros; rw [V.loopN_z]; rfl
  | succ n ih =>
    intro v10_1 v10_2
    rw [V.loopN_s, zq103.r10]
    simp only [ih]
    first | exact (zq103.u10 ..).symm | rfl
theorem zq103.v (x0 : List TSigned) (x1 : Int) : V.evBody zq103.E zq103.con Tryz.f26 ((x0, x1) : List TSigned × Int) = zq103.b x0 x1 (fun v10_1 v10_2 => V.loopN (V.loopF zq103.E Tryz.f26.ntmps [1, 1, 1, 0, 1, 0] [] (V.codeOf Tryz.f26) (zq103.kt x0 x1)) V.KK (zq103.s10 x0 v10_1 v10_2)) := by kernel_rfl
theorem zq103.eq (x0 : List TSigned) (x1 : Int) : V.evBody zq103.E zq103.con Tryz.f26 ((x0, x1) : List TSigned × Int) = zq103 x0 x1 := by
  rw [zq103.v]
  simp only [zq103.e10]
  rfl
theorem zq103.ok : V.Valid Tryz.prog 26 zq103.con :=
  V.fo (V.tab_cons zq102.ok V.tab_nil) Tryz.func26 (by kernel_rfl) (fun x y h => (show V.evBody zq103.E zq103.con Tryz.f26 x = _ from zq103.eq x.1 x.2).trans (V.cfl (by kernel_rfl) h))
noncomputable abbrev zq104.con : V.Con := ⟨(.cons (.sl (.cons .str .nil)) (.cons (.int .i64) .nil)), (.cons (.int .i64) .nil), fun (x : List ByteArray × Int) => zq104 x.1 x.2, [], [(false, 1), (false, 1)], [(false, 1)], [false], []⟩
noncomputable abbrev zq104.E : V.Env := V.mkE V.tys [] [(10, [0, 1, 5], [])] [] [] [] []
noncomputable abbrev zq104.kt (x0 : List ByteArray) (x1 : Int) : V.Kt Int := V.ktOf zq104.E zq104.con Tryz.f182 ((x0, x1) : List ByteArray × Int)
noncomputable abbrev zq104.s10 (x0 : List ByteArray) (v10_1 : Int) (v10_2 : Int) : V.St := ⟨[(0, .v false [.val (.sl (.cons .str .nil) x0)]), (1, .v false [.val (.int .i64 v10_1)]), (5, .v false [.val (.int .i64 v10_2)])], []⟩
theorem zq104.r10 (x0 : List ByteArray) (x1 : Int) (R : V.St → Option Int) (v10_1 : Int) (v10_2 : Int) : V.loopF zq104.E Tryz.f182.ntmps [1, 1, 1, 0, 1, 0] [] (V.codeOf Tryz.f182) (zq104.kt x0 x1) R (zq104.s10 x0 v10_1 v10_2) = zq104.g10 x0 (fun v10_1 v10_2 => R (zq104.s10 x0 v10_1 v10_2)) v10_1 v10_2 := by kernel_rfl
theorem zq104.e10 (x0 : List ByteArray) (x1 : Int) : ∀ (n : Nat) (v10_1 : Int) (v10_2 : Int), V.loopN (V.loopF zq104.E Tryz.f182.ntmps [1, 1, 1, 0, 1, 0] [] (V.codeOf Tryz.f182) (zq104.kt x0 x1)) n (zq104.s10 x0 v10_1 v10_2) = zq104.l10 x0 n v10_1 v10_2 := by
  intro n
  induction n with
  | zero => intros; rw [V.loopN_z]; rfl
  | succ n ih =>
    intro v10_1 v10_2
    rw [V.loopN_s, zq104.r10]
    simp only [ih]
    first | exact (zq104.u10 ..).symm | rfl
theorem zq104.v (x0 : List ByteArray) (x1 : Int) : V.evBody zq104.E zq104.con Tryz.f182 ((x0, x1) : List ByteArray × Int) = zq104.b x0 x1 (fun v10_1 v10_2 => V.loopN (V.loopF zq104.E Tryz.f182.ntmps [1, 1, 1, 0, 1, 0] [] (V.codeOf Tryz.f182) (zq104.kt x0 x1)) V.KK (zq104.s10 x0 v10_1 v10_2)) := by kernel_rfl
theorem zq104.eq (x0 : List ByteArray) (x1 : Int) : V.evBody zq104.E zq104.con Tryz.f182 ((x0, x1) : List ByteArray × Int) = zq104 x0 x1 := by
  rw [zq104.v]
  simp only [zq104.e10]
  rfl
theorem zq104.ok : V.Valid Tryz.prog 182 zq104.con :=
  V.fo V.tab_nil Tryz.func182 (by kernel_rfl) (fun x y h => (show V.evBody zq104.E zq104.con Tryz.f182 x = _ from zq104.eq x.1 x.2).trans (V.cfl (by kernel_rfl) h))
noncomputable abbrev zq95.con : V.Con := ⟨(.cons .str (.cons (.int .i64) (.cons (.int .i64) (.cons (.sl (.cons .str .nil)) (.cons (.int .i64) .nil))))), (.cons (.int .i64) .nil), fun (x : ByteArray × Int × Int × List ByteArray × Int) => zq95 (x.1, x.2.1, x.2.2.1, x.2.2.2.1) x.2.2.2.2, [], [(true, 4), (false, 1)], [(false, 1)], [false], []⟩
noncomputable abbrev zq95.E : V.Env := V.mkE V.tys [(182, zq104.con)] [] [] [] [] []
theorem zq95.eq (x0 : TEntry) (x1 : Int) : V.evBody zq95.E zq95.con Tryz.f85 ((x0.1, x0.2.1, x0.2.2.1, x0.2.2.2, x1) : ByteArray × Int × Int × List ByteArray × Int) = zq95 x0 x1 := by kernel_rfl
theorem zq95.ok : V.Valid Tryz.prog 85 zq95.con :=
  V.fo (V.tab_cons zq104.ok V.tab_nil) Tryz.func85 (by kernel_rfl) (fun x y h => (show V.evBody zq95.E zq95.con Tryz.f85 x = _ from zq95.eq (x.1, x.2.1, x.2.2.1, x.2.2.2.1) x.2.2.2.2).trans (V.cfl (by kernel_rfl) h))
noncomputable abbrev zq100.con : V.Con := ⟨(.cons (.int .i64) (.cons (.sl (.cons (.int .i64) .nil)) (.cons (.int .i64) .nil))), (.cons (.int .i64) .nil), fun (x : Int × List Int × Int) => zq100 (x.1, x.2.1) x.2.2, [], [(true, 2), (false, 1)], [(false, 1)], [false], []⟩
noncomputable abbrev zq100.E : V.Env := V.mkE V.tys [(137, zq98.con)] [] [] [] [] []
theorem zq100.eq (x0 : TProof) (x1 : Int) : V.evBody zq100.E zq100.con Tryz.f155 ((x0.1, x0.2, x1) : Int × List Int × Int) = zq100 x0 x1 := by kernel_rfl
theorem zq100.ok : V.Valid Tryz.prog 155 zq100.con :=
  V.fo (V.tab_cons zq98.ok V.tab_nil) Tryz.func155 (by kernel_rfl) (fun x y h => (show V.evBody zq100.E zq100.con Tryz.f155 x = _ from zq100.eq (x.1, x.2.1) x.2.2).trans (V.cfl (by kernel_rfl) h))
noncomputable abbrev zq96.con : V.Con := ⟨V.A2, (.cons (.int .i64) .nil), fun (x : V.D2) => zq96 (V.p2_0 x) (V.p2_1 x), [], [(true, 13), (false, 1)], [(false, 1)], [false], []⟩
noncomputable abbrev zq96.E : V.Env := V.mkE V.tys [(85, zq95.con), (155, zq100.con)] [] [] [] [] []
noncomputable abbrev zq96.kt (x0 : TGap) (x1 : Int) : V.Kt Int := V.ktOf zq96.E zq96.con Tryz.f156 (V.fl2 x0 x1)
noncomputable abbrev zq96.s (x0 : TGap) (x1 : Int) : V.St := ⟨[(0, .v true [.val (.int .i64 x0.1), .val (.str x0.2.1), .val (.int .i64 x0.2.2.1), .val (.int .i64 x0.2.2.2.1), .val (.sl (.cons .str .nil) x0.2.2.2.2.1), .val (.str x0.2.2.2.2.2.1), .val (.int .i64 x0.2.2.2.2.2.2.1), .val (.int .i64 x0.2.2.2.2.2.2.2.1), .val (.sl (.cons .str .nil) x0.2.2.2.2.2.2.2.2.1), .val (.int .i64 x0.2.2.2.2.2.2.2.2.2.1), .val (.sl (.cons (.int .i64) .nil) x0.2.2.2.2.2.2.2.2.2.2.1), .val (.int .i64 x0.2.2.2.2.2.2.2.2.2.2.2.1), .val (.sl (.cons (.int .i64) .nil) x0.2.2.2.2.2.2.2.2.2.2.2.2)]), (1, .v false [.val (.int .i64 x1)])], []⟩
theorem zq96.v0 (x0 : TGap) (x1 : Int) : V.evBody zq96.E zq96.con Tryz.f156 (V.fl2 x0 x1) = V.evC zq96.E Tryz.f156.ntmps (V.codeOf Tryz.f156) (zq96.kt x0 x1) (zq96.s x0 x1) := by kernel_rfl
theorem zq96.v (x0 : TGap) (x1 : Int) : V.evC zq96.E Tryz.f156.ntmps (V.codeOf Tryz.f156) (zq96.kt x0 x1) (zq96.s x0 x1) = zq96 x0 x1 := by kernel_rfl
theorem zq96.eq (x0 : TGap) (x1 : Int) : V.evBody zq96.E zq96.con Tryz.f156 (V.fl2 x0 x1) = zq96 x0 x1 := (zq96.v0 x0 x1).trans (zq96.v x0 x1)
theorem zq96.ok : V.Valid Tryz.prog 156 zq96.con :=
  V.fo (V.tab_cons zq95.ok (V.tab_cons zq100.ok V.tab_nil)) Tryz.func156 (by kernel_rfl) (fun x y h => (show V.evBody zq96.E zq96.con Tryz.f156 x = _ from zq96.eq (V.p2_0 x) (V.p2_1 x)).trans (V.cfl (by kernel_rfl) h))
noncomputable abbrev zq94.con : V.Con := ⟨V.A3, (.cons (.int .i64) .nil), fun (x : V.D3) => zq94 (V.p3_0 x) (V.p3_1 x), [], [(true, 21), (false, 1)], [(false, 1)], [false], []⟩
noncomputable abbrev zq94.E : V.Env := V.mkE V.tys [(26, zq103.con), (85, zq95.con), (155, zq100.con), (156, zq96.con)] [] [] [] [] []
noncomputable abbrev zq94.kt (x0 : TAnswer) (x1 : Int) : V.Kt Int := V.ktOf zq94.E zq94.con Tryz.f65 (V.fl3 x0 x1)
noncomputable abbrev zq94.s (x0 : TAnswer) (x1 : Int) : V.St := ⟨[(0, .v true [.val (.sl V.eSigned x0.1), .val (.bool x0.2.1), .val (.str x0.2.2.1), .val (.int .i64 x0.2.2.2.1), .val (.int .i64 x0.2.2.2.2.1), .val (.sl (.cons .str .nil) x0.2.2.2.2.2.1), .val (.int .i64 x0.2.2.2.2.2.2.1), .val (.sl (.cons (.int .i64) .nil) x0.2.2.2.2.2.2.2.1), .val (.int .i64 x0.2.2.2.2.2.2.2.2.1), .val (.str x0.2.2.2.2.2.2.2.2.2.1), .val (.int .i64 x0.2.2.2.2.2.2.2.2.2.2.1), .val (.int .i64 x0.2.2.2.2.2.2.2.2.2.2.2.1), .val (.sl (.cons .str .nil) x0.2.2.2.2.2.2.2.2.2.2.2.2.1), .val (.str x0.2.2.2.2.2.2.2.2.2.2.2.2.2.1), .val (.int .i64 x0.2.2.2.2.2.2.2.2.2.2.2.2.2.2.1), .val (.int .i64 x0.2.2.2.2.2.2.2.2.2.2.2.2.2.2.2.1), .val (.sl (.cons .str .nil) x0.2.2.2.2.2.2.2.2.2.2.2.2.2.2.2.2.1), .val (.int .i64 x0.2.2.2.2.2.2.2.2.2.2.2.2.2.2.2.2.2.1), .val (.sl (.cons (.int .i64) .nil) x0.2.2.2.2.2.2.2.2.2.2.2.2.2.2.2.2.2.2.1), .val (.int .i64 x0.2.2.2.2.2.2.2.2.2.2.2.2.2.2.2.2.2.2.2.1), .val (.sl (.cons (.int .i64) .nil) x0.2.2.2.2.2.2.2.2.2.2.2.2.2.2.2.2.2.2.2.2)]), (1, .v false [.val (.int .i64 x1)])], []⟩
theorem zq94.v0 (x0 : TAnswer) (x1 : Int) : V.evBody zq94.E zq94.con Tryz.f65 (V.fl3 x0 x1) = V.evC zq94.E Tryz.f65.ntmps (V.codeOf Tryz.f65) (zq94.kt x0 x1) (zq94.s x0 x1) := by kernel_rfl
theorem zq94.v (x0 : TAnswer) (x1 : Int) : V.evC zq94.E Tryz.f65.ntmps (V.codeOf Tryz.f65) (zq94.kt x0 x1) (zq94.s x0 x1) = zq94 x0 x1 := by kernel_rfl
theorem zq94.eq (x0 : TAnswer) (x1 : Int) : V.evBody zq94.E zq94.con Tryz.f65 (V.fl3 x0 x1) = zq94 x0 x1 := (zq94.v0 x0 x1).trans (zq94.v x0 x1)
theorem zq94.ok : V.Valid Tryz.prog 65 zq94.con :=
  V.fo (V.tab_cons zq103.ok (V.tab_cons zq95.ok (V.tab_cons zq100.ok (V.tab_cons zq96.ok V.tab_nil)))) Tryz.func65 (by kernel_rfl) (fun x y h => (show V.evBody zq94.E zq94.con Tryz.f65 x = _ from zq94.eq (V.p3_0 x) (V.p3_1 x)).trans (V.cfl (by kernel_rfl) h))
noncomputable abbrev zq109.con : V.Con := ⟨(.cons (.sl (.cons (.int .i64) .nil)) .nil), (.cons (.sl (.cons (.int .i64) .nil)) .nil), fun (x : List Int) => zq109 x, [], [(false, 1)], [(false, 1)], [true], []⟩
noncomputable abbrev zq109.E : V.Env := V.mkE V.tys [] [(6, [0, 3, 4], [])] [] [] [] []
noncomputable abbrev zq109.kt (x0 : List Int) : V.Kt (List Int) := V.ktOf zq109.E zq109.con Tryz.f77 ((x0) : List Int)
noncomputable abbrev zq109.s6 (x0 : List Int) (v6_1 : Int) (v6_2 : List Int) : V.St := ⟨[(0, .v false [.val (.sl (.cons (.int .i64) .nil) x0)]), (3, .v false [.ref 64000038400192]), (4, .v false [.val (.int .i64 v6_1)])], [(64000038400192, .row (.cons (.int .i64) .nil) true v6_2)]⟩
theorem zq109.r6 (x0 : List Int) (R : V.St → Option (List Int)) (v6_1 : Int) (v6_2 : List Int) : V.loopF zq109.E Tryz.f77.ntmps [1, 1, 0, 1, 0] [] (V.codeOf Tryz.f77) (zq109.kt x0) R (zq109.s6 x0 v6_1 v6_2) = zq109.g6 x0 (fun v6_1 v6_2 => R (zq109.s6 x0 v6_1 v6_2)) v6_1 v6_2 := by kernel_rfl
theorem zq109.e6 (x0 : List Int) : ∀ (n : Nat) (v6_1 : Int) (v6_2 : List Int), V.loopN (V.loopF zq109.E Tryz.f77.ntmps [1, 1, 0, 1, 0] [] (V.codeOf Tryz.f77) (zq109.kt x0)) n (zq109.s6 x0 v6_1 v6_2) = zq109.l6 x0 n v6_1 v6_2 := by
  intro n
  induction n with
  | zero => intros; rw [V.loopN_z]; rfl
  | succ n ih =>
    intro v6_1 v6_2
    rw [V.loopN_s, zq109.r6]
    simp only [ih]
    first | exact (zq109.u6 ..).symm | rfl
theorem zq109.v (x0 : List Int) : V.evBody zq109.E zq109.con Tryz.f77 ((x0) : List Int) = zq109.b x0 (fun v6_1 v6_2 => V.loopN (V.loopF zq109.E Tryz.f77.ntmps [1, 1, 0, 1, 0] [] (V.codeOf Tryz.f77) (zq109.kt x0)) V.KK (zq109.s6 x0 v6_1 v6_2)) := by kernel_rfl
theorem zq109.eq (x0 : List Int) : V.evBody zq109.E zq109.con Tryz.f77 ((x0) : List Int) = zq109 x0 := by
  rw [zq109.v]
  simp only [zq109.e6]
  rfl
theorem zq109.ok : V.Valid Tryz.prog 77 zq109.con :=
  V.fo V.tab_nil Tryz.func77 (by kernel_rfl) (fun x y h => (show V.evBody zq109.E zq109.con Tryz.f77 x = _ from zq109.eq x).trans (V.cfl (by kernel_rfl) h))
noncomputable abbrev zq110.con : V.Con := ⟨(.cons (.sl (.cons (.int .i64) .nil)) (.cons (.int .i64) .nil)), (.cons (.sl (.cons (.int .i64) .nil)) (.cons (.int .i64) .nil)), fun (x : List Int × Int) => zq110 x, [], [(true, 2)], [(true, 2)], [true, false], []⟩
noncomputable abbrev zq110.E : V.Env := V.mkE V.tys [(77, zq109.con)] [] [] [] [] []
theorem zq110.eq (x0 : TKeys) : V.evBody zq110.E zq110.con Tryz.f52 ((x0.1, x0.2) : List Int × Int) = zq110 x0 := by kernel_rfl
theorem zq110.ok : V.Valid Tryz.prog 52 zq110.con :=
  V.fo (V.tab_cons zq109.ok V.tab_nil) Tryz.func52 (by kernel_rfl) (fun x y h => (show V.evBody zq110.E zq110.con Tryz.f52 x = _ from zq110.eq x).trans (V.cfl (by kernel_rfl) h))
noncomputable abbrev zq108.con : V.Con := ⟨V.A4, V.eHead, fun (x : V.D4) => zq108 (V.p4_0 x), [], [(true, 16)], [(true, 16)], [false, false, false, false, false, false, false, false, true, false, true, false, false, true, false, false], []⟩
noncomputable abbrev zq108.E : V.Env := V.mkE V.tys [(52, zq110.con)] [] [] [] [] []
noncomputable abbrev zq108.kt (x0 : THead) : V.Kt THead := V.ktOf zq108.E zq108.con Tryz.f18 (V.fl4 x0)
noncomputable abbrev zq108.s (x0 : THead) : V.St := ⟨[(0, .v true [.val (.int .i64 x0.1), .val (.int .i64 x0.2.1), .val (.int .i64 x0.2.2.1), .val (.int .i64 x0.2.2.2.1), .val (.int .i64 x0.2.2.2.2.1), .val (.int .i64 x0.2.2.2.2.2.1), .val (.int .i64 x0.2.2.2.2.2.2.1), .val (.int .i64 x0.2.2.2.2.2.2.2.1), .val (.sl (.cons (.int .i64) .nil) x0.2.2.2.2.2.2.2.2.1), .val (.int .i64 x0.2.2.2.2.2.2.2.2.2.1), .val (.sl (.cons (.int .i64) .nil) x0.2.2.2.2.2.2.2.2.2.2.1), .val (.int .i64 x0.2.2.2.2.2.2.2.2.2.2.2.1), .val (.int .i64 x0.2.2.2.2.2.2.2.2.2.2.2.2.1), .val (.sl (.cons (.int .i64) .nil) x0.2.2.2.2.2.2.2.2.2.2.2.2.2.1), .val (.int .i64 x0.2.2.2.2.2.2.2.2.2.2.2.2.2.2.1), .val (.bool x0.2.2.2.2.2.2.2.2.2.2.2.2.2.2.2)])], []⟩
theorem zq108.v0 (x0 : THead) : V.evBody zq108.E zq108.con Tryz.f18 (V.fl4 x0) = V.evC zq108.E Tryz.f18.ntmps (V.codeOf Tryz.f18) (zq108.kt x0) (zq108.s x0) := by kernel_rfl
theorem zq108.v (x0 : THead) : V.evC zq108.E Tryz.f18.ntmps (V.codeOf Tryz.f18) (zq108.kt x0) (zq108.s x0) = zq108 x0 := by kernel_rfl
theorem zq108.eq (x0 : THead) : V.evBody zq108.E zq108.con Tryz.f18 (V.fl4 x0) = zq108 x0 := (zq108.v0 x0).trans (zq108.v x0)
theorem zq108.ok : V.Valid Tryz.prog 18 zq108.con :=
  V.fo (V.tab_cons zq110.ok V.tab_nil) Tryz.func18 (by kernel_rfl) (fun x y h => (show V.evBody zq108.E zq108.con Tryz.f18 x = _ from zq108.eq (V.p4_0 x)).trans (V.cfl (by kernel_rfl) h))
noncomputable abbrev zq112.con : V.Con := ⟨(.cons (.int .i64) (.cons (.int .i64) .nil)), (.cons (.int .i64) (.cons (.int .i64) .nil)), fun (x : Int × Int) => zq112 x, [], [(true, 2)], [(true, 2)], [false, false], []⟩
noncomputable abbrev zq112.E : V.Env := V.mkE V.tys [] [] [] [] [] []
theorem zq112.eq (x0 : TSig) : V.evBody zq112.E zq112.con Tryz.f267 ((x0.1, x0.2) : Int × Int) = zq112 x0 := by kernel_rfl
theorem zq112.ok : V.Valid Tryz.prog 267 zq112.con :=
  V.fo V.tab_nil Tryz.func267 (by kernel_rfl) (fun x y h => (show V.evBody zq112.E zq112.con Tryz.f267 x = _ from zq112.eq x).trans (V.cfl (by kernel_rfl) h))
noncomputable abbrev zq113.con : V.Con := ⟨(.cons (.sl (.cons (.int .i64) (.cons (.int .i64) .nil))) .nil), (.cons (.sl (.cons (.int .i64) (.cons (.int .i64) .nil))) .nil), fun (x : List TSig) => zq113 x, [], [(false, 1)], [(false, 1)], [true], []⟩
noncomputable abbrev zq113.E : V.Env := V.mkE V.tys [(267, zq112.con)] [(6, [0, 3, 4], [])] [] [] [] []
noncomputable abbrev zq113.kt (x0 : List TSig) : V.Kt (List TSig) := V.ktOf zq113.E zq113.con Tryz.f206 ((x0) : List TSig)
noncomputable abbrev zq113.s6 (x0 : List TSig) (v6_1 : Int) (v6_2 : List TSig) : V.St := ⟨[(0, .v false [.val (.sl (.cons (.int .i64) (.cons (.int .i64) .nil)) x0)]), (3, .v false [.ref 64000038400192]), (4, .v false [.val (.int .i64 v6_1)])], [(64000038400192, .row (.cons (.int .i64) (.cons (.int .i64) .nil)) true v6_2)]⟩
theorem zq113.r6 (x0 : List TSig) (R : V.St → Option (List TSig)) (v6_1 : Int) (v6_2 : List TSig) : V.loopF zq113.E Tryz.f206.ntmps [1, 1, 0, 1, 0] [] (V.codeOf Tryz.f206) (zq113.kt x0) R (zq113.s6 x0 v6_1 v6_2) = zq113.g6 x0 (fun v6_1 v6_2 => R (zq113.s6 x0 v6_1 v6_2)) v6_1 v6_2 := by kernel_rfl
theorem zq113.e6 (x0 : List TSig) : ∀ (n : Nat) (v6_1 : Int) (v6_2 : List TSig), V.loopN (V.loopF zq113.E Tryz.f206.ntmps [1, 1, 0, 1, 0] [] (V.codeOf Tryz.f206) (zq113.kt x0)) n (zq113.s6 x0 v6_1 v6_2) = zq113.l6 x0 n v6_1 v6_2 := by
  intro n
  induction n with
  | zero => intros; rw [V.loopN_z]; rfl
  | succ n ih =>
    intro v6_1 v6_2
    rw [V.loopN_s, zq113.r6]
    simp only [ih]
    first | exact (zq113.u6 ..).symm | rfl
theorem zq113.v (x0 : List TSig) : V.evBody zq113.E zq113.con Tryz.f206 ((x0) : List TSig) = zq113.b x0 (fun v6_1 v6_2 => V.loopN (V.loopF zq113.E Tryz.f206.ntmps [1, 1, 0, 1, 0] [] (V.codeOf Tryz.f206) (zq113.kt x0)) V.KK (zq113.s6 x0 v6_1 v6_2)) := by kernel_rfl
theorem zq113.eq (x0 : List TSig) : V.evBody zq113.E zq113.con Tryz.f206 ((x0) : List TSig) = zq113 x0 := by
  rw [zq113.v]
  simp only [zq113.e6]
  rfl
theorem zq113.ok : V.Valid Tryz.prog 206 zq113.con :=
  V.fo (V.tab_cons zq112.ok V.tab_nil) Tryz.func206 (by kernel_rfl) (fun x y h => (show V.evBody zq113.E zq113.con Tryz.f206 x = _ from zq113.eq x).trans (V.cfl (by kernel_rfl) h))
noncomputable abbrev zq114.con : V.Con := ⟨V.A5, V.eSigned, fun (x : V.D5) => zq114 (V.p5_0 x), [], [(true, 17)], [(true, 17)], [false, false, false, false, false, false, false, false, true, false, true, false, false, true, false, false, true], []⟩
noncomputable abbrev zq114.E : V.Env := V.mkE V.tys [(18, zq108.con), (206, zq113.con)] [] [] [] [] []
noncomputable abbrev zq114.kt (x0 : TSigned) : V.Kt TSigned := V.ktOf zq114.E zq114.con Tryz.f103 (V.fl5 x0)
noncomputable abbrev zq114.s (x0 : TSigned) : V.St := ⟨[(0, .v true [.val (.int .i64 x0.1), .val (.int .i64 x0.2.1), .val (.int .i64 x0.2.2.1), .val (.int .i64 x0.2.2.2.1), .val (.int .i64 x0.2.2.2.2.1), .val (.int .i64 x0.2.2.2.2.2.1), .val (.int .i64 x0.2.2.2.2.2.2.1), .val (.int .i64 x0.2.2.2.2.2.2.2.1), .val (.sl (.cons (.int .i64) .nil) x0.2.2.2.2.2.2.2.2.1), .val (.int .i64 x0.2.2.2.2.2.2.2.2.2.1), .val (.sl (.cons (.int .i64) .nil) x0.2.2.2.2.2.2.2.2.2.2.1), .val (.int .i64 x0.2.2.2.2.2.2.2.2.2.2.2.1), .val (.int .i64 x0.2.2.2.2.2.2.2.2.2.2.2.2.1), .val (.sl (.cons (.int .i64) .nil) x0.2.2.2.2.2.2.2.2.2.2.2.2.2.1), .val (.int .i64 x0.2.2.2.2.2.2.2.2.2.2.2.2.2.2.1), .val (.bool x0.2.2.2.2.2.2.2.2.2.2.2.2.2.2.2.1), .val (.sl (.cons (.int .i64) (.cons (.int .i64) .nil)) x0.2.2.2.2.2.2.2.2.2.2.2.2.2.2.2.2)])], []⟩
theorem zq114.v0 (x0 : TSigned) : V.evBody zq114.E zq114.con Tryz.f103 (V.fl5 x0) = V.evC zq114.E Tryz.f103.ntmps (V.codeOf Tryz.f103) (zq114.kt x0) (zq114.s x0) := by kernel_rfl
theorem zq114.v (x0 : TSigned) : V.evC zq114.E Tryz.f103.ntmps (V.codeOf Tryz.f103) (zq114.kt x0) (zq114.s x0) = zq114 x0 := by kernel_rfl
theorem zq114.eq (x0 : TSigned) : V.evBody zq114.E zq114.con Tryz.f103 (V.fl5 x0) = zq114 x0 := (zq114.v0 x0).trans (zq114.v x0)
theorem zq114.ok : V.Valid Tryz.prog 103 zq114.con :=
  V.fo (V.tab_cons zq108.ok (V.tab_cons zq113.ok V.tab_nil)) Tryz.func103 (by kernel_rfl) (fun x y h => (show V.evBody zq114.E zq114.con Tryz.f103 x = _ from zq114.eq (V.p5_0 x)).trans (V.cfl (by kernel_rfl) h))
noncomputable abbrev zq115.con : V.Con := ⟨(.cons (.sl V.eSigned) .nil), (.cons (.sl V.eSigned) .nil), fun (x : List TSigned) => zq115 x, [], [(false, 1)], [(false, 1)], [true], []⟩
noncomputable abbrev zq115.E : V.Env := V.mkE V.tys [(103, zq114.con)] [(6, [0, 3, 4], [])] [] [] [] []
noncomputable abbrev zq115.kt (x0 : List TSigned) : V.Kt (List TSigned) := V.ktOf zq115.E zq115.con Tryz.f28 ((x0) : List TSigned)
noncomputable abbrev zq115.s6 (x0 : List TSigned) (v6_1 : Int) (v6_2 : List TSigned) : V.St := ⟨[(0, .v false [.val (.sl V.eSigned x0)]), (3, .v false [.ref 64000038400192]), (4, .v false [.val (.int .i64 v6_1)])], [(64000038400192, .row V.eSigned true v6_2)]⟩
theorem zq115.r6 (x0 : List TSigned) (R : V.St → Option (List TSigned)) (v6_1 : Int) (v6_2 : List TSigned) : V.loopF zq115.E Tryz.f28.ntmps [1, 1, 0, 1, 0] [] (V.codeOf Tryz.f28) (zq115.kt x0) R (zq115.s6 x0 v6_1 v6_2) = zq115.g6 x0 (fun v6_1 v6_2 => R (zq115.s6 x0 v6_1 v6_2)) v6_1 v6_2 := by kernel_rfl
theorem zq115.e6 (x0 : List TSigned) : ∀ (n : Nat) (v6_1 : Int) (v6_2 : List TSigned), V.loopN (V.loopF zq115.E Tryz.f28.ntmps [1, 1, 0, 1, 0] [] (V.codeOf Tryz.f28) (zq115.kt x0)) n (zq115.s6 x0 v6_1 v6_2) = zq115.l6 x0 n v6_1 v6_2 := by
  intro n
  induction n with
  | zero => intros; rw [V.loopN_z]; rfl
  | succ n ih =>
    intro v6_1 v6_2
    rw [V.loopN_s, zq115.r6]
    simp only [ih]
    first | exact (zq115.u6 ..).symm | rfl
theorem zq115.v (x0 : List TSigned) : V.evBody zq115.E zq115.con Tryz.f28 ((x0) : List TSigned) = zq115.b x0 (fun v6_1 v6_2 => V.loopN (V.loopF zq115.E Tryz.f28.ntmps [1, 1, 0, 1, 0] [] (V.codeOf Tryz.f28) (zq115.kt x0)) V.KK (zq115.s6 x0 v6_1 v6_2)) := by kernel_rfl
theorem zq115.eq (x0 : List TSigned) : V.evBody zq115.E zq115.con Tryz.f28 ((x0) : List TSigned) = zq115 x0 := by
  rw [zq115.v]
  simp only [zq115.e6]
  rfl
theorem zq115.ok : V.Valid Tryz.prog 28 zq115.con :=
  V.fo (V.tab_cons zq114.ok V.tab_nil) Tryz.func28 (by kernel_rfl) (fun x y h => (show V.evBody zq115.E zq115.con Tryz.f28 x = _ from zq115.eq x).trans (V.cfl (by kernel_rfl) h))
noncomputable abbrev zq116.con : V.Con := ⟨(.cons (.sl (.cons .str .nil)) .nil), (.cons (.sl (.cons .str .nil)) .nil), fun (x : List ByteArray) => zq116 x, [], [(false, 1)], [(false, 1)], [true], []⟩
noncomputable abbrev zq116.E : V.Env := V.mkE V.tys [] [(6, [0, 3, 4], [])] [] [] [] []
noncomputable abbrev zq116.kt (x0 : List ByteArray) : V.Kt (List ByteArray) := V.ktOf zq116.E zq116.con Tryz.f191 ((x0) : List ByteArray)
noncomputable abbrev zq116.s6 (x0 : List ByteArray) (v6_1 : Int) (v6_2 : List ByteArray) : V.St := ⟨[(0, .v false [.val (.sl (.cons .str .nil) x0)]), (3, .v false [.ref 64000038400192]), (4, .v false [.val (.int .i64 v6_1)])], [(64000038400192, .row (.cons .str .nil) true v6_2)]⟩
theorem zq116.r6 (x0 : List ByteArray) (R : V.St → Option (List ByteArray)) (v6_1 : Int) (v6_2 : List ByteArray) : V.loopF zq116.E Tryz.f191.ntmps [1, 1, 0, 1, 0] [] (V.codeOf Tryz.f191) (zq116.kt x0) R (zq116.s6 x0 v6_1 v6_2) = zq116.g6 x0 (fun v6_1 v6_2 => R (zq116.s6 x0 v6_1 v6_2)) v6_1 v6_2 := by kernel_rfl
theorem zq116.e6 (x0 : List ByteArray) : ∀ (n : Nat) (v6_1 : Int) (v6_2 : List ByteArray), V.loopN (V.loopF zq116.E Tryz.f191.ntmps [1, 1, 0, 1, 0] [] (V.codeOf Tryz.f191) (zq116.kt x0)) n (zq116.s6 x0 v6_1 v6_2) = zq116.l6 x0 n v6_1 v6_2 := by
  intro n
  induction n with
  | zero => intros; rw [V.loopN_z]; rfl
  | succ n ih =>
    intro v6_1 v6_2
    rw [V.loopN_s, zq116.r6]
    simp only [ih]
    first | exact (zq116.u6 ..).symm | rfl
theorem zq116.v (x0 : List ByteArray) : V.evBody zq116.E zq116.con Tryz.f191 ((x0) : List ByteArray) = zq116.b x0 (fun v6_1 v6_2 => V.loopN (V.loopF zq116.E Tryz.f191.ntmps [1, 1, 0, 1, 0] [] (V.codeOf Tryz.f191) (zq116.kt x0)) V.KK (zq116.s6 x0 v6_1 v6_2)) := by kernel_rfl
theorem zq116.eq (x0 : List ByteArray) : V.evBody zq116.E zq116.con Tryz.f191 ((x0) : List ByteArray) = zq116 x0 := by
  rw [zq116.v]
  simp only [zq116.e6]
  rfl
theorem zq116.ok : V.Valid Tryz.prog 191 zq116.con :=
  V.fo V.tab_nil Tryz.func191 (by kernel_rfl) (fun x y h => (show V.evBody zq116.E zq116.con Tryz.f191 x = _ from zq116.eq x).trans (V.cfl (by kernel_rfl) h))
noncomputable abbrev zq106.con : V.Con := ⟨V.eEntry, V.eEntry, fun (x : ByteArray × Int × Int × List ByteArray) => zq106 x, [], [(true, 4)], [(true, 4)], [false, false, false, true], []⟩
noncomputable abbrev zq106.E : V.Env := V.mkE V.tys [(191, zq116.con)] [] [] [] [] []
theorem zq106.eq (x0 : TEntry) : V.evBody zq106.E zq106.con Tryz.f90 ((x0.1, x0.2.1, x0.2.2.1, x0.2.2.2) : ByteArray × Int × Int × List ByteArray) = zq106 x0 := by kernel_rfl
theorem zq106.ok : V.Valid Tryz.prog 90 zq106.con :=
  V.fo (V.tab_cons zq116.ok V.tab_nil) Tryz.func90 (by kernel_rfl) (fun x y h => (show V.evBody zq106.E zq106.con Tryz.f90 x = _ from zq106.eq x).trans (V.cfl (by kernel_rfl) h))
noncomputable abbrev zq111.con : V.Con := ⟨(.cons (.int .i64) (.cons (.sl (.cons (.int .i64) .nil)) .nil)), (.cons (.int .i64) (.cons (.sl (.cons (.int .i64) .nil)) .nil)), fun (x : Int × List Int) => zq111 x, [], [(true, 2)], [(true, 2)], [false, true], []⟩
noncomputable abbrev zq111.E : V.Env := V.mkE V.tys [(77, zq109.con)] [] [] [] [] []
theorem zq111.eq (x0 : TProof) : V.evBody zq111.E zq111.con Tryz.f159 ((x0.1, x0.2) : Int × List Int) = zq111 x0 := by kernel_rfl
theorem zq111.ok : V.Valid Tryz.prog 159 zq111.con :=
  V.fo (V.tab_cons zq109.ok V.tab_nil) Tryz.func159 (by kernel_rfl) (fun x y h => (show V.evBody zq111.E zq111.con Tryz.f159 x = _ from zq111.eq x).trans (V.cfl (by kernel_rfl) h))
noncomputable abbrev zq107.con : V.Con := ⟨V.A6, V.eGap, fun (x : V.D6) => zq107 (V.p6_0 x), [], [(true, 13)], [(true, 13)], [false, false, false, false, true, false, false, false, true, false, true, false, true], []⟩
noncomputable abbrev zq107.E : V.Env := V.mkE V.tys [(90, zq106.con), (159, zq111.con)] [] [] [] [] []
noncomputable abbrev zq107.kt (x0 : TGap) : V.Kt TGap := V.ktOf zq107.E zq107.con Tryz.f160 (V.fl6 x0)
noncomputable abbrev zq107.s (x0 : TGap) : V.St := ⟨[(0, .v true [.val (.int .i64 x0.1), .val (.str x0.2.1), .val (.int .i64 x0.2.2.1), .val (.int .i64 x0.2.2.2.1), .val (.sl (.cons .str .nil) x0.2.2.2.2.1), .val (.str x0.2.2.2.2.2.1), .val (.int .i64 x0.2.2.2.2.2.2.1), .val (.int .i64 x0.2.2.2.2.2.2.2.1), .val (.sl (.cons .str .nil) x0.2.2.2.2.2.2.2.2.1), .val (.int .i64 x0.2.2.2.2.2.2.2.2.2.1), .val (.sl (.cons (.int .i64) .nil) x0.2.2.2.2.2.2.2.2.2.2.1), .val (.int .i64 x0.2.2.2.2.2.2.2.2.2.2.2.1), .val (.sl (.cons (.int .i64) .nil) x0.2.2.2.2.2.2.2.2.2.2.2.2)])], []⟩
theorem zq107.v0 (x0 : TGap) : V.evBody zq107.E zq107.con Tryz.f160 (V.fl6 x0) = V.evC zq107.E Tryz.f160.ntmps (V.codeOf Tryz.f160) (zq107.kt x0) (zq107.s x0) := by kernel_rfl
theorem zq107.v (x0 : TGap) : V.evC zq107.E Tryz.f160.ntmps (V.codeOf Tryz.f160) (zq107.kt x0) (zq107.s x0) = zq107 x0 := by kernel_rfl
theorem zq107.eq (x0 : TGap) : V.evBody zq107.E zq107.con Tryz.f160 (V.fl6 x0) = zq107 x0 := (zq107.v0 x0).trans (zq107.v x0)
theorem zq107.ok : V.Valid Tryz.prog 160 zq107.con :=
  V.fo (V.tab_cons zq106.ok (V.tab_cons zq111.ok V.tab_nil)) Tryz.func160 (by kernel_rfl) (fun x y h => (show V.evBody zq107.E zq107.con Tryz.f160 x = _ from zq107.eq (V.p6_0 x)).trans (V.cfl (by kernel_rfl) h))
noncomputable abbrev zq105.con : V.Con := ⟨V.A7, V.eAnswer, fun (x : V.D7) => zq105 (V.p7_0 x), [], [(true, 21)], [(true, 21)], [true, false, false, false, false, true, false, true, false, false, false, false, true, false, false, false, true, false, true, false, true], []⟩
noncomputable abbrev zq105.E : V.Env := V.mkE V.tys [(28, zq115.con), (90, zq106.con), (159, zq111.con), (160, zq107.con)] [] [] [] [] []
noncomputable abbrev zq105.kt (x0 : TAnswer) : V.Kt TAnswer := V.ktOf zq105.E zq105.con Tryz.f67 (V.fl7 x0)
noncomputable abbrev zq105.s (x0 : TAnswer) : V.St := ⟨[(0, .v true [.val (.sl V.eSigned x0.1), .val (.bool x0.2.1), .val (.str x0.2.2.1), .val (.int .i64 x0.2.2.2.1), .val (.int .i64 x0.2.2.2.2.1), .val (.sl (.cons .str .nil) x0.2.2.2.2.2.1), .val (.int .i64 x0.2.2.2.2.2.2.1), .val (.sl (.cons (.int .i64) .nil) x0.2.2.2.2.2.2.2.1), .val (.int .i64 x0.2.2.2.2.2.2.2.2.1), .val (.str x0.2.2.2.2.2.2.2.2.2.1), .val (.int .i64 x0.2.2.2.2.2.2.2.2.2.2.1), .val (.int .i64 x0.2.2.2.2.2.2.2.2.2.2.2.1), .val (.sl (.cons .str .nil) x0.2.2.2.2.2.2.2.2.2.2.2.2.1), .val (.str x0.2.2.2.2.2.2.2.2.2.2.2.2.2.1), .val (.int .i64 x0.2.2.2.2.2.2.2.2.2.2.2.2.2.2.1), .val (.int .i64 x0.2.2.2.2.2.2.2.2.2.2.2.2.2.2.2.1), .val (.sl (.cons .str .nil) x0.2.2.2.2.2.2.2.2.2.2.2.2.2.2.2.2.1), .val (.int .i64 x0.2.2.2.2.2.2.2.2.2.2.2.2.2.2.2.2.2.1), .val (.sl (.cons (.int .i64) .nil) x0.2.2.2.2.2.2.2.2.2.2.2.2.2.2.2.2.2.2.1), .val (.int .i64 x0.2.2.2.2.2.2.2.2.2.2.2.2.2.2.2.2.2.2.2.1), .val (.sl (.cons (.int .i64) .nil) x0.2.2.2.2.2.2.2.2.2.2.2.2.2.2.2.2.2.2.2.2)])], []⟩
theorem zq105.v0 (x0 : TAnswer) : V.evBody zq105.E zq105.con Tryz.f67 (V.fl7 x0) = V.evC zq105.E Tryz.f67.ntmps (V.codeOf Tryz.f67) (zq105.kt x0) (zq105.s x0) := by kernel_rfl
theorem zq105.v (x0 : TAnswer) : V.evC zq105.E Tryz.f67.ntmps (V.codeOf Tryz.f67) (zq105.kt x0) (zq105.s x0) = zq105 x0 := by kernel_rfl
theorem zq105.eq (x0 : TAnswer) : V.evBody zq105.E zq105.con Tryz.f67 (V.fl7 x0) = zq105 x0 := (zq105.v0 x0).trans (zq105.v x0)
theorem zq105.ok : V.Valid Tryz.prog 67 zq105.con :=
  V.fo (V.tab_cons zq115.ok (V.tab_cons zq106.ok (V.tab_cons zq111.ok (V.tab_cons zq107.ok V.tab_nil)))) Tryz.func67 (by kernel_rfl) (fun x y h => (show V.evBody zq105.E zq105.con Tryz.f67 x = _ from zq105.eq (V.p7_0 x)).trans (V.cfl (by kernel_rfl) h))
noncomputable abbrev zq179.con : V.Con := ⟨(.cons (.int .i64) (.cons (.int .i64) (.cons (.int .i64) .nil))), (.cons .bool .nil), fun (x : Int × Int × Int) => zq179 x.1 x.2.1 x.2.2, [], [(false, 1), (false, 1), (false, 1)], [(false, 1)], [false], []⟩
noncomputable abbrev zq179.E : V.Env := V.mkE V.tys [] [] [] [] [] []
theorem zq179.eq (x0 : Int) (x1 : Int) (x2 : Int) : V.evBody zq179.E zq179.con Tryz.f147 ((x0, x1, x2) : Int × Int × Int) = zq179 x0 x1 x2 := by kernel_rfl
theorem zq179.ok : V.Valid Tryz.prog 147 zq179.con :=
  V.fo V.tab_nil Tryz.func147 (by kernel_rfl) (fun x y h => (show V.evBody zq179.E zq179.con Tryz.f147 x = _ from zq179.eq x.1 x.2.1 x.2.2).trans (V.cfl (by kernel_rfl) h))
noncomputable abbrev zq149.con : V.Con := ⟨(.cons (.sl (.cons (.int .i64) .nil)) (.cons (.int .i64) .nil)), (.cons .bool .nil), fun (x : List Int × Int) => zq149 x, [], [(true, 2)], [(false, 1)], [false], []⟩
noncomputable abbrev zq149.E : V.Env := V.mkE V.tys [(147, zq179.con)] [(4, [1, 3], [])] [(4, 22)] [] [] []
noncomputable abbrev zq149.kt (x0 : TKeys) : V.Kt Bool := V.ktOf zq149.E zq149.con Tryz.f245 ((x0.1, x0.2) : List Int × Int)
noncomputable abbrev zq149.s4 (x0 : TKeys) (v4_0 : Int) : V.St := ⟨[(1, .v false [.ptr 64000 0]), (3, .v false [.val (.int .i64 v4_0)])], [(64000, .box [.val (.sl (.cons (.int .i64) .nil) x0.1), .val (.int .i64 x0.2)])]⟩
theorem zq149.r4 (x0 : TKeys) (R : V.St → Option Bool) (v4_0 : Int) : V.loopF zq149.E Tryz.f245.ntmps [1, 0, 1, 0] [] (V.codeOf Tryz.f245) (zq149.kt x0) R (zq149.s4 x0 v4_0) = zq149.g4 x0 (fun v4_0 => R (zq149.s4 x0 v4_0)) v4_0 := by kernel_rfl
theorem zq149.e4 (x0 : TKeys) : ∀ (n : Nat) (v4_0 : Int), V.loopN (V.loopF zq149.E Tryz.f245.ntmps [1, 0, 1, 0] [] (V.codeOf Tryz.f245) (zq149.kt x0)) n (zq149.s4 x0 v4_0) = zq149.l4 x0 n v4_0 := by
  intro n
  induction n with
  | zero => intros; rw [V.loopN_z]; rfl
  | succ n ih =>
    intro v4_0
    rw [V.loopN_s, zq149.r4]
    simp only [ih]
    first | exact (zq149.u4 ..).symm | rfl
theorem zq149.v (x0 : TKeys) : V.evBody zq149.E zq149.con Tryz.f245 ((x0.1, x0.2) : List Int × Int) = zq149.b x0 (fun v4_0 => V.loopN (V.loopF zq149.E Tryz.f245.ntmps [1, 0, 1, 0] [] (V.codeOf Tryz.f245) (zq149.kt x0)) V.KK (zq149.s4 x0 v4_0)) := by kernel_rfl
theorem zq149.eq (x0 : TKeys) : V.evBody zq149.E zq149.con Tryz.f245 ((x0.1, x0.2) : List Int × Int) = zq149 x0 := by
  rw [zq149.v]
  simp only [zq149.e4]
  rfl
theorem zq149.ok : V.Valid Tryz.prog 245 zq149.con :=
  V.fo (V.tab_cons zq179.ok V.tab_nil) Tryz.func245 (by kernel_rfl) (fun x y h => (show V.evBody zq149.E zq149.con Tryz.f245 x = _ from zq149.eq x).trans (V.cfl (by kernel_rfl) h))
noncomputable abbrev zq163.con : V.Con := ⟨(.cons (.sl (.cons (.int .i64) .nil)) (.cons (.int .i64) .nil)), (.cons .bool .nil), fun (x : List Int × Int) => zq163 x, [], [(true, 2)], [(false, 1)], [false], []⟩
noncomputable abbrev zq163.E : V.Env := V.mkE V.tys [] [] [] [] [] []
theorem zq163.eq (x0 : TKeys) : V.evBody zq163.E zq163.con Tryz.f246 ((x0.1, x0.2) : List Int × Int) = zq163 x0 := by kernel_rfl
theorem zq163.ok : V.Valid Tryz.prog 246 zq163.con :=
  V.fo V.tab_nil Tryz.func246 (by kernel_rfl) (fun x y h => (show V.evBody zq163.E zq163.con Tryz.f246 x = _ from zq163.eq x).trans (V.cfl (by kernel_rfl) h))
noncomputable abbrev zq148.con : V.Con := ⟨V.A4, (.cons .bool .nil), fun (x : V.D4) => zq148 (V.p4_0 x), [], [(true, 16)], [(false, 1)], [false], []⟩
noncomputable abbrev zq148.E : V.Env := V.mkE V.tys [(147, zq179.con), (245, zq149.con), (246, zq163.con)] [(7, [1], []), (11, [1], []), (21, [1], [])] [] [] [] []
noncomputable abbrev zq148.kt (x0 : THead) : V.Kt Bool := V.ktOf zq148.E zq148.con Tryz.f183 (V.fl4 x0)
noncomputable abbrev zq148.s21 (x0 : THead) : V.St := ⟨[(1, .v false [.ptr 64000 0])], [(64000, .box [.val (.int .i64 x0.1), .val (.int .i64 x0.2.1), .val (.int .i64 x0.2.2.1), .val (.int .i64 x0.2.2.2.1), .val (.int .i64 x0.2.2.2.2.1), .val (.int .i64 x0.2.2.2.2.2.1), .val (.int .i64 x0.2.2.2.2.2.2.1), .val (.int .i64 x0.2.2.2.2.2.2.2.1), .val (.sl (.cons (.int .i64) .nil) x0.2.2.2.2.2.2.2.2.1), .val (.int .i64 x0.2.2.2.2.2.2.2.2.2.1), .val (.sl (.cons (.int .i64) .nil) x0.2.2.2.2.2.2.2.2.2.2.1), .val (.int .i64 x0.2.2.2.2.2.2.2.2.2.2.2.1), .val (.int .i64 x0.2.2.2.2.2.2.2.2.2.2.2.2.1), .val (.sl (.cons (.int .i64) .nil) x0.2.2.2.2.2.2.2.2.2.2.2.2.2.1), .val (.int .i64 x0.2.2.2.2.2.2.2.2.2.2.2.2.2.2.1), .val (.bool x0.2.2.2.2.2.2.2.2.2.2.2.2.2.2.2)])]⟩
noncomputable abbrev zq148.s11 (x0 : THead) : V.St := ⟨[(1, .v false [.ptr 64000 0])], [(64000, .box [.val (.int .i64 x0.1), .val (.int .i64 x0.2.1), .val (.int .i64 x0.2.2.1), .val (.int .i64 x0.2.2.2.1), .val (.int .i64 x0.2.2.2.2.1), .val (.int .i64 x0.2.2.2.2.2.1), .val (.int .i64 x0.2.2.2.2.2.2.1), .val (.int .i64 x0.2.2.2.2.2.2.2.1), .val (.sl (.cons (.int .i64) .nil) x0.2.2.2.2.2.2.2.2.1), .val (.int .i64 x0.2.2.2.2.2.2.2.2.2.1), .val (.sl (.cons (.int .i64) .nil) x0.2.2.2.2.2.2.2.2.2.2.1), .val (.int .i64 x0.2.2.2.2.2.2.2.2.2.2.2.1), .val (.int .i64 x0.2.2.2.2.2.2.2.2.2.2.2.2.1), .val (.sl (.cons (.int .i64) .nil) x0.2.2.2.2.2.2.2.2.2.2.2.2.2.1), .val (.int .i64 x0.2.2.2.2.2.2.2.2.2.2.2.2.2.2.1), .val (.bool x0.2.2.2.2.2.2.2.2.2.2.2.2.2.2.2)])]⟩
noncomputable abbrev zq148.s7 (x0 : THead) : V.St := ⟨[(1, .v false [.ptr 64000 0])], [(64000, .box [.val (.int .i64 x0.1), .val (.int .i64 x0.2.1), .val (.int .i64 x0.2.2.1), .val (.int .i64 x0.2.2.2.1), .val (.int .i64 x0.2.2.2.2.1), .val (.int .i64 x0.2.2.2.2.2.1), .val (.int .i64 x0.2.2.2.2.2.2.1), .val (.int .i64 x0.2.2.2.2.2.2.2.1), .val (.sl (.cons (.int .i64) .nil) x0.2.2.2.2.2.2.2.2.1), .val (.int .i64 x0.2.2.2.2.2.2.2.2.2.1), .val (.sl (.cons (.int .i64) .nil) x0.2.2.2.2.2.2.2.2.2.2.1), .val (.int .i64 x0.2.2.2.2.2.2.2.2.2.2.2.1), .val (.int .i64 x0.2.2.2.2.2.2.2.2.2.2.2.2.1), .val (.sl (.cons (.int .i64) .nil) x0.2.2.2.2.2.2.2.2.2.2.2.2.2.1), .val (.int .i64 x0.2.2.2.2.2.2.2.2.2.2.2.2.2.2.1), .val (.bool x0.2.2.2.2.2.2.2.2.2.2.2.2.2.2.2)])]⟩
theorem zq148.r21 (x0 : THead) : V.joinF zq148.E Tryz.f183.ntmps [1, 1, 1] [] (V.codeOf Tryz.f183) (zq148.kt x0) (zq148.s21 x0) = zq148.g21 x0 := by kernel_rfl
theorem zq148.e21 (x0 : THead) : V.jn (V.joinF zq148.E Tryz.f183.ntmps [1, 1, 1] [] (V.codeOf Tryz.f183) (zq148.kt x0)) (zq148.s21 x0) = zq148.l21 x0 := by
  rw [V.jn_eq, zq148.r21]
  rfl
theorem zq148.r11 (x0 : THead) : V.joinF zq148.E Tryz.f183.ntmps [1, 1] [] (V.codeOf Tryz.f183) (zq148.kt x0) (zq148.s11 x0) = zq148.g11 x0 (V.jn (V.joinF zq148.E Tryz.f183.ntmps [1, 1, 1] [] (V.codeOf Tryz.f183) (zq148.kt x0)) (zq148.s21 x0)) := by kernel_rfl
theorem zq148.e11 (x0 : THead) : V.jn (V.joinF zq148.E Tryz.f183.ntmps [1, 1] [] (V.codeOf Tryz.f183) (zq148.kt x0)) (zq148.s11 x0) = zq148.l11 x0 := by
  rw [V.jn_eq, zq148.r11]
  simp only [zq148.e21]
  rfl
theorem zq148.r7 (x0 : THead) : V.joinF zq148.E Tryz.f183.ntmps [1] [] (V.codeOf Tryz.f183) (zq148.kt x0) (zq148.s7 x0) = zq148.g7 x0 (V.jn (V.joinF zq148.E Tryz.f183.ntmps [1, 1] [] (V.codeOf Tryz.f183) (zq148.kt x0)) (zq148.s11 x0)) := by kernel_rfl
theorem zq148.e7 (x0 : THead) : V.jn (V.joinF zq148.E Tryz.f183.ntmps [1] [] (V.codeOf Tryz.f183) (zq148.kt x0)) (zq148.s7 x0) = zq148.l7 x0 := by
  rw [V.jn_eq, zq148.r7]
  simp only [zq148.e11]
  rfl
noncomputable abbrev zq148.s (x0 : THead) : V.St := ⟨[(0, .v true [.val (.int .i64 x0.1), .val (.int .i64 x0.2.1), .val (.int .i64 x0.2.2.1), .val (.int .i64 x0.2.2.2.1), .val (.int .i64 x0.2.2.2.2.1), .val (.int .i64 x0.2.2.2.2.2.1), .val (.int .i64 x0.2.2.2.2.2.2.1), .val (.int .i64 x0.2.2.2.2.2.2.2.1), .val (.sl (.cons (.int .i64) .nil) x0.2.2.2.2.2.2.2.2.1), .val (.int .i64 x0.2.2.2.2.2.2.2.2.2.1), .val (.sl (.cons (.int .i64) .nil) x0.2.2.2.2.2.2.2.2.2.2.1), .val (.int .i64 x0.2.2.2.2.2.2.2.2.2.2.2.1), .val (.int .i64 x0.2.2.2.2.2.2.2.2.2.2.2.2.1), .val (.sl (.cons (.int .i64) .nil) x0.2.2.2.2.2.2.2.2.2.2.2.2.2.1), .val (.int .i64 x0.2.2.2.2.2.2.2.2.2.2.2.2.2.2.1), .val (.bool x0.2.2.2.2.2.2.2.2.2.2.2.2.2.2.2)])], []⟩
theorem zq148.v0 (x0 : THead) : V.evBody zq148.E zq148.con Tryz.f183 (V.fl4 x0) = V.evC zq148.E Tryz.f183.ntmps (V.codeOf Tryz.f183) (zq148.kt x0) (zq148.s x0) := by kernel_rfl
theorem zq148.v (x0 : THead) : V.evC zq148.E Tryz.f183.ntmps (V.codeOf Tryz.f183) (zq148.kt x0) (zq148.s x0) = zq148.b x0 (V.jn (V.joinF zq148.E Tryz.f183.ntmps [1] [] (V.codeOf Tryz.f183) (zq148.kt x0)) (zq148.s7 x0)) := by kernel_rfl
theorem zq148.eq (x0 : THead) : V.evBody zq148.E zq148.con Tryz.f183 (V.fl4 x0) = zq148 x0 := by
  rw [zq148.v0, zq148.v]
  simp only [zq148.e7]
  rfl
theorem zq148.ok : V.Valid Tryz.prog 183 zq148.con :=
  V.fo (V.tab_cons zq179.ok (V.tab_cons zq149.ok (V.tab_cons zq163.ok V.tab_nil))) Tryz.func183 (by kernel_rfl) (fun x y h => (show V.evBody zq148.E zq148.con Tryz.f183 x = _ from zq148.eq (V.p4_0 x)).trans (V.cfl (by kernel_rfl) h))
noncomputable abbrev zq155.con : V.Con := ⟨(.cons (.sl (.cons (.int .i64) .nil)) (.cons (.int .i64) .nil)), (.cons (.sl (.cons (.int .i64) .nil)) .nil), fun (x : List Int × Int) => zq155 x, [], [(true, 2)], [(false, 1)], [true], []⟩
noncomputable abbrev zq155.E : V.Env := V.mkE V.tys [] [] [] [] [] []
theorem zq155.eq (x0 : TKeys) : V.evBody zq155.E zq155.con Tryz.f266 ((x0.1, x0.2) : List Int × Int) = zq155 x0 := by kernel_rfl
theorem zq155.ok : V.Valid Tryz.prog 266 zq155.con :=
  V.fo V.tab_nil Tryz.func266 (by kernel_rfl) (fun x y h => (show V.evBody zq155.E zq155.con Tryz.f266 x = _ from zq155.eq x).trans (V.cfl (by kernel_rfl) h))
noncomputable abbrev zq161.con : V.Con := ⟨(.cons (.int .i64) (.cons (.int .i64) .nil)), (.cons (.int .i64) .nil), fun (x : Int × Int) => zq161 x.1 x.2, [], [(false, 1), (false, 1)], [(false, 1)], [false], []⟩
noncomputable abbrev zq161.E : V.Env := V.mkE V.tys [(147, zq179.con)] [] [] [] [] []
theorem zq161.eq (x0 : Int) (x1 : Int) : V.evBody zq161.E zq161.con Tryz.f292 ((x0, x1) : Int × Int) = zq161 x0 x1 := by kernel_rfl
theorem zq161.ok : V.Valid Tryz.prog 292 zq161.con :=
  V.fo (V.tab_cons zq179.ok V.tab_nil) Tryz.func292 (by kernel_rfl) (fun x y h => (show V.evBody zq161.E zq161.con Tryz.f292 x = _ from zq161.eq x.1 x.2).trans (V.cfl (by kernel_rfl) h))
noncomputable abbrev zq141.con : V.Con := ⟨(.cons (.sl (.cons (.int .i64) .nil)) .nil), (.cons (.int .i64) .nil), fun (x : List Int) => zq141 x, [], [(false, 1)], [(false, 1)], [false], []⟩
noncomputable abbrev zq141.E : V.Env := V.mkE V.tys [(292, zq161.con)] [(6, [0, 3, 4], [])] [] [] [] []
noncomputable abbrev zq141.kt (x0 : List Int) : V.Kt Int := V.ktOf zq141.E zq141.con Tryz.f247 ((x0) : List Int)
noncomputable abbrev zq141.s6 (x0 : List Int) (v6_1 : Int) (v6_2 : Int) : V.St := ⟨[(0, .v false [.val (.sl (.cons (.int .i64) .nil) x0)]), (3, .v false [.val (.int .i64 v6_1)]), (4, .v false [.val (.int .i64 v6_2)])], []⟩
theorem zq141.r6 (x0 : List Int) (R : V.St → Option Int) (v6_1 : Int) (v6_2 : Int) : V.loopF zq141.E Tryz.f247.ntmps [1, 1, 0, 1, 0] [] (V.codeOf Tryz.f247) (zq141.kt x0) R (zq141.s6 x0 v6_1 v6_2) = zq141.g6 x0 (fun v6_1 v6_2 => R (zq141.s6 x0 v6_1 v6_2)) v6_1 v6_2 := by kernel_rfl
theorem zq141.e6 (x0 : List Int) : ∀ (n : Nat) (v6_1 : Int) (v6_2 : Int), V.loopN (V.loopF zq141.E Tryz.f247.ntmps [1, 1, 0, 1, 0] [] (V.codeOf Tryz.f247) (zq141.kt x0)) n (zq141.s6 x0 v6_1 v6_2) = zq141.l6 x0 n v6_1 v6_2 := by
  intro n
  induction n with
  | zero => intros; rw [V.loopN_z]; rfl
  | succ n ih =>
    intro v6_1 v6_2
    rw [V.loopN_s, zq141.r6]
    simp only [ih]
    first | exact (zq141.u6 ..).symm | rfl
theorem zq141.v (x0 : List Int) : V.evBody zq141.E zq141.con Tryz.f247 ((x0) : List Int) = zq141.b x0 (fun v6_1 v6_2 => V.loopN (V.loopF zq141.E Tryz.f247.ntmps [1, 1, 0, 1, 0] [] (V.codeOf Tryz.f247) (zq141.kt x0)) V.KK (zq141.s6 x0 v6_1 v6_2)) := by kernel_rfl
theorem zq141.eq (x0 : List Int) : V.evBody zq141.E zq141.con Tryz.f247 ((x0) : List Int) = zq141 x0 := by
  rw [zq141.v]
  simp only [zq141.e6]
  rfl
theorem zq141.ok : V.Valid Tryz.prog 247 zq141.con :=
  V.fo (V.tab_cons zq161.ok V.tab_nil) Tryz.func247 (by kernel_rfl) (fun x y h => (show V.evBody zq141.E zq141.con Tryz.f247 x = _ from zq141.eq x).trans (V.cfl (by kernel_rfl) h))
noncomputable abbrev zq171.con : V.Con := ⟨(.cons (.sl (.cons (.int .i64) .nil)) (.cons (.int .i64) (.cons (.int .i64) .nil))), (.cons (.int .i64) .nil), fun (x : List Int × Int × Int) => zq171 (x.1, x.2.1) x.2.2, [], [(true, 2), (false, 1)], [(false, 1)], [false], []⟩
noncomputable abbrev zq171.E : V.Env := V.mkE V.tys [(247, zq141.con), (266, zq155.con)] [] [] [] [] []
theorem zq171.eq (x0 : TKeys) (x1 : Int) : V.evBody zq171.E zq171.con Tryz.f224 ((x0.1, x0.2, x1) : List Int × Int × Int) = zq171 x0 x1 := by kernel_rfl
theorem zq171.ok : V.Valid Tryz.prog 224 zq171.con :=
  V.fo (V.tab_cons zq141.ok (V.tab_cons zq155.ok V.tab_nil)) Tryz.func224 (by kernel_rfl) (fun x y h => (show V.evBody zq171.E zq171.con Tryz.f224 x = _ from zq171.eq (x.1, x.2.1) x.2.2).trans (V.cfl (by kernel_rfl) h))
noncomputable abbrev zq143.con : V.Con := ⟨V.A4, (.cons (.sl (.cons (.int .i64) .nil)) .nil), fun (x : V.D4) => zq143 (V.p4_0 x), [], [(true, 16)], [(false, 1)], [true], []⟩
noncomputable abbrev zq143.E : V.Env := V.mkE V.tys [(266, zq155.con)] [] [] [] [] []
noncomputable abbrev zq143.kt (x0 : THead) : V.Kt (List Int) := V.ktOf zq143.E zq143.con Tryz.f205 (V.fl4 x0)
noncomputable abbrev zq143.s (x0 : THead) : V.St := ⟨[(0, .v true [.val (.int .i64 x0.1), .val (.int .i64 x0.2.1), .val (.int .i64 x0.2.2.1), .val (.int .i64 x0.2.2.2.1), .val (.int .i64 x0.2.2.2.2.1), .val (.int .i64 x0.2.2.2.2.2.1), .val (.int .i64 x0.2.2.2.2.2.2.1), .val (.int .i64 x0.2.2.2.2.2.2.2.1), .val (.sl (.cons (.int .i64) .nil) x0.2.2.2.2.2.2.2.2.1), .val (.int .i64 x0.2.2.2.2.2.2.2.2.2.1), .val (.sl (.cons (.int .i64) .nil) x0.2.2.2.2.2.2.2.2.2.2.1), .val (.int .i64 x0.2.2.2.2.2.2.2.2.2.2.2.1), .val (.int .i64 x0.2.2.2.2.2.2.2.2.2.2.2.2.1), .val (.sl (.cons (.int .i64) .nil) x0.2.2.2.2.2.2.2.2.2.2.2.2.2.1), .val (.int .i64 x0.2.2.2.2.2.2.2.2.2.2.2.2.2.2.1), .val (.bool x0.2.2.2.2.2.2.2.2.2.2.2.2.2.2.2)])], []⟩
theorem zq143.v0 (x0 : THead) : V.evBody zq143.E zq143.con Tryz.f205 (V.fl4 x0) = V.evC zq143.E Tryz.f205.ntmps (V.codeOf Tryz.f205) (zq143.kt x0) (zq143.s x0) := by kernel_rfl
theorem zq143.v (x0 : THead) : V.evC zq143.E Tryz.f205.ntmps (V.codeOf Tryz.f205) (zq143.kt x0) (zq143.s x0) = zq143 x0 := by kernel_rfl
theorem zq143.eq (x0 : THead) : V.evBody zq143.E zq143.con Tryz.f205 (V.fl4 x0) = zq143 x0 := (zq143.v0 x0).trans (zq143.v x0)
theorem zq143.ok : V.Valid Tryz.prog 205 zq143.con :=
  V.fo (V.tab_cons zq155.ok V.tab_nil) Tryz.func205 (by kernel_rfl) (fun x y h => (show V.evBody zq143.E zq143.con Tryz.f205 x = _ from zq143.eq (V.p4_0 x)).trans (V.cfl (by kernel_rfl) h))
noncomputable abbrev zq154.con : V.Con := ⟨(.cons (.int .i64) (.cons (.sl (.cons (.int .i64) .nil)) .nil)), (.cons (.int .i64) .nil), fun (x : Int × List Int) => zq154 x.1 x.2, [], [(false, 1), (false, 1)], [(false, 1)], [false], []⟩
noncomputable abbrev zq154.E : V.Env := V.mkE V.tys [(247, zq141.con)] [] [] [] [] []
theorem zq154.eq (x0 : Int) (x1 : List Int) : V.evBody zq154.E zq154.con Tryz.f214 ((x0, x1) : Int × List Int) = zq154 x0 x1 := by kernel_rfl
theorem zq154.ok : V.Valid Tryz.prog 214 zq154.con :=
  V.fo (V.tab_cons zq141.ok V.tab_nil) Tryz.func214 (by kernel_rfl) (fun x y h => (show V.evBody zq154.E zq154.con Tryz.f214 x = _ from zq154.eq x.1 x.2).trans (V.cfl (by kernel_rfl) h))
noncomputable abbrev zq168.con : V.Con := ⟨(.cons (.int .i64) (.cons (.sl (.cons (.int .i64) .nil)) .nil)), (.cons (.int .i64) .nil), fun (x : Int × List Int) => zq168 x.1 x.2, [], [(false, 1), (false, 1)], [(false, 1)], [false], []⟩
noncomputable abbrev zq168.E : V.Env := V.mkE V.tys [(214, zq154.con)] [] [] [] [] []
theorem zq168.eq (x0 : Int) (x1 : List Int) : V.evBody zq168.E zq168.con Tryz.f118 ((x0, x1) : Int × List Int) = zq168 x0 x1 := by kernel_rfl
theorem zq168.ok : V.Valid Tryz.prog 118 zq168.con :=
  V.fo (V.tab_cons zq154.ok V.tab_nil) Tryz.func118 (by kernel_rfl) (fun x y h => (show V.evBody zq168.E zq168.con Tryz.f118 x = _ from zq168.eq x.1 x.2).trans (V.cfl (by kernel_rfl) h))
noncomputable abbrev zq152.con : V.Con := ⟨(.cons (.int .i64) (.cons (.int .i64) (.cons (.sl (.cons (.int .i64) .nil)) .nil))), (.cons .bool .nil), fun (x : Int × Int × List Int) => zq152 (x.1, x.2.1) x.2.2, [], [(true, 2), (false, 1)], [(false, 1)], [false], []⟩
noncomputable abbrev zq152.E : V.Env := V.mkE V.tys [(118, zq168.con), (147, zq179.con)] [] [(1, 10)] [] [] []
theorem zq152.eq (x0 : TSig) (x1 : List Int) : V.evBody zq152.E zq152.con Tryz.f316 ((x0.1, x0.2, x1) : Int × Int × List Int) = zq152 x0 x1 := by kernel_rfl
theorem zq152.ok : V.Valid Tryz.prog 316 zq152.con :=
  V.fo (V.tab_cons zq168.ok (V.tab_cons zq179.ok V.tab_nil)) Tryz.func316 (by kernel_rfl) (fun x y h => (show V.evBody zq152.E zq152.con Tryz.f316 x = _ from zq152.eq (x.1, x.2.1) x.2.2).trans (V.cfl (by kernel_rfl) h))
noncomputable abbrev zq132.con : V.Con := ⟨(.cons (.sl (.cons (.int .i64) .nil)) (.cons (.int .i64) (.cons (.sl (.cons (.int .i64) .nil)) (.cons (.sl (.cons (.int .i64) (.cons (.int .i64) .nil))) .nil)))), (.cons (.int .i64) .nil), fun (x : List Int × Int × List Int × List TSig) => zq132 (x.1, x.2.1) x.2.2.1 x.2.2.2, [], [(true, 2), (false, 1), (false, 1)], [(false, 1)], [false], []⟩
noncomputable abbrev zq132.E : V.Env := V.mkE V.tys [(316, zq152.con)] [(6, [1, 2, 3, 7, 8], []), (12, [1, 2, 3, 7, 8, 9], []), (19, [1, 2, 3, 7, 8, 9, 41], [])] [(8, 17)] [] [] []
noncomputable abbrev zq132.kt (x0 : TKeys) (x1 : List Int) (x2 : List TSig) : V.Kt Int := V.ktOf zq132.E zq132.con Tryz.f309 ((x0.1, x0.2, x1, x2) : List Int × Int × List Int × List TSig)
noncomputable abbrev zq132.s19 (x0 : TKeys) (x1 : List Int) (x2 : List TSig) (v6_2 : Int) (v6_3 : Int) (v12_4 : Int) (v19_5 : Bool) : V.St := ⟨[(1, .v false [.val (.sl (.cons (.int .i64) .nil) x1)]), (2, .v false [.val (.sl (.cons (.int .i64) (.cons (.int .i64) .nil)) x2)]), (3, .v false [.ptr 64000 0]), (7, .v false [.val (.int .i64 v6_2)]), (8, .v false [.val (.int .i64 v6_3)]), (9, .v false [.val (.int .i64 v12_4)]), (41, .v false [.val (.bool v19_5)])], [(64000, .box [.val (.sl (.cons (.int .i64) .nil) x0.1), .val (.int .i64 x0.2)])]⟩
noncomputable abbrev zq132.s12 (x0 : TKeys) (x1 : List Int) (x2 : List TSig) (v6_2 : Int) (v6_3 : Int) (v12_4 : Int) : V.St := ⟨[(1, .v false [.val (.sl (.cons (.int .i64) .nil) x1)]), (2, .v false [.val (.sl (.cons (.int .i64) (.cons (.int .i64) .nil)) x2)]), (3, .v false [.ptr 64000 0]), (7, .v false [.val (.int .i64 v6_2)]), (8, .v false [.val (.int .i64 v6_3)]), (9, .v false [.val (.int .i64 v12_4)])], [(64000, .box [.val (.sl (.cons (.int .i64) .nil) x0.1), .val (.int .i64 x0.2)])]⟩
noncomputable abbrev zq132.s6 (x0 : TKeys) (x1 : List Int) (x2 : List TSig) (v6_2 : Int) (v6_3 : Int) : V.St := ⟨[(1, .v false [.val (.sl (.cons (.int .i64) .nil) x1)]), (2, .v false [.val (.sl (.cons (.int .i64) (.cons (.int .i64) .nil)) x2)]), (3, .v false [.ptr 64000 0]), (7, .v false [.val (.int .i64 v6_2)]), (8, .v false [.val (.int .i64 v6_3)])], [(64000, .box [.val (.sl (.cons (.int .i64) .nil) x0.1), .val (.int .i64 x0.2)])]⟩
theorem zq132.r19 (x0 : TKeys) (x1 : List Int) (x2 : List TSig) (v12_4 : Int) (v6_2 : Int) (v6_3 : Int) (R6 : V.St → Option Int) (R12 : V.St → Option Int) (v19_5 : Bool) : V.joinF zq132.E Tryz.f309.ntmps [1, 1, 0, 1, 0, 0, 1, 0, 0, 1, 0, 0, 1, 0, 0] [R6, R12] (V.codeOf Tryz.f309) (zq132.kt x0 x1 x2) (zq132.s19 x0 x1 x2 v6_2 v6_3 v12_4 v19_5) = zq132.g19 x0 x1 x2 v6_2 v6_3 v12_4 (fun v6_2 v6_3 => R6 (zq132.s6 x0 x1 x2 v6_2 v6_3)) (fun v12_4 => R12 (zq132.s12 x0 x1 x2 v6_2 v6_3 v12_4)) v19_5 := by kernel_rfl
theorem zq132.e19 (x0 : TKeys) (x1 : List Int) (x2 : List TSig) (v12_4 : Int) (v6_2 : Int) (v6_3 : Int) (R6 : V.St → Option Int) (R12 : V.St → Option Int) (v19_5 : Bool) : V.jn (V.joinF zq132.E Tryz.f309.ntmps [1, 1, 0, 1, 0, 0, 1, 0, 0, 1, 0, 0, 1, 0, 0] [R6, R12] (V.codeOf Tryz.f309) (zq132.kt x0 x1 x2)) (zq132.s19 x0 x1 x2 v6_2 v6_3 v12_4 v19_5) = zq132.l19 x0 x1 x2 v6_2 v6_3 v12_4 (fun v6_2 v6_3 => R6 (zq132.s6 x0 x1 x2 v6_2 v6_3)) (fun v12_4 => R12 (zq132.s12 x0 x1 x2 v6_2 v6_3 v12_4)) v19_5 := by
  rw [V.jn_eq, zq132.r19]
  rfl
theorem zq132.r12 (x0 : TKeys) (x1 : List Int) (x2 : List TSig) (v6_2 : Int) (v6_3 : Int) (R6 : V.St → Option Int) (R : V.St → Option Int) (v12_4 : Int) : V.loopF zq132.E Tryz.f309.ntmps [1, 1, 0, 1, 0, 0, 1, 0, 0, 1, 0] [R6] (V.codeOf Tryz.f309) (zq132.kt x0 x1 x2) R (zq132.s12 x0 x1 x2 v6_2 v6_3 v12_4) = zq132.g12 x0 x1 x2 v6_2 v6_3 (fun v6_2 v6_3 => R6 (zq132.s6 x0 x1 x2 v6_2 v6_3)) (fun v12_4 => R (zq132.s12 x0 x1 x2 v6_2 v6_3 v12_4)) (fun v19_5 => V.jn (V.joinF zq132.E Tryz.f309.ntmps [1, 1, 0, 1, 0, 0, 1, 0, 0, 1, 0, 0, 1, 0, 0] [R6, R] (V.codeOf Tryz.f309) (zq132.kt x0 x1 x2)) (zq132.s19 x0 x1 x2 v6_2 v6_3 v12_4 v19_5)) v12_4 := by kernel_rfl
theorem zq132.e12 (x0 : TKeys) (x1 : List Int) (x2 : List TSig) (v6_2 : Int) (v6_3 : Int) (R6 : V.St → Option Int) : ∀ (n : Nat) (v12_4 : Int), V.loopN (V.loopF zq132.E Tryz.f309.ntmps [1, 1, 0, 1, 0, 0, 1, 0, 0, 1, 0] [R6] (V.codeOf Tryz.f309) (zq132.kt x0 x1 x2)) n (zq132.s12 x0 x1 x2 v6_2 v6_3 v12_4) = zq132.l12 x0 x1 x2 v6_2 v6_3 (fun v6_2 v6_3 => R6 (zq132.s6 x0 x1 x2 v6_2 v6_3)) n v12_4 := by
  intro n
  induction n with
  | zero => intros; rw [V.loopN_z]; rfl
  | succ n ih =>
    intro v12_4
    rw [V.loopN_s, zq132.r12]
    simp only [zq132.e19, ih]
    first | exact (zq132.u12 ..).symm | rfl
theorem zq132.r6 (x0 : TKeys) (x1 : List Int) (x2 : List TSig) (R : V.St → Option Int) (v6_2 : Int) (v6_3 : Int) : V.loopF zq132.E Tryz.f309.ntmps [1, 1, 0, 1, 0] [] (V.codeOf Tryz.f309) (zq132.kt x0 x1 x2) R (zq132.s6 x0 x1 x2 v6_2 v6_3) = zq132.g6 x0 x1 x2 (fun v6_2 v6_3 => R (zq132.s6 x0 x1 x2 v6_2 v6_3)) (fun v12_4 => V.loopN (V.loopF zq132.E Tryz.f309.ntmps [1, 1, 0, 1, 0, 0, 1, 0, 0, 1, 0] [R] (V.codeOf Tryz.f309) (zq132.kt x0 x1 x2)) V.KK (zq132.s12 x0 x1 x2 v6_2 v6_3 v12_4)) v6_2 v6_3 := by kernel_rfl
theorem zq132.e6 (x0 : TKeys) (x1 : List Int) (x2 : List TSig) : ∀ (n : Nat) (v6_2 : Int) (v6_3 : Int), V.loopN (V.loopF zq132.E Tryz.f309.ntmps [1, 1, 0, 1, 0] [] (V.codeOf Tryz.f309) (zq132.kt x0 x1 x2)) n (zq132.s6 x0 x1 x2 v6_2 v6_3) = zq132.l6 x0 x1 x2 n v6_2 v6_3 := by
  intro n
  induction n with
  | zero => intros; rw [V.loopN_z]; rfl
  | succ n ih =>
    intro v6_2 v6_3
    rw [V.loopN_s, zq132.r6]
    simp only [zq132.e12, ih]
    first | exact (zq132.u6 ..).symm | rfl
theorem zq132.v (x0 : TKeys) (x1 : List Int) (x2 : List TSig) : V.evBody zq132.E zq132.con Tryz.f309 ((x0.1, x0.2, x1, x2) : List Int × Int × List Int × List TSig) = zq132.b x0 x1 x2 (fun v6_2 v6_3 => V.loopN (V.loopF zq132.E Tryz.f309.ntmps [1, 1, 0, 1, 0] [] (V.codeOf Tryz.f309) (zq132.kt x0 x1 x2)) V.KK (zq132.s6 x0 x1 x2 v6_2 v6_3)) := by kernel_rfl
theorem zq132.eq (x0 : TKeys) (x1 : List Int) (x2 : List TSig) : V.evBody zq132.E zq132.con Tryz.f309 ((x0.1, x0.2, x1, x2) : List Int × Int × List Int × List TSig) = zq132 x0 x1 x2 := by
  rw [zq132.v]
  simp only [zq132.e6]
  rfl
theorem zq132.ok : V.Valid Tryz.prog 309 zq132.con :=
  V.fo (V.tab_cons zq152.ok V.tab_nil) Tryz.func309 (by kernel_rfl) (fun x y h => (show V.evBody zq132.E zq132.con Tryz.f309 x = _ from zq132.eq (x.1, x.2.1) x.2.2.1 x.2.2.2).trans (V.cfl (by kernel_rfl) h))
noncomputable abbrev zq153.con : V.Con := ⟨(.cons (.sl (.cons (.int .i64) .nil)) (.cons (.int .i64) (.cons (.sl (.cons (.int .i64) .nil)) (.cons (.sl (.cons (.int .i64) (.cons (.int .i64) .nil))) .nil)))), (.cons .bool .nil), fun (x : List Int × Int × List Int × List TSig) => zq153 (x.1, x.2.1) x.2.2.1 x.2.2.2, [], [(true, 2), (false, 1), (false, 1)], [(false, 1)], [false], []⟩
noncomputable abbrev zq153.E : V.Env := V.mkE V.tys [(245, zq149.con), (309, zq132.con)] [] [(1, 9)] [] [] []
theorem zq153.eq (x0 : TKeys) (x1 : List Int) (x2 : List TSig) : V.evBody zq153.E zq153.con Tryz.f287 ((x0.1, x0.2, x1, x2) : List Int × Int × List Int × List TSig) = zq153 x0 x1 x2 := by kernel_rfl
theorem zq153.ok : V.Valid Tryz.prog 287 zq153.con :=
  V.fo (V.tab_cons zq149.ok (V.tab_cons zq132.ok V.tab_nil)) Tryz.func287 (by kernel_rfl) (fun x y h => (show V.evBody zq153.E zq153.con Tryz.f287 x = _ from zq153.eq (x.1, x.2.1) x.2.2.1 x.2.2.2).trans (V.cfl (by kernel_rfl) h))
noncomputable abbrev zq146.con : V.Con := ⟨V.A5, (.cons .bool .nil), fun (x : V.D5) => zq146 (V.p5_0 x), [], [(true, 17)], [(false, 1)], [false], []⟩
noncomputable abbrev zq146.E : V.Env := V.mkE V.tys [(183, zq148.con), (205, zq143.con), (224, zq171.con), (287, zq153.con)] [] [(2, 34)] [] [] []
noncomputable abbrev zq146.kt (x0 : TSigned) : V.Kt Bool := V.ktOf zq146.E zq146.con Tryz.f264 (V.fl5 x0)
noncomputable abbrev zq146.s (x0 : TSigned) : V.St := ⟨[(0, .v true [.val (.int .i64 x0.1), .val (.int .i64 x0.2.1), .val (.int .i64 x0.2.2.1), .val (.int .i64 x0.2.2.2.1), .val (.int .i64 x0.2.2.2.2.1), .val (.int .i64 x0.2.2.2.2.2.1), .val (.int .i64 x0.2.2.2.2.2.2.1), .val (.int .i64 x0.2.2.2.2.2.2.2.1), .val (.sl (.cons (.int .i64) .nil) x0.2.2.2.2.2.2.2.2.1), .val (.int .i64 x0.2.2.2.2.2.2.2.2.2.1), .val (.sl (.cons (.int .i64) .nil) x0.2.2.2.2.2.2.2.2.2.2.1), .val (.int .i64 x0.2.2.2.2.2.2.2.2.2.2.2.1), .val (.int .i64 x0.2.2.2.2.2.2.2.2.2.2.2.2.1), .val (.sl (.cons (.int .i64) .nil) x0.2.2.2.2.2.2.2.2.2.2.2.2.2.1), .val (.int .i64 x0.2.2.2.2.2.2.2.2.2.2.2.2.2.2.1), .val (.bool x0.2.2.2.2.2.2.2.2.2.2.2.2.2.2.2.1), .val (.sl (.cons (.int .i64) (.cons (.int .i64) .nil)) x0.2.2.2.2.2.2.2.2.2.2.2.2.2.2.2.2)])], []⟩
theorem zq146.v0 (x0 : TSigned) : V.evBody zq146.E zq146.con Tryz.f264 (V.fl5 x0) = V.evC zq146.E Tryz.f264.ntmps (V.codeOf Tryz.f264) (zq146.kt x0) (zq146.s x0) := by kernel_rfl
theorem zq146.v (x0 : TSigned) : V.evC zq146.E Tryz.f264.ntmps (V.codeOf Tryz.f264) (zq146.kt x0) (zq146.s x0) = zq146 x0 := by kernel_rfl
theorem zq146.eq (x0 : TSigned) : V.evBody zq146.E zq146.con Tryz.f264 (V.fl5 x0) = zq146 x0 := (zq146.v0 x0).trans (zq146.v x0)
theorem zq146.ok : V.Valid Tryz.prog 264 zq146.con :=
  V.fo (V.tab_cons zq148.ok (V.tab_cons zq143.ok (V.tab_cons zq171.ok (V.tab_cons zq153.ok V.tab_nil)))) Tryz.func264 (by kernel_rfl) (fun x y h => (show V.evBody zq146.E zq146.con Tryz.f264 x = _ from zq146.eq (V.p5_0 x)).trans (V.cfl (by kernel_rfl) h))
noncomputable abbrev zq142.con : V.Con := ⟨V.A4, (.cons (.int .i64) .nil), fun (x : V.D4) => zq142 (V.p4_0 x), [], [(true, 16)], [(false, 1)], [false], []⟩
noncomputable abbrev zq142.E : V.Env := V.mkE V.tys [(205, zq143.con), (247, zq141.con)] [] [] [] [] []
noncomputable abbrev zq142.kt (x0 : THead) : V.Kt Int := V.ktOf zq142.E zq142.con Tryz.f185 (V.fl4 x0)
noncomputable abbrev zq142.s (x0 : THead) : V.St := ⟨[(0, .v true [.val (.int .i64 x0.1), .val (.int .i64 x0.2.1), .val (.int .i64 x0.2.2.1), .val (.int .i64 x0.2.2.2.1), .val (.int .i64 x0.2.2.2.2.1), .val (.int .i64 x0.2.2.2.2.2.1), .val (.int .i64 x0.2.2.2.2.2.2.1), .val (.int .i64 x0.2.2.2.2.2.2.2.1), .val (.sl (.cons (.int .i64) .nil) x0.2.2.2.2.2.2.2.2.1), .val (.int .i64 x0.2.2.2.2.2.2.2.2.2.1), .val (.sl (.cons (.int .i64) .nil) x0.2.2.2.2.2.2.2.2.2.2.1), .val (.int .i64 x0.2.2.2.2.2.2.2.2.2.2.2.1), .val (.int .i64 x0.2.2.2.2.2.2.2.2.2.2.2.2.1), .val (.sl (.cons (.int .i64) .nil) x0.2.2.2.2.2.2.2.2.2.2.2.2.2.1), .val (.int .i64 x0.2.2.2.2.2.2.2.2.2.2.2.2.2.2.1), .val (.bool x0.2.2.2.2.2.2.2.2.2.2.2.2.2.2.2)])], []⟩
theorem zq142.v0 (x0 : THead) : V.evBody zq142.E zq142.con Tryz.f185 (V.fl4 x0) = V.evC zq142.E Tryz.f185.ntmps (V.codeOf Tryz.f185) (zq142.kt x0) (zq142.s x0) := by kernel_rfl
theorem zq142.v (x0 : THead) : V.evC zq142.E Tryz.f185.ntmps (V.codeOf Tryz.f185) (zq142.kt x0) (zq142.s x0) = zq142 x0 := by kernel_rfl
theorem zq142.eq (x0 : THead) : V.evBody zq142.E zq142.con Tryz.f185 (V.fl4 x0) = zq142 x0 := (zq142.v0 x0).trans (zq142.v x0)
theorem zq142.ok : V.Valid Tryz.prog 185 zq142.con :=
  V.fo (V.tab_cons zq143.ok (V.tab_cons zq141.ok V.tab_nil)) Tryz.func185 (by kernel_rfl) (fun x y h => (show V.evBody zq142.E zq142.con Tryz.f185 x = _ from zq142.eq (V.p4_0 x)).trans (V.cfl (by kernel_rfl) h))
noncomputable abbrev zq178.con : V.Con := ⟨V.A8, (.cons (.int .i64) .nil), fun (x : V.D8) => zq178 (V.p8_0 x) (V.p8_1 x), [], [(true, 16), (true, 16)], [(false, 1)], [false], []⟩
noncomputable abbrev zq178.E : V.Env := V.mkE V.tys [] [] [] [] [] []
noncomputable abbrev zq178.kt (x0 : THead) (x1 : THead) : V.Kt Int := V.ktOf zq178.E zq178.con Tryz.f284 (V.fl8 x0 x1)
noncomputable abbrev zq178.s (x0 : THead) (x1 : THead) : V.St := ⟨[(0, .v true [.val (.int .i64 x0.1), .val (.int .i64 x0.2.1), .val (.int .i64 x0.2.2.1), .val (.int .i64 x0.2.2.2.1), .val (.int .i64 x0.2.2.2.2.1), .val (.int .i64 x0.2.2.2.2.2.1), .val (.int .i64 x0.2.2.2.2.2.2.1), .val (.int .i64 x0.2.2.2.2.2.2.2.1), .val (.sl (.cons (.int .i64) .nil) x0.2.2.2.2.2.2.2.2.1), .val (.int .i64 x0.2.2.2.2.2.2.2.2.2.1), .val (.sl (.cons (.int .i64) .nil) x0.2.2.2.2.2.2.2.2.2.2.1), .val (.int .i64 x0.2.2.2.2.2.2.2.2.2.2.2.1), .val (.int .i64 x0.2.2.2.2.2.2.2.2.2.2.2.2.1), .val (.sl (.cons (.int .i64) .nil) x0.2.2.2.2.2.2.2.2.2.2.2.2.2.1), .val (.int .i64 x0.2.2.2.2.2.2.2.2.2.2.2.2.2.2.1), .val (.bool x0.2.2.2.2.2.2.2.2.2.2.2.2.2.2.2)]), (1, .v true [.val (.int .i64 x1.1), .val (.int .i64 x1.2.1), .val (.int .i64 x1.2.2.1), .val (.int .i64 x1.2.2.2.1), .val (.int .i64 x1.2.2.2.2.1), .val (.int .i64 x1.2.2.2.2.2.1), .val (.int .i64 x1.2.2.2.2.2.2.1), .val (.int .i64 x1.2.2.2.2.2.2.2.1), .val (.sl (.cons (.int .i64) .nil) x1.2.2.2.2.2.2.2.2.1), .val (.int .i64 x1.2.2.2.2.2.2.2.2.2.1), .val (.sl (.cons (.int .i64) .nil) x1.2.2.2.2.2.2.2.2.2.2.1), .val (.int .i64 x1.2.2.2.2.2.2.2.2.2.2.2.1), .val (.int .i64 x1.2.2.2.2.2.2.2.2.2.2.2.2.1), .val (.sl (.cons (.int .i64) .nil) x1.2.2.2.2.2.2.2.2.2.2.2.2.2.1), .val (.int .i64 x1.2.2.2.2.2.2.2.2.2.2.2.2.2.2.1), .val (.bool x1.2.2.2.2.2.2.2.2.2.2.2.2.2.2.2)])], []⟩
theorem zq178.v0 (x0 : THead) (x1 : THead) : V.evBody zq178.E zq178.con Tryz.f284 (V.fl8 x0 x1) = V.evC zq178.E Tryz.f284.ntmps (V.codeOf Tryz.f284) (zq178.kt x0 x1) (zq178.s x0 x1) := by kernel_rfl
theorem zq178.v (x0 : THead) (x1 : THead) : V.evC zq178.E Tryz.f284.ntmps (V.codeOf Tryz.f284) (zq178.kt x0 x1) (zq178.s x0 x1) = zq178 x0 x1 := by kernel_rfl
theorem zq178.eq (x0 : THead) (x1 : THead) : V.evBody zq178.E zq178.con Tryz.f284 (V.fl8 x0 x1) = zq178 x0 x1 := (zq178.v0 x0 x1).trans (zq178.v x0 x1)
theorem zq178.ok : V.Valid Tryz.prog 284 zq178.con :=
  V.fo V.tab_nil Tryz.func284 (by kernel_rfl) (fun x y h => (show V.evBody zq178.E zq178.con Tryz.f284 x = _ from zq178.eq (V.p8_0 x) (V.p8_1 x)).trans (V.cfl (by kernel_rfl) h))
noncomputable abbrev zq137.con : V.Con := ⟨(.cons (.sl (.cons (.int .i64) .nil)) (.cons (.sl (.cons (.int .i64) .nil)) .nil)), (.cons .bool .nil), fun (x : List Int × List Int) => zq137 x.1 x.2, [], [(false, 1), (false, 1)], [(false, 1)], [false], []⟩
noncomputable abbrev zq137.E : V.Env := V.mkE V.tys [] [(8, [0, 1, 5], [])] [(6, 8)] [] [] []
noncomputable abbrev zq137.kt (x0 : List Int) (x1 : List Int) : V.Kt Bool := V.ktOf zq137.E zq137.con Tryz.f204 ((x0, x1) : List Int × List Int)
noncomputable abbrev zq137.s8 (x0 : List Int) (x1 : List Int) (v8_2 : Int) : V.St := ⟨[(0, .v false [.val (.sl (.cons (.int .i64) .nil) x0)]), (1, .v false [.val (.sl (.cons (.int .i64) .nil) x1)]), (5, .v false [.val (.int .i64 v8_2)])], []⟩
theorem zq137.r8 (x0 : List Int) (x1 : List Int) (R : V.St → Option Bool) (v8_2 : Int) : V.loopF zq137.E Tryz.f204.ntmps [1, 1, 0, 1, 0] [] (V.codeOf Tryz.f204) (zq137.kt x0 x1) R (zq137.s8 x0 x1 v8_2) = zq137.g8 x0 x1 (fun v8_2 => R (zq137.s8 x0 x1 v8_2)) v8_2 := by kernel_rfl
theorem zq137.e8 (x0 : List Int) (x1 : List Int) : ∀ (n : Nat) (v8_2 : Int), V.loopN (V.loopF zq137.E Tryz.f204.ntmps [1, 1, 0, 1, 0] [] (V.codeOf Tryz.f204) (zq137.kt x0 x1)) n (zq137.s8 x0 x1 v8_2) = zq137.l8 x0 x1 n v8_2 := by
  intro n
  induction n with
  | zero => intros; rw [V.loopN_z]; rfl
  | succ n ih =>
    intro v8_2
    rw [V.loopN_s, zq137.r8]
    simp only [ih]
    first | exact (zq137.u8 ..).symm | rfl
theorem zq137.v (x0 : List Int) (x1 : List Int) : V.evBody zq137.E zq137.con Tryz.f204 ((x0, x1) : List Int × List Int) = zq137.b x0 x1 (fun v8_2 => V.loopN (V.loopF zq137.E Tryz.f204.ntmps [1, 1, 0, 1, 0] [] (V.codeOf Tryz.f204) (zq137.kt x0 x1)) V.KK (zq137.s8 x0 x1 v8_2)) := by kernel_rfl
theorem zq137.eq (x0 : List Int) (x1 : List Int) : V.evBody zq137.E zq137.con Tryz.f204 ((x0, x1) : List Int × List Int) = zq137 x0 x1 := by
  rw [zq137.v]
  simp only [zq137.e8]
  rfl
theorem zq137.ok : V.Valid Tryz.prog 204 zq137.con :=
  V.fo V.tab_nil Tryz.func204 (by kernel_rfl) (fun x y h => (show V.evBody zq137.E zq137.con Tryz.f204 x = _ from zq137.eq x.1 x.2).trans (V.cfl (by kernel_rfl) h))
noncomputable abbrev zq138.con : V.Con := ⟨(.cons (.sl (.cons (.int .i64) .nil)) (.cons (.int .i64) (.cons (.sl (.cons (.int .i64) .nil)) (.cons (.int .i64) .nil)))), (.cons .bool .nil), fun (x : List Int × Int × List Int × Int) => zq138 (x.1, x.2.1) x.2.2, [], [(true, 2), (true, 2)], [(false, 1)], [false], []⟩
noncomputable abbrev zq138.E : V.Env := V.mkE V.tys [(204, zq137.con)] [] [] [] [] []
theorem zq138.eq (x0 : TKeys) (x1 : TKeys) : V.evBody zq138.E zq138.con Tryz.f307 ((x0.1, x0.2, x1.1, x1.2) : List Int × Int × List Int × Int) = zq138 x0 x1 := by kernel_rfl
theorem zq138.ok : V.Valid Tryz.prog 307 zq138.con :=
  V.fo (V.tab_cons zq137.ok V.tab_nil) Tryz.func307 (by kernel_rfl) (fun x y h => (show V.evBody zq138.E zq138.con Tryz.f307 x = _ from zq138.eq (x.1, x.2.1) x.2.2).trans (V.cfl (by kernel_rfl) h))
noncomputable abbrev zq166.con : V.Con := ⟨V.A8, (.cons .bool .nil), fun (x : V.D8) => zq166 (V.p8_0 x) (V.p8_1 x), [], [(true, 16), (true, 16)], [(false, 1)], [false], []⟩
noncomputable abbrev zq166.E : V.Env := V.mkE V.tys [] [] [] [] [] []
noncomputable abbrev zq166.kt (x0 : THead) (x1 : THead) : V.Kt Bool := V.ktOf zq166.E zq166.con Tryz.f308 (V.fl8 x0 x1)
noncomputable abbrev zq166.s (x0 : THead) (x1 : THead) : V.St := ⟨[(0, .v true [.val (.int .i64 x0.1), .val (.int .i64 x0.2.1), .val (.int .i64 x0.2.2.1), .val (.int .i64 x0.2.2.2.1), .val (.int .i64 x0.2.2.2.2.1), .val (.int .i64 x0.2.2.2.2.2.1), .val (.int .i64 x0.2.2.2.2.2.2.1), .val (.int .i64 x0.2.2.2.2.2.2.2.1), .val (.sl (.cons (.int .i64) .nil) x0.2.2.2.2.2.2.2.2.1), .val (.int .i64 x0.2.2.2.2.2.2.2.2.2.1), .val (.sl (.cons (.int .i64) .nil) x0.2.2.2.2.2.2.2.2.2.2.1), .val (.int .i64 x0.2.2.2.2.2.2.2.2.2.2.2.1), .val (.int .i64 x0.2.2.2.2.2.2.2.2.2.2.2.2.1), .val (.sl (.cons (.int .i64) .nil) x0.2.2.2.2.2.2.2.2.2.2.2.2.2.1), .val (.int .i64 x0.2.2.2.2.2.2.2.2.2.2.2.2.2.2.1), .val (.bool x0.2.2.2.2.2.2.2.2.2.2.2.2.2.2.2)]), (1, .v true [.val (.int .i64 x1.1), .val (.int .i64 x1.2.1), .val (.int .i64 x1.2.2.1), .val (.int .i64 x1.2.2.2.1), .val (.int .i64 x1.2.2.2.2.1), .val (.int .i64 x1.2.2.2.2.2.1), .val (.int .i64 x1.2.2.2.2.2.2.1), .val (.int .i64 x1.2.2.2.2.2.2.2.1), .val (.sl (.cons (.int .i64) .nil) x1.2.2.2.2.2.2.2.2.1), .val (.int .i64 x1.2.2.2.2.2.2.2.2.2.1), .val (.sl (.cons (.int .i64) .nil) x1.2.2.2.2.2.2.2.2.2.2.1), .val (.int .i64 x1.2.2.2.2.2.2.2.2.2.2.2.1), .val (.int .i64 x1.2.2.2.2.2.2.2.2.2.2.2.2.1), .val (.sl (.cons (.int .i64) .nil) x1.2.2.2.2.2.2.2.2.2.2.2.2.2.1), .val (.int .i64 x1.2.2.2.2.2.2.2.2.2.2.2.2.2.2.1), .val (.bool x1.2.2.2.2.2.2.2.2.2.2.2.2.2.2.2)])], []⟩
theorem zq166.v0 (x0 : THead) (x1 : THead) : V.evBody zq166.E zq166.con Tryz.f308 (V.fl8 x0 x1) = V.evC zq166.E Tryz.f308.ntmps (V.codeOf Tryz.f308) (zq166.kt x0 x1) (zq166.s x0 x1) := by kernel_rfl
theorem zq166.v (x0 : THead) (x1 : THead) : V.evC zq166.E Tryz.f308.ntmps (V.codeOf Tryz.f308) (zq166.kt x0 x1) (zq166.s x0 x1) = zq166 x0 x1 := by kernel_rfl
theorem zq166.eq (x0 : THead) (x1 : THead) : V.evBody zq166.E zq166.con Tryz.f308 (V.fl8 x0 x1) = zq166 x0 x1 := (zq166.v0 x0 x1).trans (zq166.v x0 x1)
theorem zq166.ok : V.Valid Tryz.prog 308 zq166.con :=
  V.fo V.tab_nil Tryz.func308 (by kernel_rfl) (fun x y h => (show V.evBody zq166.E zq166.con Tryz.f308 x = _ from zq166.eq (V.p8_0 x) (V.p8_1 x)).trans (V.cfl (by kernel_rfl) h))
noncomputable abbrev zq176.con : V.Con := ⟨V.A8, (.cons (.int .i64) .nil), fun (x : V.D8) => zq176 (V.p8_0 x) (V.p8_1 x), [], [(true, 16), (true, 16)], [(false, 1)], [false], []⟩
noncomputable abbrev zq176.E : V.Env := V.mkE V.tys [(246, zq163.con), (307, zq138.con), (308, zq166.con)] [(9, [2, 3, 8], [])] [] [] [] []
noncomputable abbrev zq176.kt (x0 : THead) (x1 : THead) : V.Kt Int := V.ktOf zq176.E zq176.con Tryz.f285 (V.fl8 x0 x1)
noncomputable abbrev zq176.s9 (x0 : THead) (x1 : THead) (v9_0 : Bool) : V.St := ⟨[(2, .v false [.ptr 64000 0]), (3, .v false [.ptr 64064 0]), (8, .v false [.val (.bool v9_0)])], [(64000, .box [.val (.int .i64 x0.1), .val (.int .i64 x0.2.1), .val (.int .i64 x0.2.2.1), .val (.int .i64 x0.2.2.2.1), .val (.int .i64 x0.2.2.2.2.1), .val (.int .i64 x0.2.2.2.2.2.1), .val (.int .i64 x0.2.2.2.2.2.2.1), .val (.int .i64 x0.2.2.2.2.2.2.2.1), .val (.sl (.cons (.int .i64) .nil) x0.2.2.2.2.2.2.2.2.1), .val (.int .i64 x0.2.2.2.2.2.2.2.2.2.1), .val (.sl (.cons (.int .i64) .nil) x0.2.2.2.2.2.2.2.2.2.2.1), .val (.int .i64 x0.2.2.2.2.2.2.2.2.2.2.2.1), .val (.int .i64 x0.2.2.2.2.2.2.2.2.2.2.2.2.1), .val (.sl (.cons (.int .i64) .nil) x0.2.2.2.2.2.2.2.2.2.2.2.2.2.1), .val (.int .i64 x0.2.2.2.2.2.2.2.2.2.2.2.2.2.2.1), .val (.bool x0.2.2.2.2.2.2.2.2.2.2.2.2.2.2.2)]), (64064, .box [.val (.int .i64 x1.1), .val (.int .i64 x1.2.1), .val (.int .i64 x1.2.2.1), .val (.int .i64 x1.2.2.2.1), .val (.int .i64 x1.2.2.2.2.1), .val (.int .i64 x1.2.2.2.2.2.1), .val (.int .i64 x1.2.2.2.2.2.2.1), .val (.int .i64 x1.2.2.2.2.2.2.2.1), .val (.sl (.cons (.int .i64) .nil) x1.2.2.2.2.2.2.2.2.1), .val (.int .i64 x1.2.2.2.2.2.2.2.2.2.1), .val (.sl (.cons (.int .i64) .nil) x1.2.2.2.2.2.2.2.2.2.2.1), .val (.int .i64 x1.2.2.2.2.2.2.2.2.2.2.2.1), .val (.int .i64 x1.2.2.2.2.2.2.2.2.2.2.2.2.1), .val (.sl (.cons (.int .i64) .nil) x1.2.2.2.2.2.2.2.2.2.2.2.2.2.1), .val (.int .i64 x1.2.2.2.2.2.2.2.2.2.2.2.2.2.2.1), .val (.bool x1.2.2.2.2.2.2.2.2.2.2.2.2.2.2.2)])]⟩
theorem zq176.r9 (x0 : THead) (x1 : THead) (v9_0 : Bool) : V.joinF zq176.E Tryz.f285.ntmps [1, 0, 0, 1, 1] [] (V.codeOf Tryz.f285) (zq176.kt x0 x1) (zq176.s9 x0 x1 v9_0) = zq176.g9 x0 x1 v9_0 := by kernel_rfl
theorem zq176.e9 (x0 : THead) (x1 : THead) (v9_0 : Bool) : V.jn (V.joinF zq176.E Tryz.f285.ntmps [1, 0, 0, 1, 1] [] (V.codeOf Tryz.f285) (zq176.kt x0 x1)) (zq176.s9 x0 x1 v9_0) = zq176.l9 x0 x1 v9_0 := by
  rw [V.jn_eq, zq176.r9]
  rfl
noncomputable abbrev zq176.s (x0 : THead) (x1 : THead) : V.St := ⟨[(0, .v true [.val (.int .i64 x0.1), .val (.int .i64 x0.2.1), .val (.int .i64 x0.2.2.1), .val (.int .i64 x0.2.2.2.1), .val (.int .i64 x0.2.2.2.2.1), .val (.int .i64 x0.2.2.2.2.2.1), .val (.int .i64 x0.2.2.2.2.2.2.1), .val (.int .i64 x0.2.2.2.2.2.2.2.1), .val (.sl (.cons (.int .i64) .nil) x0.2.2.2.2.2.2.2.2.1), .val (.int .i64 x0.2.2.2.2.2.2.2.2.2.1), .val (.sl (.cons (.int .i64) .nil) x0.2.2.2.2.2.2.2.2.2.2.1), .val (.int .i64 x0.2.2.2.2.2.2.2.2.2.2.2.1), .val (.int .i64 x0.2.2.2.2.2.2.2.2.2.2.2.2.1), .val (.sl (.cons (.int .i64) .nil) x0.2.2.2.2.2.2.2.2.2.2.2.2.2.1), .val (.int .i64 x0.2.2.2.2.2.2.2.2.2.2.2.2.2.2.1), .val (.bool x0.2.2.2.2.2.2.2.2.2.2.2.2.2.2.2)]), (1, .v true [.val (.int .i64 x1.1), .val (.int .i64 x1.2.1), .val (.int .i64 x1.2.2.1), .val (.int .i64 x1.2.2.2.1), .val (.int .i64 x1.2.2.2.2.1), .val (.int .i64 x1.2.2.2.2.2.1), .val (.int .i64 x1.2.2.2.2.2.2.1), .val (.int .i64 x1.2.2.2.2.2.2.2.1), .val (.sl (.cons (.int .i64) .nil) x1.2.2.2.2.2.2.2.2.1), .val (.int .i64 x1.2.2.2.2.2.2.2.2.2.1), .val (.sl (.cons (.int .i64) .nil) x1.2.2.2.2.2.2.2.2.2.2.1), .val (.int .i64 x1.2.2.2.2.2.2.2.2.2.2.2.1), .val (.int .i64 x1.2.2.2.2.2.2.2.2.2.2.2.2.1), .val (.sl (.cons (.int .i64) .nil) x1.2.2.2.2.2.2.2.2.2.2.2.2.2.1), .val (.int .i64 x1.2.2.2.2.2.2.2.2.2.2.2.2.2.2.1), .val (.bool x1.2.2.2.2.2.2.2.2.2.2.2.2.2.2.2)])], []⟩
theorem zq176.v0 (x0 : THead) (x1 : THead) : V.evBody zq176.E zq176.con Tryz.f285 (V.fl8 x0 x1) = V.evC zq176.E Tryz.f285.ntmps (V.codeOf Tryz.f285) (zq176.kt x0 x1) (zq176.s x0 x1) := by kernel_rfl
theorem zq176.v (x0 : THead) (x1 : THead) : V.evC zq176.E Tryz.f285.ntmps (V.codeOf Tryz.f285) (zq176.kt x0 x1) (zq176.s x0 x1) = zq176.b x0 x1 (fun v9_0 => V.jn (V.joinF zq176.E Tryz.f285.ntmps [1, 0, 0, 1, 1] [] (V.codeOf Tryz.f285) (zq176.kt x0 x1)) (zq176.s9 x0 x1 v9_0)) := by kernel_rfl
theorem zq176.eq (x0 : THead) (x1 : THead) : V.evBody zq176.E zq176.con Tryz.f285 (V.fl8 x0 x1) = zq176 x0 x1 := by
  rw [zq176.v0, zq176.v]
  simp only [zq176.e9]
  rfl
theorem zq176.ok : V.Valid Tryz.prog 285 zq176.con :=
  V.fo (V.tab_cons zq163.ok (V.tab_cons zq138.ok (V.tab_cons zq166.ok V.tab_nil))) Tryz.func285 (by kernel_rfl) (fun x y h => (show V.evBody zq176.E zq176.con Tryz.f285 x = _ from zq176.eq (V.p8_0 x) (V.p8_1 x)).trans (V.cfl (by kernel_rfl) h))
noncomputable abbrev zq177.con : V.Con := ⟨V.A8, (.cons (.int .i64) .nil), fun (x : V.D8) => zq177 (V.p8_0 x) (V.p8_1 x), [], [(true, 16), (true, 16)], [(false, 1)], [false], []⟩
noncomputable abbrev zq177.E : V.Env := V.mkE V.tys [(246, zq163.con), (307, zq138.con), (308, zq166.con)] [(9, [2, 3, 9], [])] [] [] [] []
noncomputable abbrev zq177.kt (x0 : THead) (x1 : THead) : V.Kt Int := V.ktOf zq177.E zq177.con Tryz.f286 (V.fl8 x0 x1)
noncomputable abbrev zq177.s9 (x0 : THead) (x1 : THead) (v9_0 : Bool) : V.St := ⟨[(2, .v false [.ptr 64000 0]), (3, .v false [.ptr 64064 0]), (9, .v false [.val (.bool v9_0)])], [(64000, .box [.val (.int .i64 x0.1), .val (.int .i64 x0.2.1), .val (.int .i64 x0.2.2.1), .val (.int .i64 x0.2.2.2.1), .val (.int .i64 x0.2.2.2.2.1), .val (.int .i64 x0.2.2.2.2.2.1), .val (.int .i64 x0.2.2.2.2.2.2.1), .val (.int .i64 x0.2.2.2.2.2.2.2.1), .val (.sl (.cons (.int .i64) .nil) x0.2.2.2.2.2.2.2.2.1), .val (.int .i64 x0.2.2.2.2.2.2.2.2.2.1), .val (.sl (.cons (.int .i64) .nil) x0.2.2.2.2.2.2.2.2.2.2.1), .val (.int .i64 x0.2.2.2.2.2.2.2.2.2.2.2.1), .val (.int .i64 x0.2.2.2.2.2.2.2.2.2.2.2.2.1), .val (.sl (.cons (.int .i64) .nil) x0.2.2.2.2.2.2.2.2.2.2.2.2.2.1), .val (.int .i64 x0.2.2.2.2.2.2.2.2.2.2.2.2.2.2.1), .val (.bool x0.2.2.2.2.2.2.2.2.2.2.2.2.2.2.2)]), (64064, .box [.val (.int .i64 x1.1), .val (.int .i64 x1.2.1), .val (.int .i64 x1.2.2.1), .val (.int .i64 x1.2.2.2.1), .val (.int .i64 x1.2.2.2.2.1), .val (.int .i64 x1.2.2.2.2.2.1), .val (.int .i64 x1.2.2.2.2.2.2.1), .val (.int .i64 x1.2.2.2.2.2.2.2.1), .val (.sl (.cons (.int .i64) .nil) x1.2.2.2.2.2.2.2.2.1), .val (.int .i64 x1.2.2.2.2.2.2.2.2.2.1), .val (.sl (.cons (.int .i64) .nil) x1.2.2.2.2.2.2.2.2.2.2.1), .val (.int .i64 x1.2.2.2.2.2.2.2.2.2.2.2.1), .val (.int .i64 x1.2.2.2.2.2.2.2.2.2.2.2.2.1), .val (.sl (.cons (.int .i64) .nil) x1.2.2.2.2.2.2.2.2.2.2.2.2.2.1), .val (.int .i64 x1.2.2.2.2.2.2.2.2.2.2.2.2.2.2.1), .val (.bool x1.2.2.2.2.2.2.2.2.2.2.2.2.2.2.2)])]⟩
theorem zq177.r9 (x0 : THead) (x1 : THead) (v9_0 : Bool) : V.joinF zq177.E Tryz.f286.ntmps [1, 0, 0, 1, 1] [] (V.codeOf Tryz.f286) (zq177.kt x0 x1) (zq177.s9 x0 x1 v9_0) = zq177.g9 x0 x1 v9_0 := by kernel_rfl
theorem zq177.e9 (x0 : THead) (x1 : THead) (v9_0 : Bool) : V.jn (V.joinF zq177.E Tryz.f286.ntmps [1, 0, 0, 1, 1] [] (V.codeOf Tryz.f286) (zq177.kt x0 x1)) (zq177.s9 x0 x1 v9_0) = zq177.l9 x0 x1 v9_0 := by
  rw [V.jn_eq, zq177.r9]
  rfl
noncomputable abbrev zq177.s (x0 : THead) (x1 : THead) : V.St := ⟨[(0, .v true [.val (.int .i64 x0.1), .val (.int .i64 x0.2.1), .val (.int .i64 x0.2.2.1), .val (.int .i64 x0.2.2.2.1), .val (.int .i64 x0.2.2.2.2.1), .val (.int .i64 x0.2.2.2.2.2.1), .val (.int .i64 x0.2.2.2.2.2.2.1), .val (.int .i64 x0.2.2.2.2.2.2.2.1), .val (.sl (.cons (.int .i64) .nil) x0.2.2.2.2.2.2.2.2.1), .val (.int .i64 x0.2.2.2.2.2.2.2.2.2.1), .val (.sl (.cons (.int .i64) .nil) x0.2.2.2.2.2.2.2.2.2.2.1), .val (.int .i64 x0.2.2.2.2.2.2.2.2.2.2.2.1), .val (.int .i64 x0.2.2.2.2.2.2.2.2.2.2.2.2.1), .val (.sl (.cons (.int .i64) .nil) x0.2.2.2.2.2.2.2.2.2.2.2.2.2.1), .val (.int .i64 x0.2.2.2.2.2.2.2.2.2.2.2.2.2.2.1), .val (.bool x0.2.2.2.2.2.2.2.2.2.2.2.2.2.2.2)]), (1, .v true [.val (.int .i64 x1.1), .val (.int .i64 x1.2.1), .val (.int .i64 x1.2.2.1), .val (.int .i64 x1.2.2.2.1), .val (.int .i64 x1.2.2.2.2.1), .val (.int .i64 x1.2.2.2.2.2.1), .val (.int .i64 x1.2.2.2.2.2.2.1), .val (.int .i64 x1.2.2.2.2.2.2.2.1), .val (.sl (.cons (.int .i64) .nil) x1.2.2.2.2.2.2.2.2.1), .val (.int .i64 x1.2.2.2.2.2.2.2.2.2.1), .val (.sl (.cons (.int .i64) .nil) x1.2.2.2.2.2.2.2.2.2.2.1), .val (.int .i64 x1.2.2.2.2.2.2.2.2.2.2.2.1), .val (.int .i64 x1.2.2.2.2.2.2.2.2.2.2.2.2.1), .val (.sl (.cons (.int .i64) .nil) x1.2.2.2.2.2.2.2.2.2.2.2.2.2.1), .val (.int .i64 x1.2.2.2.2.2.2.2.2.2.2.2.2.2.2.1), .val (.bool x1.2.2.2.2.2.2.2.2.2.2.2.2.2.2.2)])], []⟩
theorem zq177.v0 (x0 : THead) (x1 : THead) : V.evBody zq177.E zq177.con Tryz.f286 (V.fl8 x0 x1) = V.evC zq177.E Tryz.f286.ntmps (V.codeOf Tryz.f286) (zq177.kt x0 x1) (zq177.s x0 x1) := by kernel_rfl
theorem zq177.v (x0 : THead) (x1 : THead) : V.evC zq177.E Tryz.f286.ntmps (V.codeOf Tryz.f286) (zq177.kt x0 x1) (zq177.s x0 x1) = zq177.b x0 x1 (fun v9_0 => V.jn (V.joinF zq177.E Tryz.f286.ntmps [1, 0, 0, 1, 1] [] (V.codeOf Tryz.f286) (zq177.kt x0 x1)) (zq177.s9 x0 x1 v9_0)) := by kernel_rfl
theorem zq177.eq (x0 : THead) (x1 : THead) : V.evBody zq177.E zq177.con Tryz.f286 (V.fl8 x0 x1) = zq177 x0 x1 := by
  rw [zq177.v0, zq177.v]
  simp only [zq177.e9]
  rfl
theorem zq177.ok : V.Valid Tryz.prog 286 zq177.con :=
  V.fo (V.tab_cons zq163.ok (V.tab_cons zq138.ok (V.tab_cons zq166.ok V.tab_nil))) Tryz.func286 (by kernel_rfl) (fun x y h => (show V.evBody zq177.E zq177.con Tryz.f286 x = _ from zq177.eq (V.p8_0 x) (V.p8_1 x)).trans (V.cfl (by kernel_rfl) h))
noncomputable abbrev zq162.con : V.Con := ⟨V.A9, (.cons (.int .i64) .nil), fun (x : V.D9) => zq162 (V.p9_0 x) (V.p9_1 x), [], [(true, 16), (true, 17)], [(false, 1)], [false], []⟩
noncomputable abbrev zq162.E : V.Env := V.mkE V.tys [(183, zq148.con), (185, zq142.con), (205, zq143.con), (284, zq178.con), (285, zq176.con), (286, zq177.con), (287, zq153.con)] [(9, [2, 3, 5], []), (13, [2, 3, 5], []), (31, [3, 5, 6, 7], [])] [(4, 25), (15, 8)] [] [] []
noncomputable abbrev zq162.kt (x0 : THead) (x1 : TSigned) : V.Kt Int := V.ktOf zq162.E zq162.con Tryz.f242 (V.fl9 x0 x1)
noncomputable abbrev zq162.s31 (x1 : TSigned) (v31_0 : Int) (v31_34 : List Int) (v31_35 : Int) : V.St := ⟨[(3, .v false [.ptr 64064 0]), (5, .v false [.ptr 128128 0]), (6, .v false [.val (.int .i64 v31_0)]), (7, .v false [.ptr 512128 0])], [(64064, .box [.val (.int .i64 x1.1), .val (.int .i64 x1.2.1), .val (.int .i64 x1.2.2.1), .val (.int .i64 x1.2.2.2.1), .val (.int .i64 x1.2.2.2.2.1), .val (.int .i64 x1.2.2.2.2.2.1), .val (.int .i64 x1.2.2.2.2.2.2.1), .val (.int .i64 x1.2.2.2.2.2.2.2.1), .val (.sl (.cons (.int .i64) .nil) x1.2.2.2.2.2.2.2.2.1), .val (.int .i64 x1.2.2.2.2.2.2.2.2.2.1), .val (.sl (.cons (.int .i64) .nil) x1.2.2.2.2.2.2.2.2.2.2.1), .val (.int .i64 x1.2.2.2.2.2.2.2.2.2.2.2.1), .val (.int .i64 x1.2.2.2.2.2.2.2.2.2.2.2.2.1), .val (.sl (.cons (.int .i64) .nil) x1.2.2.2.2.2.2.2.2.2.2.2.2.2.1), .val (.int .i64 x1.2.2.2.2.2.2.2.2.2.2.2.2.2.2.1), .val (.bool x1.2.2.2.2.2.2.2.2.2.2.2.2.2.2.2.1), .val (.sl (.cons (.int .i64) (.cons (.int .i64) .nil)) x1.2.2.2.2.2.2.2.2.2.2.2.2.2.2.2.2)]), (128128, .box [.val (.int .i64 x1.1), .val (.int .i64 x1.2.1), .val (.int .i64 x1.2.2.1), .val (.int .i64 x1.2.2.2.1), .val (.int .i64 x1.2.2.2.2.1), .val (.int .i64 x1.2.2.2.2.2.1), .val (.int .i64 x1.2.2.2.2.2.2.1), .val (.int .i64 x1.2.2.2.2.2.2.2.1), .val (.sl (.cons (.int .i64) .nil) x1.2.2.2.2.2.2.2.2.1), .val (.int .i64 x1.2.2.2.2.2.2.2.2.2.1), .val (.sl (.cons (.int .i64) .nil) x1.2.2.2.2.2.2.2.2.2.2.1), .val (.int .i64 x1.2.2.2.2.2.2.2.2.2.2.2.1), .val (.int .i64 x1.2.2.2.2.2.2.2.2.2.2.2.2.1), .val (.sl (.cons (.int .i64) .nil) x1.2.2.2.2.2.2.2.2.2.2.2.2.2.1), .val (.int .i64 x1.2.2.2.2.2.2.2.2.2.2.2.2.2.2.1), .val (.bool x1.2.2.2.2.2.2.2.2.2.2.2.2.2.2.2.1)]), (512128, .box [.val (.sl (.cons (.int .i64) .nil) v31_34), .val (.int .i64 v31_35)])]⟩
noncomputable abbrev zq162.s13 (x0 : THead) (x1 : TSigned) : V.St := ⟨[(2, .v false [.ptr 64000 0]), (3, .v false [.ptr 64064 0]), (5, .v false [.ptr 128128 0])], [(64000, .box [.val (.int .i64 x0.1), .val (.int .i64 x0.2.1), .val (.int .i64 x0.2.2.1), .val (.int .i64 x0.2.2.2.1), .val (.int .i64 x0.2.2.2.2.1), .val (.int .i64 x0.2.2.2.2.2.1), .val (.int .i64 x0.2.2.2.2.2.2.1), .val (.int .i64 x0.2.2.2.2.2.2.2.1), .val (.sl (.cons (.int .i64) .nil) x0.2.2.2.2.2.2.2.2.1), .val (.int .i64 x0.2.2.2.2.2.2.2.2.2.1), .val (.sl (.cons (.int .i64) .nil) x0.2.2.2.2.2.2.2.2.2.2.1), .val (.int .i64 x0.2.2.2.2.2.2.2.2.2.2.2.1), .val (.int .i64 x0.2.2.2.2.2.2.2.2.2.2.2.2.1), .val (.sl (.cons (.int .i64) .nil) x0.2.2.2.2.2.2.2.2.2.2.2.2.2.1), .val (.int .i64 x0.2.2.2.2.2.2.2.2.2.2.2.2.2.2.1), .val (.bool x0.2.2.2.2.2.2.2.2.2.2.2.2.2.2.2)]), (64064, .box [.val (.int .i64 x1.1), .val (.int .i64 x1.2.1), .val (.int .i64 x1.2.2.1), .val (.int .i64 x1.2.2.2.1), .val (.int .i64 x1.2.2.2.2.1), .val (.int .i64 x1.2.2.2.2.2.1), .val (.int .i64 x1.2.2.2.2.2.2.1), .val (.int .i64 x1.2.2.2.2.2.2.2.1), .val (.sl (.cons (.int .i64) .nil) x1.2.2.2.2.2.2.2.2.1), .val (.int .i64 x1.2.2.2.2.2.2.2.2.2.1), .val (.sl (.cons (.int .i64) .nil) x1.2.2.2.2.2.2.2.2.2.2.1), .val (.int .i64 x1.2.2.2.2.2.2.2.2.2.2.2.1), .val (.int .i64 x1.2.2.2.2.2.2.2.2.2.2.2.2.1), .val (.sl (.cons (.int .i64) .nil) x1.2.2.2.2.2.2.2.2.2.2.2.2.2.1), .val (.int .i64 x1.2.2.2.2.2.2.2.2.2.2.2.2.2.2.1), .val (.bool x1.2.2.2.2.2.2.2.2.2.2.2.2.2.2.2.1), .val (.sl (.cons (.int .i64) (.cons (.int .i64) .nil)) x1.2.2.2.2.2.2.2.2.2.2.2.2.2.2.2.2)]), (128128, .box [.val (.int .i64 x1.1), .val (.int .i64 x1.2.1), .val (.int .i64 x1.2.2.1), .val (.int .i64 x1.2.2.2.1), .val (.int .i64 x1.2.2.2.2.1), .val (.int .i64 x1.2.2.2.2.2.1), .val (.int .i64 x1.2.2.2.2.2.2.1), .val (.int .i64 x1.2.2.2.2.2.2.2.1), .val (.sl (.cons (.int .i64) .nil) x1.2.2.2.2.2.2.2.2.1), .val (.int .i64 x1.2.2.2.2.2.2.2.2.2.1), .val (.sl (.cons (.int .i64) .nil) x1.2.2.2.2.2.2.2.2.2.2.1), .val (.int .i64 x1.2.2.2.2.2.2.2.2.2.2.2.1), .val (.int .i64 x1.2.2.2.2.2.2.2.2.2.2.2.2.1), .val (.sl (.cons (.int .i64) .nil) x1.2.2.2.2.2.2.2.2.2.2.2.2.2.1), .val (.int .i64 x1.2.2.2.2.2.2.2.2.2.2.2.2.2.2.1), .val (.bool x1.2.2.2.2.2.2.2.2.2.2.2.2.2.2.2.1)])]⟩
noncomputable abbrev zq162.s9 (x0 : THead) (x1 : TSigned) : V.St := ⟨[(2, .v false [.ptr 64000 0]), (3, .v false [.ptr 64064 0]), (5, .v false [.ptr 128128 0])], [(64000, .box [.val (.int .i64 x0.1), .val (.int .i64 x0.2.1), .val (.int .i64 x0.2.2.1), .val (.int .i64 x0.2.2.2.1), .val (.int .i64 x0.2.2.2.2.1), .val (.int .i64 x0.2.2.2.2.2.1), .val (.int .i64 x0.2.2.2.2.2.2.1), .val (.int .i64 x0.2.2.2.2.2.2.2.1), .val (.sl (.cons (.int .i64) .nil) x0.2.2.2.2.2.2.2.2.1), .val (.int .i64 x0.2.2.2.2.2.2.2.2.2.1), .val (.sl (.cons (.int .i64) .nil) x0.2.2.2.2.2.2.2.2.2.2.1), .val (.int .i64 x0.2.2.2.2.2.2.2.2.2.2.2.1), .val (.int .i64 x0.2.2.2.2.2.2.2.2.2.2.2.2.1), .val (.sl (.cons (.int .i64) .nil) x0.2.2.2.2.2.2.2.2.2.2.2.2.2.1), .val (.int .i64 x0.2.2.2.2.2.2.2.2.2.2.2.2.2.2.1), .val (.bool x0.2.2.2.2.2.2.2.2.2.2.2.2.2.2.2)]), (64064, .box [.val (.int .i64 x1.1), .val (.int .i64 x1.2.1), .val (.int .i64 x1.2.2.1), .val (.int .i64 x1.2.2.2.1), .val (.int .i64 x1.2.2.2.2.1), .val (.int .i64 x1.2.2.2.2.2.1), .val (.int .i64 x1.2.2.2.2.2.2.1), .val (.int .i64 x1.2.2.2.2.2.2.2.1), .val (.sl (.cons (.int .i64) .nil) x1.2.2.2.2.2.2.2.2.1), .val (.int .i64 x1.2.2.2.2.2.2.2.2.2.1), .val (.sl (.cons (.int .i64) .nil) x1.2.2.2.2.2.2.2.2.2.2.1), .val (.int .i64 x1.2.2.2.2.2.2.2.2.2.2.2.1), .val (.int .i64 x1.2.2.2.2.2.2.2.2.2.2.2.2.1), .val (.sl (.cons (.int .i64) .nil) x1.2.2.2.2.2.2.2.2.2.2.2.2.2.1), .val (.int .i64 x1.2.2.2.2.2.2.2.2.2.2.2.2.2.2.1), .val (.bool x1.2.2.2.2.2.2.2.2.2.2.2.2.2.2.2.1), .val (.sl (.cons (.int .i64) (.cons (.int .i64) .nil)) x1.2.2.2.2.2.2.2.2.2.2.2.2.2.2.2.2)]), (128128, .box [.val (.int .i64 x1.1), .val (.int .i64 x1.2.1), .val (.int .i64 x1.2.2.1), .val (.int .i64 x1.2.2.2.1), .val (.int .i64 x1.2.2.2.2.1), .val (.int .i64 x1.2.2.2.2.2.1), .val (.int .i64 x1.2.2.2.2.2.2.1), .val (.int .i64 x1.2.2.2.2.2.2.2.1), .val (.sl (.cons (.int .i64) .nil) x1.2.2.2.2.2.2.2.2.1), .val (.int .i64 x1.2.2.2.2.2.2.2.2.2.1), .val (.sl (.cons (.int .i64) .nil) x1.2.2.2.2.2.2.2.2.2.2.1), .val (.int .i64 x1.2.2.2.2.2.2.2.2.2.2.2.1), .val (.int .i64 x1.2.2.2.2.2.2.2.2.2.2.2.2.1), .val (.sl (.cons (.int .i64) .nil) x1.2.2.2.2.2.2.2.2.2.2.2.2.2.1), .val (.int .i64 x1.2.2.2.2.2.2.2.2.2.2.2.2.2.2.1), .val (.bool x1.2.2.2.2.2.2.2.2.2.2.2.2.2.2.2.1)])]⟩
theorem zq162.r31 (x0 : THead) (x1 : TSigned) (v31_0 : Int) (v31_34 : List Int) (v31_35 : Int) : V.joinF zq162.E Tryz.f242.ntmps [1, 1, 1, 1, 1, 1] [] (V.codeOf Tryz.f242) (zq162.kt x0 x1) (zq162.s31 x1 v31_0 v31_34 v31_35) = zq162.g31 x1 v31_0 v31_34 v31_35 := by kernel_rfl
theorem zq162.e31 (x0 : THead) (x1 : TSigned) (v31_0 : Int) (v31_34 : List Int) (v31_35 : Int) : V.jn (V.joinF zq162.E Tryz.f242.ntmps [1, 1, 1, 1, 1, 1] [] (V.codeOf Tryz.f242) (zq162.kt x0 x1)) (zq162.s31 x1 v31_0 v31_34 v31_35) = zq162.l31 x1 v31_0 v31_34 v31_35 := by
  rw [V.jn_eq, zq162.r31]
  rfl
theorem zq162.r13 (x0 : THead) (x1 : TSigned) : V.joinF zq162.E Tryz.f242.ntmps [1, 1, 1] [] (V.codeOf Tryz.f242) (zq162.kt x0 x1) (zq162.s13 x0 x1) = zq162.g13 x0 x1 (fun v31_0 v31_34 v31_35 => V.jn (V.joinF zq162.E Tryz.f242.ntmps [1, 1, 1, 1, 1, 1] [] (V.codeOf Tryz.f242) (zq162.kt x0 x1)) (zq162.s31 x1 v31_0 v31_34 v31_35)) := by kernel_rfl
theorem zq162.e13 (x0 : THead) (x1 : TSigned) : V.jn (V.joinF zq162.E Tryz.f242.ntmps [1, 1, 1] [] (V.codeOf Tryz.f242) (zq162.kt x0 x1)) (zq162.s13 x0 x1) = zq162.l13 x0 x1 := by
  rw [V.jn_eq, zq162.r13]
  simp only [zq162.e31]
  rfl
theorem zq162.r9 (x0 : THead) (x1 : TSigned) : V.joinF zq162.E Tryz.f242.ntmps [1, 1] [] (V.codeOf Tryz.f242) (zq162.kt x0 x1) (zq162.s9 x0 x1) = zq162.g9 x0 x1 (V.jn (V.joinF zq162.E Tryz.f242.ntmps [1, 1, 1] [] (V.codeOf Tryz.f242) (zq162.kt x0 x1)) (zq162.s13 x0 x1)) := by kernel_rfl
theorem zq162.e9 (x0 : THead) (x1 : TSigned) : V.jn (V.joinF zq162.E Tryz.f242.ntmps [1, 1] [] (V.codeOf Tryz.f242) (zq162.kt x0 x1)) (zq162.s9 x0 x1) = zq162.l9 x0 x1 := by
  rw [V.jn_eq, zq162.r9]
  simp only [zq162.e13]
  rfl
noncomputable abbrev zq162.s (x0 : THead) (x1 : TSigned) : V.St := ⟨[(0, .v true [.val (.int .i64 x0.1), .val (.int .i64 x0.2.1), .val (.int .i64 x0.2.2.1), .val (.int .i64 x0.2.2.2.1), .val (.int .i64 x0.2.2.2.2.1), .val (.int .i64 x0.2.2.2.2.2.1), .val (.int .i64 x0.2.2.2.2.2.2.1), .val (.int .i64 x0.2.2.2.2.2.2.2.1), .val (.sl (.cons (.int .i64) .nil) x0.2.2.2.2.2.2.2.2.1), .val (.int .i64 x0.2.2.2.2.2.2.2.2.2.1), .val (.sl (.cons (.int .i64) .nil) x0.2.2.2.2.2.2.2.2.2.2.1), .val (.int .i64 x0.2.2.2.2.2.2.2.2.2.2.2.1), .val (.int .i64 x0.2.2.2.2.2.2.2.2.2.2.2.2.1), .val (.sl (.cons (.int .i64) .nil) x0.2.2.2.2.2.2.2.2.2.2.2.2.2.1), .val (.int .i64 x0.2.2.2.2.2.2.2.2.2.2.2.2.2.2.1), .val (.bool x0.2.2.2.2.2.2.2.2.2.2.2.2.2.2.2)]), (1, .v true [.val (.int .i64 x1.1), .val (.int .i64 x1.2.1), .val (.int .i64 x1.2.2.1), .val (.int .i64 x1.2.2.2.1), .val (.int .i64 x1.2.2.2.2.1), .val (.int .i64 x1.2.2.2.2.2.1), .val (.int .i64 x1.2.2.2.2.2.2.1), .val (.int .i64 x1.2.2.2.2.2.2.2.1), .val (.sl (.cons (.int .i64) .nil) x1.2.2.2.2.2.2.2.2.1), .val (.int .i64 x1.2.2.2.2.2.2.2.2.2.1), .val (.sl (.cons (.int .i64) .nil) x1.2.2.2.2.2.2.2.2.2.2.1), .val (.int .i64 x1.2.2.2.2.2.2.2.2.2.2.2.1), .val (.int .i64 x1.2.2.2.2.2.2.2.2.2.2.2.2.1), .val (.sl (.cons (.int .i64) .nil) x1.2.2.2.2.2.2.2.2.2.2.2.2.2.1), .val (.int .i64 x1.2.2.2.2.2.2.2.2.2.2.2.2.2.2.1), .val (.bool x1.2.2.2.2.2.2.2.2.2.2.2.2.2.2.2.1), .val (.sl (.cons (.int .i64) (.cons (.int .i64) .nil)) x1.2.2.2.2.2.2.2.2.2.2.2.2.2.2.2.2)])], []⟩
theorem zq162.v0 (x0 : THead) (x1 : TSigned) : V.evBody zq162.E zq162.con Tryz.f242 (V.fl9 x0 x1) = V.evC zq162.E Tryz.f242.ntmps (V.codeOf Tryz.f242) (zq162.kt x0 x1) (zq162.s x0 x1) := by kernel_rfl
theorem zq162.v (x0 : THead) (x1 : TSigned) : V.evC zq162.E Tryz.f242.ntmps (V.codeOf Tryz.f242) (zq162.kt x0 x1) (zq162.s x0 x1) = zq162.b x0 x1 (V.jn (V.joinF zq162.E Tryz.f242.ntmps [1, 1] [] (V.codeOf Tryz.f242) (zq162.kt x0 x1)) (zq162.s9 x0 x1)) := by kernel_rfl
theorem zq162.eq (x0 : THead) (x1 : TSigned) : V.evBody zq162.E zq162.con Tryz.f242 (V.fl9 x0 x1) = zq162 x0 x1 := by
  rw [zq162.v0, zq162.v]
  simp only [zq162.e9]
  rfl
theorem zq162.ok : V.Valid Tryz.prog 242 zq162.con :=
  V.fo (V.tab_cons zq148.ok (V.tab_cons zq142.ok (V.tab_cons zq143.ok (V.tab_cons zq178.ok (V.tab_cons zq176.ok (V.tab_cons zq177.ok (V.tab_cons zq153.ok V.tab_nil))))))) Tryz.func242 (by kernel_rfl) (fun x y h => (show V.evBody zq162.E zq162.con Tryz.f242 x = _ from zq162.eq (V.p9_0 x) (V.p9_1 x)).trans (V.cfl (by kernel_rfl) h))
noncomputable abbrev zq160.con : V.Con := ⟨V.A9, (.cons .bool .nil), fun (x : V.D9) => zq160 (V.p9_0 x) (V.p9_1 x), [], [(true, 16), (true, 17)], [(false, 1)], [false], []⟩
noncomputable abbrev zq160.E : V.Env := V.mkE V.tys [(242, zq162.con)] [] [] [] [] []
noncomputable abbrev zq160.kt (x0 : THead) (x1 : TSigned) : V.Kt Bool := V.ktOf zq160.E zq160.con Tryz.f265 (V.fl9 x0 x1)
noncomputable abbrev zq160.s (x0 : THead) (x1 : TSigned) : V.St := ⟨[(0, .v true [.val (.int .i64 x0.1), .val (.int .i64 x0.2.1), .val (.int .i64 x0.2.2.1), .val (.int .i64 x0.2.2.2.1), .val (.int .i64 x0.2.2.2.2.1), .val (.int .i64 x0.2.2.2.2.2.1), .val (.int .i64 x0.2.2.2.2.2.2.1), .val (.int .i64 x0.2.2.2.2.2.2.2.1), .val (.sl (.cons (.int .i64) .nil) x0.2.2.2.2.2.2.2.2.1), .val (.int .i64 x0.2.2.2.2.2.2.2.2.2.1), .val (.sl (.cons (.int .i64) .nil) x0.2.2.2.2.2.2.2.2.2.2.1), .val (.int .i64 x0.2.2.2.2.2.2.2.2.2.2.2.1), .val (.int .i64 x0.2.2.2.2.2.2.2.2.2.2.2.2.1), .val (.sl (.cons (.int .i64) .nil) x0.2.2.2.2.2.2.2.2.2.2.2.2.2.1), .val (.int .i64 x0.2.2.2.2.2.2.2.2.2.2.2.2.2.2.1), .val (.bool x0.2.2.2.2.2.2.2.2.2.2.2.2.2.2.2)]), (1, .v true [.val (.int .i64 x1.1), .val (.int .i64 x1.2.1), .val (.int .i64 x1.2.2.1), .val (.int .i64 x1.2.2.2.1), .val (.int .i64 x1.2.2.2.2.1), .val (.int .i64 x1.2.2.2.2.2.1), .val (.int .i64 x1.2.2.2.2.2.2.1), .val (.int .i64 x1.2.2.2.2.2.2.2.1), .val (.sl (.cons (.int .i64) .nil) x1.2.2.2.2.2.2.2.2.1), .val (.int .i64 x1.2.2.2.2.2.2.2.2.2.1), .val (.sl (.cons (.int .i64) .nil) x1.2.2.2.2.2.2.2.2.2.2.1), .val (.int .i64 x1.2.2.2.2.2.2.2.2.2.2.2.1), .val (.int .i64 x1.2.2.2.2.2.2.2.2.2.2.2.2.1), .val (.sl (.cons (.int .i64) .nil) x1.2.2.2.2.2.2.2.2.2.2.2.2.2.1), .val (.int .i64 x1.2.2.2.2.2.2.2.2.2.2.2.2.2.2.1), .val (.bool x1.2.2.2.2.2.2.2.2.2.2.2.2.2.2.2.1), .val (.sl (.cons (.int .i64) (.cons (.int .i64) .nil)) x1.2.2.2.2.2.2.2.2.2.2.2.2.2.2.2.2)])], []⟩
theorem zq160.v0 (x0 : THead) (x1 : TSigned) : V.evBody zq160.E zq160.con Tryz.f265 (V.fl9 x0 x1) = V.evC zq160.E Tryz.f265.ntmps (V.codeOf Tryz.f265) (zq160.kt x0 x1) (zq160.s x0 x1) := by kernel_rfl
theorem zq160.v (x0 : THead) (x1 : TSigned) : V.evC zq160.E Tryz.f265.ntmps (V.codeOf Tryz.f265) (zq160.kt x0 x1) (zq160.s x0 x1) = zq160 x0 x1 := by kernel_rfl
theorem zq160.eq (x0 : THead) (x1 : TSigned) : V.evBody zq160.E zq160.con Tryz.f265 (V.fl9 x0 x1) = zq160 x0 x1 := (zq160.v0 x0 x1).trans (zq160.v x0 x1)
theorem zq160.ok : V.Valid Tryz.prog 265 zq160.con :=
  V.fo (V.tab_cons zq162.ok V.tab_nil) Tryz.func265 (by kernel_rfl) (fun x y h => (show V.evBody zq160.E zq160.con Tryz.f265 x = _ from zq160.eq (V.p9_0 x) (V.p9_1 x)).trans (V.cfl (by kernel_rfl) h))
noncomputable abbrev zq140.con : V.Con := ⟨(.cons (.sl V.eSigned) .nil), (.cons (.int .i64) .nil), fun (x : List TSigned) => zq140 x, [], [(false, 1)], [(false, 1)], [false], []⟩
noncomputable abbrev zq140.E : V.Env := V.mkE V.tys [(264, zq146.con), (265, zq160.con)] [(4, [0, 3], [])] [(4, 23)] [] [] []
noncomputable abbrev zq140.kt (x0 : List TSigned) : V.Kt Int := V.ktOf zq140.E zq140.con Tryz.f203 ((x0) : List TSigned)
noncomputable abbrev zq140.s4 (x0 : List TSigned) (v4_1 : Int) : V.St := ⟨[(0, .v false [.val (.sl V.eSigned x0)]), (3, .v false [.val (.int .i64 v4_1)])], []⟩
theorem zq140.r4 (x0 : List TSigned) (R : V.St → Option Int) (v4_1 : Int) : V.loopF zq140.E Tryz.f203.ntmps [1, 0, 1, 0] [] (V.codeOf Tryz.f203) (zq140.kt x0) R (zq140.s4 x0 v4_1) = zq140.g4 x0 (fun v4_1 => R (zq140.s4 x0 v4_1)) v4_1 := by kernel_rfl
theorem zq140.e4 (x0 : List TSigned) : ∀ (n : Nat) (v4_1 : Int), V.loopN (V.loopF zq140.E Tryz.f203.ntmps [1, 0, 1, 0] [] (V.codeOf Tryz.f203) (zq140.kt x0)) n (zq140.s4 x0 v4_1) = zq140.l4 x0 n v4_1 := by
  intro n
  induction n with
  | zero => intros; rw [V.loopN_z]; rfl
  | succ n ih =>
    intro v4_1
    rw [V.loopN_s, zq140.r4]
    simp only [ih]
    first | exact (zq140.u4 ..).symm | rfl
theorem zq140.v (x0 : List TSigned) : V.evBody zq140.E zq140.con Tryz.f203 ((x0) : List TSigned) = zq140.b x0 (fun v4_1 => V.loopN (V.loopF zq140.E Tryz.f203.ntmps [1, 0, 1, 0] [] (V.codeOf Tryz.f203) (zq140.kt x0)) V.KK (zq140.s4 x0 v4_1)) := by kernel_rfl
theorem zq140.eq (x0 : List TSigned) : V.evBody zq140.E zq140.con Tryz.f203 ((x0) : List TSigned) = zq140 x0 := by
  rw [zq140.v]
  simp only [zq140.e4]
  rfl
theorem zq140.ok : V.Valid Tryz.prog 203 zq140.con :=
  V.fo (V.tab_cons zq146.ok (V.tab_cons zq160.ok V.tab_nil)) Tryz.func203 (by kernel_rfl) (fun x y h => (show V.evBody zq140.E zq140.con Tryz.f203 x = _ from zq140.eq x).trans (V.cfl (by kernel_rfl) h))
noncomputable abbrev zq144.con : V.Con := ⟨(.cons (.sl V.eSigned) .nil), (.cons .bool .nil), fun (x : List TSigned) => zq144 x, [], [(false, 1)], [(false, 1)], [false], []⟩
noncomputable abbrev zq144.E : V.Env := V.mkE V.tys [(147, zq179.con), (203, zq140.con)] [] [] [] [] []
theorem zq144.eq (x0 : List TSigned) : V.evBody zq144.E zq144.con Tryz.f99 ((x0) : List TSigned) = zq144 x0 := by kernel_rfl
theorem zq144.ok : V.Valid Tryz.prog 99 zq144.con :=
  V.fo (V.tab_cons zq179.ok (V.tab_cons zq140.ok V.tab_nil)) Tryz.func99 (by kernel_rfl) (fun x y h => (show V.evBody zq144.E zq144.con Tryz.f99 x = _ from zq144.eq x).trans (V.cfl (by kernel_rfl) h))
noncomputable abbrev zq182.con : V.Con := ⟨(.cons (.sl (.cons (.int .i64) .nil)) (.cons (.int .i64) .nil)), (.cons (.sl (.cons (.int .i64) .nil)) (.cons (.int .i64) .nil)), fun (x : List Int × Int) => zq182 x, [], [(true, 2)], [(true, 2)], [true, false], []⟩
noncomputable abbrev zq182.E : V.Env := V.mkE V.tys [] [] [(1, 6)] [] [] []
theorem zq182.eq (x0 : TKeys) : V.evBody zq182.E zq182.con Tryz.f225 ((x0.1, x0.2) : List Int × Int) = zq182 x0 := by kernel_rfl
theorem zq182.ok : V.Valid Tryz.prog 225 zq182.con :=
  V.fo V.tab_nil Tryz.func225 (by kernel_rfl) (fun x y h => (show V.evBody zq182.E zq182.con Tryz.f225 x = _ from zq182.eq x).trans (V.cfl (by kernel_rfl) h))
noncomputable abbrev zq175.con : V.Con := ⟨V.A4, V.eHead, fun (x : V.D4) => zq175 (V.p4_0 x), [], [(true, 16)], [(true, 16)], [false, false, false, false, false, false, false, false, true, false, true, false, false, true, false, false], []⟩
noncomputable abbrev zq175.E : V.Env := V.mkE V.tys [(225, zq182.con)] [] [] [] [] []
noncomputable abbrev zq175.kt (x0 : THead) : V.Kt THead := V.ktOf zq175.E zq175.con Tryz.f184 (V.fl4 x0)
noncomputable abbrev zq175.s (x0 : THead) : V.St := ⟨[(0, .v true [.val (.int .i64 x0.1), .val (.int .i64 x0.2.1), .val (.int .i64 x0.2.2.1), .val (.int .i64 x0.2.2.2.1), .val (.int .i64 x0.2.2.2.2.1), .val (.int .i64 x0.2.2.2.2.2.1), .val (.int .i64 x0.2.2.2.2.2.2.1), .val (.int .i64 x0.2.2.2.2.2.2.2.1), .val (.sl (.cons (.int .i64) .nil) x0.2.2.2.2.2.2.2.2.1), .val (.int .i64 x0.2.2.2.2.2.2.2.2.2.1), .val (.sl (.cons (.int .i64) .nil) x0.2.2.2.2.2.2.2.2.2.2.1), .val (.int .i64 x0.2.2.2.2.2.2.2.2.2.2.2.1), .val (.int .i64 x0.2.2.2.2.2.2.2.2.2.2.2.2.1), .val (.sl (.cons (.int .i64) .nil) x0.2.2.2.2.2.2.2.2.2.2.2.2.2.1), .val (.int .i64 x0.2.2.2.2.2.2.2.2.2.2.2.2.2.2.1), .val (.bool x0.2.2.2.2.2.2.2.2.2.2.2.2.2.2.2)])], []⟩
theorem zq175.v0 (x0 : THead) : V.evBody zq175.E zq175.con Tryz.f184 (V.fl4 x0) = V.evC zq175.E Tryz.f184.ntmps (V.codeOf Tryz.f184) (zq175.kt x0) (zq175.s x0) := by kernel_rfl
theorem zq175.v (x0 : THead) : V.evC zq175.E Tryz.f184.ntmps (V.codeOf Tryz.f184) (zq175.kt x0) (zq175.s x0) = zq175 x0 := by kernel_rfl
theorem zq175.eq (x0 : THead) : V.evBody zq175.E zq175.con Tryz.f184 (V.fl4 x0) = zq175 x0 := (zq175.v0 x0).trans (zq175.v x0)
theorem zq175.ok : V.Valid Tryz.prog 184 zq175.con :=
  V.fo (V.tab_cons zq182.ok V.tab_nil) Tryz.func184 (by kernel_rfl) (fun x y h => (show V.evBody zq175.E zq175.con Tryz.f184 x = _ from zq175.eq (V.p4_0 x)).trans (V.cfl (by kernel_rfl) h))
noncomputable abbrev zq157.con : V.Con := ⟨(.cons (.sl V.eSigned) .nil), V.eRHeadBool, fun (x : List TSigned) => zq157 x, [], [(false, 1)], [(true, 16), (false, 1)], [false, false, false, false, false, false, false, false, true, false, true, false, false, true, false, false, false], []⟩
noncomputable abbrev zq157.E : V.Env := V.mkE V.tys [(99, zq144.con), (184, zq175.con)] [] [] [] [] []
theorem zq157.eq (x0 : List TSigned) : V.evBody zq157.E zq157.con Tryz.f134 ((x0) : List TSigned) = zq157 x0 := by kernel_rfl
theorem zq157.ok : V.Valid Tryz.prog 134 zq157.con :=
  V.fo (V.tab_cons zq144.ok (V.tab_cons zq175.ok V.tab_nil)) Tryz.func134 (by kernel_rfl) (fun x y h => (show V.evBody zq157.E zq157.con Tryz.f134 x = _ from zq157.eq x).trans (V.cfl (by kernel_rfl) h))
noncomputable abbrev zq147.con : V.Con := ⟨V.A0, (.cons .bool .nil), fun (x : V.D0) => zq147 (V.p0_0 x) (V.p0_1 x), [], [(true, 16), (false, 1)], [(false, 1)], [false], []⟩
noncomputable abbrev zq147.E : V.Env := V.mkE V.tys [(147, zq179.con)] [] [] [] [] []
noncomputable abbrev zq147.kt (x0 : THead) (x1 : Int) : V.Kt Bool := V.ktOf zq147.E zq147.con Tryz.f157 (V.fl0 x0 x1)
noncomputable abbrev zq147.s (x0 : THead) (x1 : Int) : V.St := ⟨[(0, .v true [.val (.int .i64 x0.1), .val (.int .i64 x0.2.1), .val (.int .i64 x0.2.2.1), .val (.int .i64 x0.2.2.2.1), .val (.int .i64 x0.2.2.2.2.1), .val (.int .i64 x0.2.2.2.2.2.1), .val (.int .i64 x0.2.2.2.2.2.2.1), .val (.int .i64 x0.2.2.2.2.2.2.2.1), .val (.sl (.cons (.int .i64) .nil) x0.2.2.2.2.2.2.2.2.1), .val (.int .i64 x0.2.2.2.2.2.2.2.2.2.1), .val (.sl (.cons (.int .i64) .nil) x0.2.2.2.2.2.2.2.2.2.2.1), .val (.int .i64 x0.2.2.2.2.2.2.2.2.2.2.2.1), .val (.int .i64 x0.2.2.2.2.2.2.2.2.2.2.2.2.1), .val (.sl (.cons (.int .i64) .nil) x0.2.2.2.2.2.2.2.2.2.2.2.2.2.1), .val (.int .i64 x0.2.2.2.2.2.2.2.2.2.2.2.2.2.2.1), .val (.bool x0.2.2.2.2.2.2.2.2.2.2.2.2.2.2.2)]), (1, .v false [.val (.int .i64 x1)])], []⟩
theorem zq147.v0 (x0 : THead) (x1 : Int) : V.evBody zq147.E zq147.con Tryz.f157 (V.fl0 x0 x1) = V.evC zq147.E Tryz.f157.ntmps (V.codeOf Tryz.f157) (zq147.kt x0 x1) (zq147.s x0 x1) := by kernel_rfl
theorem zq147.v (x0 : THead) (x1 : Int) : V.evC zq147.E Tryz.f157.ntmps (V.codeOf Tryz.f157) (zq147.kt x0 x1) (zq147.s x0 x1) = zq147 x0 x1 := by kernel_rfl
theorem zq147.eq (x0 : THead) (x1 : Int) : V.evBody zq147.E zq147.con Tryz.f157 (V.fl0 x0 x1) = zq147 x0 x1 := (zq147.v0 x0 x1).trans (zq147.v x0 x1)
theorem zq147.ok : V.Valid Tryz.prog 157 zq147.con :=
  V.fo (V.tab_cons zq179.ok V.tab_nil) Tryz.func157 (by kernel_rfl) (fun x y h => (show V.evBody zq147.E zq147.con Tryz.f157 x = _ from zq147.eq (V.p0_0 x) (V.p0_1 x)).trans (V.cfl (by kernel_rfl) h))
noncomputable abbrev zq127.con : V.Con := ⟨(.cons (.sl (.cons (.int .u8) .nil)) .nil), (.cons (.sl (.cons (.int .i64) .nil)) .nil), fun (x : List Int) => zq127 x, [], [(false, 1)], [(false, 1)], [true], []⟩
noncomputable abbrev zq127.E : V.Env := V.mkE V.tys [] [(6, [0, 3, 4], [])] [] [] [] []
noncomputable abbrev zq127.kt (x0 : List Int) : V.Kt (List Int) := V.ktOf zq127.E zq127.con Tryz.f317 ((x0) : List Int)
noncomputable abbrev zq127.s6 (x0 : List Int) (v6_1 : Int) (v6_2 : List Int) : V.St := ⟨[(0, .v false [.val (.sl (.cons (.int .u8) .nil) x0)]), (3, .v false [.ref 64000038400192]), (4, .v false [.val (.int .i64 v6_1)])], [(64000038400192, .row (.cons (.int .i64) .nil) true v6_2)]⟩
theorem zq127.r6 (x0 : List Int) (R : V.St → Option (List Int)) (v6_1 : Int) (v6_2 : List Int) : V.loopF zq127.E Tryz.f317.ntmps [1, 1, 0, 1, 0] [] (V.codeOf Tryz.f317) (zq127.kt x0) R (zq127.s6 x0 v6_1 v6_2) = zq127.g6 x0 (fun v6_1 v6_2 => R (zq127.s6 x0 v6_1 v6_2)) v6_1 v6_2 := by kernel_rfl
theorem zq127.e6 (x0 : List Int) : ∀ (n : Nat) (v6_1 : Int) (v6_2 : List Int), V.loopN (V.loopF zq127.E Tryz.f317.ntmps [1, 1, 0, 1, 0] [] (V.codeOf Tryz.f317) (zq127.kt x0)) n (zq127.s6 x0 v6_1 v6_2) = zq127.l6 x0 n v6_1 v6_2 := by
  intro n
  induction n with
  | zero => intros; rw [V.loopN_z]; rfl
  | succ n ih =>
    intro v6_1 v6_2
    rw [V.loopN_s, zq127.r6]
    simp only [ih]
    first | exact (zq127.u6 ..).symm | rfl
theorem zq127.v (x0 : List Int) : V.evBody zq127.E zq127.con Tryz.f317 ((x0) : List Int) = zq127.b x0 (fun v6_1 v6_2 => V.loopN (V.loopF zq127.E Tryz.f317.ntmps [1, 1, 0, 1, 0] [] (V.codeOf Tryz.f317) (zq127.kt x0)) V.KK (zq127.s6 x0 v6_1 v6_2)) := by kernel_rfl
theorem zq127.eq (x0 : List Int) : V.evBody zq127.E zq127.con Tryz.f317 ((x0) : List Int) = zq127 x0 := by
  rw [zq127.v]
  simp only [zq127.e6]
  rfl
theorem zq127.ok : V.Valid Tryz.prog 317 zq127.con :=
  V.fo V.tab_nil Tryz.func317 (by kernel_rfl) (fun x y h => (show V.evBody zq127.E zq127.con Tryz.f317 x = _ from zq127.eq x).trans (V.cfl (by kernel_rfl) h))
noncomputable abbrev zq156.con : V.Con := ⟨(.cons .str .nil), (.cons (.sl (.cons (.int .i64) .nil)) .nil), fun (x : ByteArray) => zq156 x, [], [(false, 1)], [(false, 1)], [true], []⟩
noncomputable abbrev zq156.E : V.Env := V.mkE V.tys [(317, zq127.con)] [] [] [] [] []
theorem zq156.eq (x0 : ByteArray) : V.evBody zq156.E zq156.con Tryz.f311 ((x0) : ByteArray) = zq156 x0 := by kernel_rfl
theorem zq156.ok : V.Valid Tryz.prog 311 zq156.con :=
  V.fo (V.tab_cons zq127.ok V.tab_nil) Tryz.func311 (by kernel_rfl) (fun x y h => (show V.evBody zq156.E zq156.con Tryz.f311 x = _ from zq156.eq x).trans (V.cfl (by kernel_rfl) h))
noncomputable abbrev zq134.con : V.Con := ⟨V.eEntry, (.cons (.sl (.cons (.int .i64) .nil)) .nil), fun (x : ByteArray × Int × Int × List ByteArray) => zq134 x, [], [(true, 4)], [(false, 1)], [true], []⟩
noncomputable abbrev zq134.E : V.Env := V.mkE V.tys [(311, zq156.con)] [(6, [1, 3, 4], [])] [(1, 11)] [] [] []
noncomputable abbrev zq134.kt (x0 : TEntry) : V.Kt (List Int) := V.ktOf zq134.E zq134.con Tryz.f294 ((x0.1, x0.2.1, x0.2.2.1, x0.2.2.2) : ByteArray × Int × Int × List ByteArray)
noncomputable abbrev zq134.s6 (x0 : TEntry) (v6_0 : Int) (v6_5 : List Int) : V.St := ⟨[(1, .v false [.ptr 64000 0]), (3, .v false [.ref 64000038400192]), (4, .v false [.val (.int .i64 v6_0)])], [(64000, .box [.val (.str x0.1), .val (.int .i64 x0.2.1), .val (.int .i64 x0.2.2.1), .val (.sl (.cons .str .nil) x0.2.2.2)]), (64000038400192, .row (.cons (.int .i64) .nil) true v6_5)]⟩
theorem zq134.r6 (x0 : TEntry) (R : V.St → Option (List Int)) (v6_0 : Int) (v6_5 : List Int) : V.loopF zq134.E Tryz.f294.ntmps [1, 1, 0, 1, 0] [] (V.codeOf Tryz.f294) (zq134.kt x0) R (zq134.s6 x0 v6_0 v6_5) = zq134.g6 x0 (fun v6_0 v6_5 => R (zq134.s6 x0 v6_0 v6_5)) v6_0 v6_5 := by kernel_rfl
theorem zq134.e6 (x0 : TEntry) : ∀ (n : Nat) (v6_0 : Int) (v6_5 : List Int), V.loopN (V.loopF zq134.E Tryz.f294.ntmps [1, 1, 0, 1, 0] [] (V.codeOf Tryz.f294) (zq134.kt x0)) n (zq134.s6 x0 v6_0 v6_5) = zq134.l6 x0 n v6_0 v6_5 := by
  intro n
  induction n with
  | zero => intros; rw [V.loopN_z]; rfl
  | succ n ih =>
    intro v6_0 v6_5
    rw [V.loopN_s, zq134.r6]
    simp only [ih]
    first | exact (zq134.u6 ..).symm | rfl
theorem zq134.v (x0 : TEntry) : V.evBody zq134.E zq134.con Tryz.f294 ((x0.1, x0.2.1, x0.2.2.1, x0.2.2.2) : ByteArray × Int × Int × List ByteArray) = zq134.b x0 (fun v6_0 v6_5 => V.loopN (V.loopF zq134.E Tryz.f294.ntmps [1, 1, 0, 1, 0] [] (V.codeOf Tryz.f294) (zq134.kt x0)) V.KK (zq134.s6 x0 v6_0 v6_5)) := by kernel_rfl
theorem zq134.eq (x0 : TEntry) : V.evBody zq134.E zq134.con Tryz.f294 ((x0.1, x0.2.1, x0.2.2.1, x0.2.2.2) : ByteArray × Int × Int × List ByteArray) = zq134 x0 := by
  rw [zq134.v]
  simp only [zq134.e6]
  rfl
theorem zq134.ok : V.Valid Tryz.prog 294 zq134.con :=
  V.fo (V.tab_cons zq156.ok V.tab_nil) Tryz.func294 (by kernel_rfl) (fun x y h => (show V.evBody zq134.E zq134.con Tryz.f294 x = _ from zq134.eq x).trans (V.cfl (by kernel_rfl) h))
noncomputable abbrev zq158.con : V.Con := ⟨V.eEntry, (.cons (.int .i64) .nil), fun (x : ByteArray × Int × Int × List ByteArray) => zq158 x, [], [(true, 4)], [(false, 1)], [false], []⟩
noncomputable abbrev zq158.E : V.Env := V.mkE V.tys [(247, zq141.con), (294, zq134.con)] [] [] [] [] []
theorem zq158.eq (x0 : TEntry) : V.evBody zq158.E zq158.con Tryz.f251 ((x0.1, x0.2.1, x0.2.2.1, x0.2.2.2) : ByteArray × Int × Int × List ByteArray) = zq158 x0 := by kernel_rfl
theorem zq158.ok : V.Valid Tryz.prog 251 zq158.con :=
  V.fo (V.tab_cons zq141.ok (V.tab_cons zq134.ok V.tab_nil)) Tryz.func251 (by kernel_rfl) (fun x y h => (show V.evBody zq158.E zq158.con Tryz.f251 x = _ from zq158.eq x).trans (V.cfl (by kernel_rfl) h))
noncomputable abbrev zq164.con : V.Con := ⟨(.cons (.int .i64) (.cons (.int .i64) .nil)), (.cons (.int .i64) .nil), fun (x : Int × Int) => zq164 x.1 x.2, [], [(false, 1), (false, 1)], [(false, 1)], [false], []⟩
noncomputable abbrev zq164.E : V.Env := V.mkE V.tys [(247, zq141.con)] [] [] [] [] []
theorem zq164.eq (x0 : Int) (x1 : Int) : V.evBody zq164.E zq164.con Tryz.f293 ((x0, x1) : Int × Int) = zq164 x0 x1 := by kernel_rfl
theorem zq164.ok : V.Valid Tryz.prog 293 zq164.con :=
  V.fo (V.tab_cons zq141.ok V.tab_nil) Tryz.func293 (by kernel_rfl) (fun x y h => (show V.evBody zq164.E zq164.con Tryz.f293 x = _ from zq164.eq x.1 x.2).trans (V.cfl (by kernel_rfl) h))
noncomputable abbrev zq169.con : V.Con := ⟨(.cons (.int .i64) (.cons (.int .i64) (.cons (.int .i64) (.cons (.sl (.cons (.int .i64) .nil)) .nil)))), (.cons (.int .i64) (.cons .bool .nil)), fun (x : Int × Int × Int × List Int) => zq169 x.1 x.2.1 x.2.2.1 x.2.2.2, [], [(false, 1), (false, 1), (false, 1), (false, 1)], [(false, 1), (false, 1)], [false, false], []⟩
noncomputable abbrev zq169.E : V.Env := V.mkE V.tys [(147, zq179.con), (293, zq164.con)] [(7, [0, 1, 2, 3], []), (8, [0, 1, 2, 3, 10], []), (13, [0, 1, 2, 3, 10, 31], []), (25, [0, 1, 2, 3, 10], [])] [] [] [] []
noncomputable abbrev zq169.kt (x0 : Int) (x1 : Int) (x2 : Int) (x3 : List Int) : V.Kt (Int × Bool) := V.ktOf zq169.E zq169.con Tryz.f277 ((x0, x1, x2, x3) : Int × Int × Int × List Int)
noncomputable abbrev zq169.s25 (x3 : List Int) (v8_1 : Int) (v8_2 : Int) (v25_0 : Int) (v25_4 : Int) : V.St := ⟨[(0, .v false [.val (.int .i64 v25_0)]), (1, .v false [.val (.int .i64 v8_1)]), (2, .v false [.val (.int .i64 v8_2)]), (3, .v false [.val (.sl (.cons (.int .i64) .nil) x3)]), (10, .v false [.val (.int .i64 v25_4)])], []⟩
noncomputable abbrev zq169.s13 (x3 : List Int) (v8_0 : Int) (v8_1 : Int) (v8_2 : Int) (v8_4 : Int) (v13_5 : Bool) : V.St := ⟨[(0, .v false [.val (.int .i64 v8_0)]), (1, .v false [.val (.int .i64 v8_1)]), (2, .v false [.val (.int .i64 v8_2)]), (3, .v false [.val (.sl (.cons (.int .i64) .nil) x3)]), (10, .v false [.val (.int .i64 v8_4)]), (31, .v false [.val (.bool v13_5)])], []⟩
noncomputable abbrev zq169.s8 (x3 : List Int) (v8_0 : Int) (v8_1 : Int) (v8_2 : Int) (v8_4 : Int) : V.St := ⟨[(0, .v false [.val (.int .i64 v8_0)]), (1, .v false [.val (.int .i64 v8_1)]), (2, .v false [.val (.int .i64 v8_2)]), (3, .v false [.val (.sl (.cons (.int .i64) .nil) x3)]), (10, .v false [.val (.int .i64 v8_4)])], []⟩
noncomputable abbrev zq169.s7 (x0 : Int) (x1 : Int) (x2 : Int) (x3 : List Int) : V.St := ⟨[(0, .v false [.val (.int .i64 x0)]), (1, .v false [.val (.int .i64 x1)]), (2, .v false [.val (.int .i64 x2)]), (3, .v false [.val (.sl (.cons (.int .i64) .nil) x3)])], []⟩
theorem zq169.r25 (x0 : Int) (x1 : Int) (x2 : Int) (x3 : List Int) (v8_1 : Int) (v8_2 : Int) (R8 : V.St → Option (Int × Bool)) (v25_0 : Int) (v25_4 : Int) : V.joinF zq169.E Tryz.f277.ntmps [1, 1, 1, 0, 0, 0, 1, 0] [R8] (V.codeOf Tryz.f277) (zq169.kt x0 x1 x2 x3) (zq169.s25 x3 v8_1 v8_2 v25_0 v25_4) = zq169.g25 x3 v8_1 v8_2 (fun v8_0 v8_1 v8_2 v8_4 => R8 (zq169.s8 x3 v8_0 v8_1 v8_2 v8_4)) v25_0 v25_4 := by kernel_rfl
theorem zq169.e25 (x0 : Int) (x1 : Int) (x2 : Int) (x3 : List Int) (v8_1 : Int) (v8_2 : Int) (R8 : V.St → Option (Int × Bool)) (v25_0 : Int) (v25_4 : Int) : V.jn (V.joinF zq169.E Tryz.f277.ntmps [1, 1, 1, 0, 0, 0, 1, 0] [R8] (V.codeOf Tryz.f277) (zq169.kt x0 x1 x2 x3)) (zq169.s25 x3 v8_1 v8_2 v25_0 v25_4) = zq169.l25 x3 v8_1 v8_2 (fun v8_0 v8_1 v8_2 v8_4 => R8 (zq169.s8 x3 v8_0 v8_1 v8_2 v8_4)) v25_0 v25_4 := by
  rw [V.jn_eq, zq169.r25]
  rfl
theorem zq169.r13 (x0 : Int) (x1 : Int) (x2 : Int) (x3 : List Int) (v8_0 : Int) (v8_1 : Int) (v8_2 : Int) (v8_4 : Int) (R8 : V.St → Option (Int × Bool)) (v13_5 : Bool) : V.joinF zq169.E Tryz.f277.ntmps [1, 1, 1, 0, 0, 0, 1, 0, 0] [R8] (V.codeOf Tryz.f277) (zq169.kt x0 x1 x2 x3) (zq169.s13 x3 v8_0 v8_1 v8_2 v8_4 v13_5) = zq169.g13 x3 v8_0 v8_1 v8_2 v8_4 (fun v8_0 v8_1 v8_2 v8_4 => R8 (zq169.s8 x3 v8_0 v8_1 v8_2 v8_4)) (fun v25_0 v25_4 => V.jn (V.joinF zq169.E Tryz.f277.ntmps [1, 1, 1, 0, 0, 0, 1, 0] [R8] (V.codeOf Tryz.f277) (zq169.kt x0 x1 x2 x3)) (zq169.s25 x3 v8_1 v8_2 v25_0 v25_4)) v13_5 := by kernel_rfl
theorem zq169.e13 (x0 : Int) (x1 : Int) (x2 : Int) (x3 : List Int) (v8_0 : Int) (v8_1 : Int) (v8_2 : Int) (v8_4 : Int) (R8 : V.St → Option (Int × Bool)) (v13_5 : Bool) : V.jn (V.joinF zq169.E Tryz.f277.ntmps [1, 1, 1, 0, 0, 0, 1, 0, 0] [R8] (V.codeOf Tryz.f277) (zq169.kt x0 x1 x2 x3)) (zq169.s13 x3 v8_0 v8_1 v8_2 v8_4 v13_5) = zq169.l13 x3 v8_0 v8_1 v8_2 v8_4 (fun v8_0 v8_1 v8_2 v8_4 => R8 (zq169.s8 x3 v8_0 v8_1 v8_2 v8_4)) v13_5 := by
  rw [V.jn_eq, zq169.r13]
  simp only [zq169.e25]
  rfl
theorem zq169.r8 (x0 : Int) (x1 : Int) (x2 : Int) (x3 : List Int) (R : V.St → Option (Int × Bool)) (v8_0 : Int) (v8_1 : Int) (v8_2 : Int) (v8_4 : Int) : V.loopF zq169.E Tryz.f277.ntmps [1, 1, 1, 0, 0] [] (V.codeOf Tryz.f277) (zq169.kt x0 x1 x2 x3) R (zq169.s8 x3 v8_0 v8_1 v8_2 v8_4) = zq169.g8 x3 (fun v8_0 v8_1 v8_2 v8_4 => R (zq169.s8 x3 v8_0 v8_1 v8_2 v8_4)) (fun v13_5 => V.jn (V.joinF zq169.E Tryz.f277.ntmps [1, 1, 1, 0, 0, 0, 1, 0, 0] [R] (V.codeOf Tryz.f277) (zq169.kt x0 x1 x2 x3)) (zq169.s13 x3 v8_0 v8_1 v8_2 v8_4 v13_5)) v8_0 v8_1 v8_2 v8_4 := by kernel_rfl
theorem zq169.e8 (x0 : Int) (x1 : Int) (x2 : Int) (x3 : List Int) : ∀ (n : Nat) (v8_0 : Int) (v8_1 : Int) (v8_2 : Int) (v8_4 : Int), V.loopN (V.loopF zq169.E Tryz.f277.ntmps [1, 1, 1, 0, 0] [] (V.codeOf Tryz.f277) (zq169.kt x0 x1 x2 x3)) n (zq169.s8 x3 v8_0 v8_1 v8_2 v8_4) = zq169.l8 x3 n v8_0 v8_1 v8_2 v8_4 := by
  intro n
  induction n with
  | zero => intros; rw [V.loopN_z]; rfl
  | succ n ih =>
    intro v8_0 v8_1 v8_2 v8_4
    rw [V.loopN_s, zq169.r8]
    simp only [zq169.e13, ih]
    first | exact (zq169.u8 ..).symm | rfl
theorem zq169.r7 (x0 : Int) (x1 : Int) (x2 : Int) (x3 : List Int) : V.joinF zq169.E Tryz.f277.ntmps [1] [] (V.codeOf Tryz.f277) (zq169.kt x0 x1 x2 x3) (zq169.s7 x0 x1 x2 x3) = zq169.g7 x0 x1 x2 x3 (fun v8_0 v8_1 v8_2 v8_4 => V.loopN (V.loopF zq169.E Tryz.f277.ntmps [1, 1, 1, 0, 0] [] (V.codeOf Tryz.f277) (zq169.kt x0 x1 x2 x3)) V.KK (zq169.s8 x3 v8_0 v8_1 v8_2 v8_4)) := by kernel_rfl
theorem zq169.e7 (x0 : Int) (x1 : Int) (x2 : Int) (x3 : List Int) : V.jn (V.joinF zq169.E Tryz.f277.ntmps [1] [] (V.codeOf Tryz.f277) (zq169.kt x0 x1 x2 x3)) (zq169.s7 x0 x1 x2 x3) = zq169.l7 x0 x1 x2 x3 := by
  rw [V.jn_eq, zq169.r7]
  simp only [zq169.e8]
  rfl
theorem zq169.v (x0 : Int) (x1 : Int) (x2 : Int) (x3 : List Int) : V.evBody zq169.E zq169.con Tryz.f277 ((x0, x1, x2, x3) : Int × Int × Int × List Int) = zq169.b x0 x1 x2 x3 (V.jn (V.joinF zq169.E Tryz.f277.ntmps [1] [] (V.codeOf Tryz.f277) (zq169.kt x0 x1 x2 x3)) (zq169.s7 x0 x1 x2 x3)) := by kernel_rfl
theorem zq169.eq (x0 : Int) (x1 : Int) (x2 : Int) (x3 : List Int) : V.evBody zq169.E zq169.con Tryz.f277 ((x0, x1, x2, x3) : Int × Int × Int × List Int) = zq169 x0 x1 x2 x3 := by
  rw [zq169.v]
  simp only [zq169.e7]
  rfl
theorem zq169.ok : V.Valid Tryz.prog 277 zq169.con :=
  V.fo (V.tab_cons zq179.ok (V.tab_cons zq164.ok V.tab_nil)) Tryz.func277 (by kernel_rfl) (fun x y h => (show V.evBody zq169.E zq169.con Tryz.f277 x = _ from zq169.eq x.1 x.2.1 x.2.2.1 x.2.2.2).trans (V.cfl (by kernel_rfl) h))
noncomputable abbrev zq150.con : V.Con := ⟨(.cons .str .nil), (.cons .bool .nil), fun (x : ByteArray) => zq150 x, [], [(false, 1)], [(false, 1)], [false], []⟩
noncomputable abbrev zq150.E : V.Env := V.mkE V.tys [(147, zq179.con)] [(7, [0], []), (8, [0, 3], [])] [] [] [] []
noncomputable abbrev zq150.kt (x0 : ByteArray) : V.Kt Bool := V.ktOf zq150.E zq150.con Tryz.f248 ((x0) : ByteArray)
noncomputable abbrev zq150.s8 (x0 : ByteArray) (v8_1 : Int) : V.St := ⟨[(0, .v false [.val (.str x0)]), (3, .v false [.val (.int .i64 v8_1)])], []⟩
noncomputable abbrev zq150.s7 (x0 : ByteArray) : V.St := ⟨[(0, .v false [.val (.str x0)])], []⟩
theorem zq150.r8 (x0 : ByteArray) (R : V.St → Option Bool) (v8_1 : Int) : V.loopF zq150.E Tryz.f248.ntmps [1, 1, 0, 1, 0] [] (V.codeOf Tryz.f248) (zq150.kt x0) R (zq150.s8 x0 v8_1) = zq150.g8 x0 (fun v8_1 => R (zq150.s8 x0 v8_1)) v8_1 := by kernel_rfl
theorem zq150.e8 (x0 : ByteArray) : ∀ (n : Nat) (v8_1 : Int), V.loopN (V.loopF zq150.E Tryz.f248.ntmps [1, 1, 0, 1, 0] [] (V.codeOf Tryz.f248) (zq150.kt x0)) n (zq150.s8 x0 v8_1) = zq150.l8 x0 n v8_1 := by
  intro n
  induction n with
  | zero => intros; rw [V.loopN_z]; rfl
  | succ n ih =>
    intro v8_1
    rw [V.loopN_s, zq150.r8]
    simp only [ih]
    first | exact (zq150.u8 ..).symm | rfl
theorem zq150.r7 (x0 : ByteArray) : V.joinF zq150.E Tryz.f248.ntmps [1] [] (V.codeOf Tryz.f248) (zq150.kt x0) (zq150.s7 x0) = zq150.g7 x0 (fun v8_1 => V.loopN (V.loopF zq150.E Tryz.f248.ntmps [1, 1, 0, 1, 0] [] (V.codeOf Tryz.f248) (zq150.kt x0)) V.KK (zq150.s8 x0 v8_1)) := by kernel_rfl
theorem zq150.e7 (x0 : ByteArray) : V.jn (V.joinF zq150.E Tryz.f248.ntmps [1] [] (V.codeOf Tryz.f248) (zq150.kt x0)) (zq150.s7 x0) = zq150.l7 x0 := by
  rw [V.jn_eq, zq150.r7]
  simp only [zq150.e8]
  rfl
theorem zq150.v (x0 : ByteArray) : V.evBody zq150.E zq150.con Tryz.f248 ((x0) : ByteArray) = zq150.b x0 (V.jn (V.joinF zq150.E Tryz.f248.ntmps [1] [] (V.codeOf Tryz.f248) (zq150.kt x0)) (zq150.s7 x0)) := by kernel_rfl
theorem zq150.eq (x0 : ByteArray) : V.evBody zq150.E zq150.con Tryz.f248 ((x0) : ByteArray) = zq150 x0 := by
  rw [zq150.v]
  simp only [zq150.e7]
  rfl
theorem zq150.ok : V.Valid Tryz.prog 248 zq150.con :=
  V.fo (V.tab_cons zq179.ok V.tab_nil) Tryz.func248 (by kernel_rfl) (fun x y h => (show V.evBody zq150.E zq150.con Tryz.f248 x = _ from zq150.eq x).trans (V.cfl (by kernel_rfl) h))
noncomputable abbrev zq151.con : V.Con := ⟨(.cons (.sl (.cons .str .nil)) .nil), (.cons .bool .nil), fun (x : List ByteArray) => zq151 x, [], [(false, 1)], [(false, 1)], [false], []⟩
noncomputable abbrev zq151.E : V.Env := V.mkE V.tys [(147, zq179.con), (248, zq150.con)] [(4, [0, 3], [])] [] [] [] []
noncomputable abbrev zq151.kt (x0 : List ByteArray) : V.Kt Bool := V.ktOf zq151.E zq151.con Tryz.f249 ((x0) : List ByteArray)
noncomputable abbrev zq151.s4 (x0 : List ByteArray) (v4_1 : Int) : V.St := ⟨[(0, .v false [.val (.sl (.cons .str .nil) x0)]), (3, .v false [.val (.int .i64 v4_1)])], []⟩
theorem zq151.r4 (x0 : List ByteArray) (R : V.St → Option Bool) (v4_1 : Int) : V.loopF zq151.E Tryz.f249.ntmps [1, 0, 1, 0] [] (V.codeOf Tryz.f249) (zq151.kt x0) R (zq151.s4 x0 v4_1) = zq151.g4 x0 (fun v4_1 => R (zq151.s4 x0 v4_1)) v4_1 := by kernel_rfl
theorem zq151.e4 (x0 : List ByteArray) : ∀ (n : Nat) (v4_1 : Int), V.loopN (V.loopF zq151.E Tryz.f249.ntmps [1, 0, 1, 0] [] (V.codeOf Tryz.f249) (zq151.kt x0)) n (zq151.s4 x0 v4_1) = zq151.l4 x0 n v4_1 := by
  intro n
  induction n with
  | zero => intros; rw [V.loopN_z]; rfl
  | succ n ih =>
    intro v4_1
    rw [V.loopN_s, zq151.r4]
    simp only [ih]
    first | exact (zq151.u4 ..).symm | rfl
theorem zq151.v (x0 : List ByteArray) : V.evBody zq151.E zq151.con Tryz.f249 ((x0) : List ByteArray) = zq151.b x0 (fun v4_1 => V.loopN (V.loopF zq151.E Tryz.f249.ntmps [1, 0, 1, 0] [] (V.codeOf Tryz.f249) (zq151.kt x0)) V.KK (zq151.s4 x0 v4_1)) := by kernel_rfl
theorem zq151.eq (x0 : List ByteArray) : V.evBody zq151.E zq151.con Tryz.f249 ((x0) : List ByteArray) = zq151 x0 := by
  rw [zq151.v]
  simp only [zq151.e4]
  rfl
theorem zq151.ok : V.Valid Tryz.prog 249 zq151.con :=
  V.fo (V.tab_cons zq179.ok (V.tab_cons zq150.ok V.tab_nil)) Tryz.func249 (by kernel_rfl) (fun x y h => (show V.evBody zq151.E zq151.con Tryz.f249 x = _ from zq151.eq x).trans (V.cfl (by kernel_rfl) h))
noncomputable abbrev zq145.con : V.Con := ⟨V.eEntry, (.cons .bool .nil), fun (x : ByteArray × Int × Int × List ByteArray) => zq145 x, [], [(true, 4)], [(false, 1)], [false], []⟩
noncomputable abbrev zq145.E : V.Env := V.mkE V.tys [(147, zq179.con), (248, zq150.con), (249, zq151.con)] [] [] [] [] []
theorem zq145.eq (x0 : TEntry) : V.evBody zq145.E zq145.con Tryz.f186 ((x0.1, x0.2.1, x0.2.2.1, x0.2.2.2) : ByteArray × Int × Int × List ByteArray) = zq145 x0 := by kernel_rfl
theorem zq145.ok : V.Valid Tryz.prog 186 zq145.con :=
  V.fo (V.tab_cons zq179.ok (V.tab_cons zq150.ok (V.tab_cons zq151.ok V.tab_nil))) Tryz.func186 (by kernel_rfl) (fun x y h => (show V.evBody zq145.E zq145.con Tryz.f186 x = _ from zq145.eq x).trans (V.cfl (by kernel_rfl) h))
noncomputable abbrev zq172.con : V.Con := ⟨(.cons (.int .i64) (.cons (.int .i64) .nil)), (.cons (.int .i64) .nil), fun (x : Int × Int) => zq172 x.1 x.2, [], [(false, 1), (false, 1)], [(false, 1)], [false], []⟩
noncomputable abbrev zq172.E : V.Env := V.mkE V.tys [(247, zq141.con)] [] [] [] [] []
theorem zq172.eq (x0 : Int) (x1 : Int) : V.evBody zq172.E zq172.con Tryz.f188 ((x0, x1) : Int × Int) = zq172 x0 x1 := by kernel_rfl
theorem zq172.ok : V.Valid Tryz.prog 188 zq172.con :=
  V.fo (V.tab_cons zq141.ok V.tab_nil) Tryz.func188 (by kernel_rfl) (fun x y h => (show V.evBody zq172.E zq172.con Tryz.f188 x = _ from zq172.eq x.1 x.2).trans (V.cfl (by kernel_rfl) h))
noncomputable abbrev zq130.con : V.Con := ⟨(.cons (.int .i64) (.cons (.int .i64) (.cons .str (.cons (.int .i64) (.cons (.int .i64) (.cons (.sl (.cons .str .nil)) (.cons (.int .i64) (.cons (.sl (.cons (.int .i64) .nil)) .nil)))))))), (.cons .bool .nil), fun (x : Int × Int × ByteArray × Int × Int × List ByteArray × Int × List Int) => zq130 x.1 x.2.1 (x.2.2.1, x.2.2.2.1, x.2.2.2.2.1, x.2.2.2.2.2.1) x.2.2.2.2.2.2, [], [(false, 1), (false, 1), (true, 4), (true, 2)], [(false, 1)], [false], []⟩
noncomputable abbrev zq130.E : V.Env := V.mkE V.tys [(186, zq145.con), (188, zq172.con), (251, zq158.con), (277, zq169.con)] [] [(1, 11)] [] [] []
theorem zq130.eq (x0 : Int) (x1 : Int) (x2 : TEntry) (x3 : TProof) : V.evBody zq130.E zq130.con Tryz.f230 ((x0, x1, x2.1, x2.2.1, x2.2.2.1, x2.2.2.2, x3.1, x3.2) : Int × Int × ByteArray × Int × Int × List ByteArray × Int × List Int) = zq130 x0 x1 x2 x3 := by kernel_rfl
theorem zq130.ok : V.Valid Tryz.prog 230 zq130.con :=
  V.fo (V.tab_cons zq145.ok (V.tab_cons zq172.ok (V.tab_cons zq158.ok (V.tab_cons zq169.ok V.tab_nil)))) Tryz.func230 (by kernel_rfl) (fun x y h => (show V.evBody zq130.E zq130.con Tryz.f230 x = _ from zq130.eq x.1 x.2.1 (x.2.2.1, x.2.2.2.1, x.2.2.2.2.1, x.2.2.2.2.2.1) x.2.2.2.2.2.2).trans (V.cfl (by kernel_rfl) h))
noncomputable abbrev zq167.con : V.Con := ⟨(.cons (.sl (.cons .str .nil)) (.cons (.sl (.cons .str .nil)) .nil)), (.cons .bool .nil), fun (x : List ByteArray × List ByteArray) => zq167 x.1 x.2, [], [(false, 1), (false, 1)], [(false, 1)], [false], []⟩
noncomputable abbrev zq167.E : V.Env := V.mkE V.tys [] [(8, [0, 1, 5], [])] [(6, 8)] [] [] []
noncomputable abbrev zq167.kt (x0 : List ByteArray) (x1 : List ByteArray) : V.Kt Bool := V.ktOf zq167.E zq167.con Tryz.f305 ((x0, x1) : List ByteArray × List ByteArray)
noncomputable abbrev zq167.s8 (x0 : List ByteArray) (x1 : List ByteArray) (v8_2 : Int) : V.St := ⟨[(0, .v false [.val (.sl (.cons .str .nil) x0)]), (1, .v false [.val (.sl (.cons .str .nil) x1)]), (5, .v false [.val (.int .i64 v8_2)])], []⟩
theorem zq167.r8 (x0 : List ByteArray) (x1 : List ByteArray) (R : V.St → Option Bool) (v8_2 : Int) : V.loopF zq167.E Tryz.f305.ntmps [1, 1, 0, 1, 0] [] (V.codeOf Tryz.f305) (zq167.kt x0 x1) R (zq167.s8 x0 x1 v8_2) = zq167.g8 x0 x1 (fun v8_2 => R (zq167.s8 x0 x1 v8_2)) v8_2 := by kernel_rfl
theorem zq167.e8 (x0 : List ByteArray) (x1 : List ByteArray) : ∀ (n : Nat) (v8_2 : Int), V.loopN (V.loopF zq167.E Tryz.f305.ntmps [1, 1, 0, 1, 0] [] (V.codeOf Tryz.f305) (zq167.kt x0 x1)) n (zq167.s8 x0 x1 v8_2) = zq167.l8 x0 x1 n v8_2 := by
  intro n
  induction n with
  | zero => intros; rw [V.loopN_z]; rfl
  | succ n ih =>
    intro v8_2
    rw [V.loopN_s, zq167.r8]
    simp only [ih]
    first | exact (zq167.u8 ..).symm | rfl
theorem zq167.v (x0 : List ByteArray) (x1 : List ByteArray) : V.evBody zq167.E zq167.con Tryz.f305 ((x0, x1) : List ByteArray × List ByteArray) = zq167.b x0 x1 (fun v8_2 => V.loopN (V.loopF zq167.E Tryz.f305.ntmps [1, 1, 0, 1, 0] [] (V.codeOf Tryz.f305) (zq167.kt x0 x1)) V.KK (zq167.s8 x0 x1 v8_2)) := by kernel_rfl
theorem zq167.eq (x0 : List ByteArray) (x1 : List ByteArray) : V.evBody zq167.E zq167.con Tryz.f305 ((x0, x1) : List ByteArray × List ByteArray) = zq167 x0 x1 := by
  rw [zq167.v]
  simp only [zq167.e8]
  rfl
theorem zq167.ok : V.Valid Tryz.prog 305 zq167.con :=
  V.fo V.tab_nil Tryz.func305 (by kernel_rfl) (fun x y h => (show V.evBody zq167.E zq167.con Tryz.f305 x = _ from zq167.eq x.1 x.2).trans (V.cfl (by kernel_rfl) h))
noncomputable abbrev zq135.con : V.Con := ⟨(.cons .str (.cons (.int .i64) (.cons (.int .i64) (.cons (.sl (.cons .str .nil)) (.cons .str (.cons (.int .i64) (.cons (.int .i64) (.cons (.sl (.cons .str .nil)) .nil)))))))), (.cons .bool .nil), fun (x : ByteArray × Int × Int × List ByteArray × ByteArray × Int × Int × List ByteArray) => zq135 (x.1, x.2.1, x.2.2.1, x.2.2.2.1) x.2.2.2.2, [], [(true, 4), (true, 4)], [(false, 1)], [false], []⟩
noncomputable abbrev zq135.E : V.Env := V.mkE V.tys [(305, zq167.con)] [] [] [] [] []
theorem zq135.eq (x0 : TEntry) (x1 : TEntry) : V.evBody zq135.E zq135.con Tryz.f278 ((x0.1, x0.2.1, x0.2.2.1, x0.2.2.2, x1.1, x1.2.1, x1.2.2.1, x1.2.2.2) : ByteArray × Int × Int × List ByteArray × ByteArray × Int × Int × List ByteArray) = zq135 x0 x1 := by kernel_rfl
theorem zq135.ok : V.Valid Tryz.prog 278 zq135.con :=
  V.fo (V.tab_cons zq167.ok V.tab_nil) Tryz.func278 (by kernel_rfl) (fun x y h => (show V.evBody zq135.E zq135.con Tryz.f278 x = _ from zq135.eq (x.1, x.2.1, x.2.2.1, x.2.2.2.1) x.2.2.2.2).trans (V.cfl (by kernel_rfl) h))
noncomputable abbrev zq139.con : V.Con := ⟨(.cons (.int .i64) (.cons (.sl (.cons (.int .i64) .nil)) (.cons (.int .i64) (.cons (.sl (.cons (.int .i64) .nil)) .nil)))), (.cons .bool .nil), fun (x : Int × List Int × Int × List Int) => zq139 (x.1, x.2.1) x.2.2, [], [(true, 2), (true, 2)], [(false, 1)], [false], []⟩
noncomputable abbrev zq139.E : V.Env := V.mkE V.tys [(204, zq137.con)] [] [] [] [] []
theorem zq139.eq (x0 : TProof) (x1 : TProof) : V.evBody zq139.E zq139.con Tryz.f279 ((x0.1, x0.2, x1.1, x1.2) : Int × List Int × Int × List Int) = zq139 x0 x1 := by kernel_rfl
theorem zq139.ok : V.Valid Tryz.prog 279 zq139.con :=
  V.fo (V.tab_cons zq137.ok V.tab_nil) Tryz.func279 (by kernel_rfl) (fun x y h => (show V.evBody zq139.E zq139.con Tryz.f279 x = _ from zq139.eq (x.1, x.2.1) x.2.2).trans (V.cfl (by kernel_rfl) h))
noncomputable abbrev zq136.con : V.Con := ⟨V.A10, (.cons .bool .nil), fun (x : V.D10) => zq136 (V.p10_0 x) (V.p10_1 x), [], [(true, 13), (true, 13)], [(false, 1)], [false], []⟩
noncomputable abbrev zq136.E : V.Env := V.mkE V.tys [(278, zq135.con), (279, zq139.con)] [] [] [] [] []
noncomputable abbrev zq136.kt (x0 : TGap) (x1 : TGap) : V.Kt Bool := V.ktOf zq136.E zq136.con Tryz.f231 (V.fl10 x0 x1)
noncomputable abbrev zq136.s (x0 : TGap) (x1 : TGap) : V.St := ⟨[(0, .v true [.val (.int .i64 x0.1), .val (.str x0.2.1), .val (.int .i64 x0.2.2.1), .val (.int .i64 x0.2.2.2.1), .val (.sl (.cons .str .nil) x0.2.2.2.2.1), .val (.str x0.2.2.2.2.2.1), .val (.int .i64 x0.2.2.2.2.2.2.1), .val (.int .i64 x0.2.2.2.2.2.2.2.1), .val (.sl (.cons .str .nil) x0.2.2.2.2.2.2.2.2.1), .val (.int .i64 x0.2.2.2.2.2.2.2.2.2.1), .val (.sl (.cons (.int .i64) .nil) x0.2.2.2.2.2.2.2.2.2.2.1), .val (.int .i64 x0.2.2.2.2.2.2.2.2.2.2.2.1), .val (.sl (.cons (.int .i64) .nil) x0.2.2.2.2.2.2.2.2.2.2.2.2)]), (1, .v true [.val (.int .i64 x1.1), .val (.str x1.2.1), .val (.int .i64 x1.2.2.1), .val (.int .i64 x1.2.2.2.1), .val (.sl (.cons .str .nil) x1.2.2.2.2.1), .val (.str x1.2.2.2.2.2.1), .val (.int .i64 x1.2.2.2.2.2.2.1), .val (.int .i64 x1.2.2.2.2.2.2.2.1), .val (.sl (.cons .str .nil) x1.2.2.2.2.2.2.2.2.1), .val (.int .i64 x1.2.2.2.2.2.2.2.2.2.1), .val (.sl (.cons (.int .i64) .nil) x1.2.2.2.2.2.2.2.2.2.2.1), .val (.int .i64 x1.2.2.2.2.2.2.2.2.2.2.2.1), .val (.sl (.cons (.int .i64) .nil) x1.2.2.2.2.2.2.2.2.2.2.2.2)])], []⟩
theorem zq136.v0 (x0 : TGap) (x1 : TGap) : V.evBody zq136.E zq136.con Tryz.f231 (V.fl10 x0 x1) = V.evC zq136.E Tryz.f231.ntmps (V.codeOf Tryz.f231) (zq136.kt x0 x1) (zq136.s x0 x1) := by kernel_rfl
theorem zq136.v (x0 : TGap) (x1 : TGap) : V.evC zq136.E Tryz.f231.ntmps (V.codeOf Tryz.f231) (zq136.kt x0 x1) (zq136.s x0 x1) = zq136 x0 x1 := by kernel_rfl
theorem zq136.eq (x0 : TGap) (x1 : TGap) : V.evBody zq136.E zq136.con Tryz.f231 (V.fl10 x0 x1) = zq136 x0 x1 := (zq136.v0 x0 x1).trans (zq136.v x0 x1)
theorem zq136.ok : V.Valid Tryz.prog 231 zq136.con :=
  V.fo (V.tab_cons zq135.ok (V.tab_cons zq139.ok V.tab_nil)) Tryz.func231 (by kernel_rfl) (fun x y h => (show V.evBody zq136.E zq136.con Tryz.f231 x = _ from zq136.eq (V.p10_0 x) (V.p10_1 x)).trans (V.cfl (by kernel_rfl) h))
noncomputable abbrev zq159.con : V.Con := ⟨(.cons (.sl V.eEntry) .nil), (.cons (.sl (.cons (.int .i64) .nil)) .nil), fun (x : List TEntry) => zq159 x, [], [(false, 1)], [(false, 1)], [true], []⟩
noncomputable abbrev zq159.E : V.Env := V.mkE V.tys [(251, zq158.con)] [(6, [0, 3, 4], [(64000038400192, (.cons (.int .i64) .nil), true)])] [] [] [] []
noncomputable abbrev zq159.kt (x0 : List TEntry) : V.Kt (List Int) := V.ktOf zq159.E zq159.con Tryz.f190 ((x0) : List TEntry)
noncomputable abbrev zq159.s6 (x0 : List TEntry) (v6_1 : Int) (v6_2 : List Int) : V.St := ⟨[(0, .v false [.val (.sl V.eEntry x0)]), (3, .v false [.ref 64000038400192]), (4, .v false [.val (.int .i64 v6_1)])], [(64000038400192, .row (.cons (.int .i64) .nil) true v6_2)]⟩
theorem zq159.r6 (x0 : List TEntry) (R : V.St → Option (List Int)) (v6_1 : Int) (v6_2 : List Int) : V.loopF zq159.E Tryz.f190.ntmps [1, 1, 0, 1, 0] [] (V.codeOf Tryz.f190) (zq159.kt x0) R (zq159.s6 x0 v6_1 v6_2) = zq159.g6 x0 (fun v6_1 v6_2 => R (zq159.s6 x0 v6_1 v6_2)) v6_1 v6_2 := by kernel_rfl
theorem zq159.e6 (x0 : List TEntry) : ∀ (n : Nat) (v6_1 : Int) (v6_2 : List Int), V.loopN (V.loopF zq159.E Tryz.f190.ntmps [1, 1, 0, 1, 0] [] (V.codeOf Tryz.f190) (zq159.kt x0)) n (zq159.s6 x0 v6_1 v6_2) = zq159.l6 x0 n v6_1 v6_2 := by
  intro n
  induction n with
  | zero => intros; rw [V.loopN_z]; rfl
  | succ n ih =>
    intro v6_1 v6_2
    rw [V.loopN_s, zq159.r6]
    simp only [ih]
    first | exact (zq159.u6 ..).symm | rfl
theorem zq159.v (x0 : List TEntry) : V.evBody zq159.E zq159.con Tryz.f190 ((x0) : List TEntry) = zq159.b x0 (fun v6_1 v6_2 => V.loopN (V.loopF zq159.E Tryz.f190.ntmps [1, 1, 0, 1, 0] [] (V.codeOf Tryz.f190) (zq159.kt x0)) V.KK (zq159.s6 x0 v6_1 v6_2)) := by kernel_rfl
theorem zq159.eq (x0 : List TEntry) : V.evBody zq159.E zq159.con Tryz.f190 ((x0) : List TEntry) = zq159 x0 := by
  rw [zq159.v]
  simp only [zq159.e6]
  rfl
theorem zq159.ok : V.Valid Tryz.prog 190 zq159.con :=
  V.fo (V.tab_cons zq158.ok V.tab_nil) Tryz.func190 (by kernel_rfl) (fun x y h => (show V.evBody zq159.E zq159.con Tryz.f190 x = _ from zq159.eq x).trans (V.cfl (by kernel_rfl) h))
noncomputable abbrev zq173.con : V.Con := ⟨(.cons (.sl (.cons (.int .i64) .nil)) .nil), (.cons (.sl (.cons (.int .i64) .nil)) .nil), fun (x : List Int) => zq173 x, [], [(false, 1)], [(false, 1)], [true], []⟩
noncomputable abbrev zq173.E : V.Env := V.mkE V.tys [(293, zq164.con)] [(6, [0, 3, 4], [(64000038400192, (.cons (.int .i64) .nil), true)])] [(6, 12)] [] [] []
noncomputable abbrev zq173.kt (x0 : List Int) : V.Kt (List Int) := V.ktOf zq173.E zq173.con Tryz.f250 ((x0) : List Int)
noncomputable abbrev zq173.s6 (x0 : List Int) (v6_1 : Int) (v6_2 : List Int) : V.St := ⟨[(0, .v false [.val (.sl (.cons (.int .i64) .nil) x0)]), (3, .v false [.ref 64000038400192]), (4, .v false [.val (.int .i64 v6_1)])], [(64000038400192, .row (.cons (.int .i64) .nil) true v6_2)]⟩
theorem zq173.r6 (x0 : List Int) (R : V.St → Option (List Int)) (v6_1 : Int) (v6_2 : List Int) : V.loopF zq173.E Tryz.f250.ntmps [1, 1, 0, 1, 0] [] (V.codeOf Tryz.f250) (zq173.kt x0) R (zq173.s6 x0 v6_1 v6_2) = zq173.g6 x0 (fun v6_1 v6_2 => R (zq173.s6 x0 v6_1 v6_2)) v6_1 v6_2 := by kernel_rfl
theorem zq173.e6 (x0 : List Int) : ∀ (n : Nat) (v6_1 : Int) (v6_2 : List Int), V.loopN (V.loopF zq173.E Tryz.f250.ntmps [1, 1, 0, 1, 0] [] (V.codeOf Tryz.f250) (zq173.kt x0)) n (zq173.s6 x0 v6_1 v6_2) = zq173.l6 x0 n v6_1 v6_2 := by
  intro n
  induction n with
  | zero => intros; rw [V.loopN_z]; rfl
  | succ n ih =>
    intro v6_1 v6_2
    rw [V.loopN_s, zq173.r6]
    simp only [ih]
    first | exact (zq173.u6 ..).symm | rfl
theorem zq173.v (x0 : List Int) : V.evBody zq173.E zq173.con Tryz.f250 ((x0) : List Int) = zq173.b x0 (fun v6_1 v6_2 => V.loopN (V.loopF zq173.E Tryz.f250.ntmps [1, 1, 0, 1, 0] [] (V.codeOf Tryz.f250) (zq173.kt x0)) V.KK (zq173.s6 x0 v6_1 v6_2)) := by kernel_rfl
theorem zq173.eq (x0 : List Int) : V.evBody zq173.E zq173.con Tryz.f250 ((x0) : List Int) = zq173 x0 := by
  rw [zq173.v]
  simp only [zq173.e6]
  rfl
theorem zq173.ok : V.Valid Tryz.prog 250 zq173.con :=
  V.fo (V.tab_cons zq164.ok V.tab_nil) Tryz.func250 (by kernel_rfl) (fun x y h => (show V.evBody zq173.E zq173.con Tryz.f250 x = _ from zq173.eq x).trans (V.cfl (by kernel_rfl) h))
noncomputable abbrev zq170.con : V.Con := ⟨(.cons (.sl (.cons (.int .i64) .nil)) .nil), (.cons (.int .i64) .nil), fun (x : List Int) => zq170 x, [], [(false, 1)], [(false, 1)], [false], []⟩
noncomputable abbrev zq170.E : V.Env := V.mkE V.tys [(247, zq141.con), (250, zq173.con)] [(8, [3], [(3, (.cons (.int .i64) .nil), false)])] [] [] [] []
noncomputable abbrev zq170.kt (x0 : List Int) : V.Kt Int := V.ktOf zq170.E zq170.con Tryz.f189 ((x0) : List Int)
noncomputable abbrev zq170.s8 (v8_0 : List Int) : V.St := ⟨[(3, .v false [.val (.sl (.cons (.int .i64) .nil) v8_0)])], []⟩
theorem zq170.r8 (x0 : List Int) (R : V.St → Option Int) (v8_0 : List Int) : V.loopF zq170.E Tryz.f189.ntmps [1, 1, 1, 0, 0] [] (V.codeOf Tryz.f189) (zq170.kt x0) R (zq170.s8 v8_0) = zq170.g8 (fun v8_0 => R (zq170.s8 v8_0)) v8_0 := by kernel_rfl
theorem zq170.e8 (x0 : List Int) : ∀ (n : Nat) (v8_0 : List Int), V.loopN (V.loopF zq170.E Tryz.f189.ntmps [1, 1, 1, 0, 0] [] (V.codeOf Tryz.f189) (zq170.kt x0)) n (zq170.s8 v8_0) = zq170.l8 n v8_0 := by
  intro n
  induction n with
  | zero => intros; rw [V.loopN_z]; rfl
  | succ n ih =>
    intro v8_0
    rw [V.loopN_s, zq170.r8]
    simp only [ih]
    first | exact (zq170.u8 ..).symm | rfl
theorem zq170.v (x0 : List Int) : V.evBody zq170.E zq170.con Tryz.f189 ((x0) : List Int) = zq170.b x0 (fun v8_0 => V.loopN (V.loopF zq170.E Tryz.f189.ntmps [1, 1, 1, 0, 0] [] (V.codeOf Tryz.f189) (zq170.kt x0)) V.KK (zq170.s8 v8_0)) := by kernel_rfl
theorem zq170.eq (x0 : List Int) : V.evBody zq170.E zq170.con Tryz.f189 ((x0) : List Int) = zq170 x0 := by
  rw [zq170.v]
  simp only [zq170.e8]
  rfl
theorem zq170.ok : V.Valid Tryz.prog 189 zq170.con :=
  V.fo (V.tab_cons zq141.ok (V.tab_cons zq173.ok V.tab_nil)) Tryz.func189 (by kernel_rfl) (fun x y h => (show V.evBody zq170.E zq170.con Tryz.f189 x = _ from zq170.eq x).trans (V.cfl (by kernel_rfl) h))
noncomputable abbrev zq165.con : V.Con := ⟨(.cons (.sl V.eEntry) .nil), (.cons (.int .i64) .nil), fun (x : List TEntry) => zq165 x, [], [(false, 1)], [(false, 1)], [false], []⟩
noncomputable abbrev zq165.E : V.Env := V.mkE V.tys [(188, zq172.con), (189, zq170.con), (190, zq159.con)] [] [] [] [] []
theorem zq165.eq (x0 : List TEntry) : V.evBody zq165.E zq165.con Tryz.f88 ((x0) : List TEntry) = zq165 x0 := by kernel_rfl
theorem zq165.ok : V.Valid Tryz.prog 88 zq165.con :=
  V.fo (V.tab_cons zq172.ok (V.tab_cons zq170.ok (V.tab_cons zq159.ok V.tab_nil))) Tryz.func88 (by kernel_rfl) (fun x y h => (show V.evBody zq165.E zq165.con Tryz.f88 x = _ from zq165.eq x).trans (V.cfl (by kernel_rfl) h))
noncomputable abbrev zq174.con : V.Con := ⟨(.cons .str (.cons (.int .i64) (.cons (.int .i64) (.cons (.sl (.cons .str .nil)) (.cons (.int .i64) (.cons (.sl (.cons (.int .i64) .nil)) .nil)))))), (.cons .bool .nil), fun (x : ByteArray × Int × Int × List ByteArray × Int × List Int) => zq174 (x.1, x.2.1, x.2.2.1, x.2.2.2.1) x.2.2.2.2, [], [(true, 4), (true, 2)], [(false, 1)], [false], []⟩
noncomputable abbrev zq174.E : V.Env := V.mkE V.tys [(278, zq135.con), (279, zq139.con)] [] [] [] [] []
theorem zq174.eq (x0 : TEntry) (x1 : TProof) : V.evBody zq174.E zq174.con Tryz.f233 ((x0.1, x0.2.1, x0.2.2.1, x0.2.2.2, x1.1, x1.2) : ByteArray × Int × Int × List ByteArray × Int × List Int) = zq174 x0 x1 := by kernel_rfl
theorem zq174.ok : V.Valid Tryz.prog 233 zq174.con :=
  V.fo (V.tab_cons zq135.ok (V.tab_cons zq139.ok V.tab_nil)) Tryz.func233 (by kernel_rfl) (fun x y h => (show V.evBody zq174.E zq174.con Tryz.f233 x = _ from zq174.eq (x.1, x.2.1, x.2.2.1, x.2.2.2.1) x.2.2.2.2).trans (V.cfl (by kernel_rfl) h))
noncomputable abbrev zq131.con : V.Con := ⟨(.cons .str (.cons .str .nil)), (.cons (.int .i64) .nil), fun (x : ByteArray × ByteArray) => zq131 x.1 x.2, [], [(false, 1), (false, 1)], [(false, 1)], [false], []⟩
noncomputable abbrev zq131.E : V.Env := V.mkE V.tys [] [] [] [] [] []
theorem zq131.eq (x0 : ByteArray) (x1 : ByteArray) : V.evBody zq131.E zq131.con Tryz.f187 ((x0, x1) : ByteArray × ByteArray) = zq131 x0 x1 := by kernel_rfl
theorem zq131.ok : V.Valid Tryz.prog 187 zq131.con :=
  V.fo V.tab_nil Tryz.func187 (by kernel_rfl) (fun x y h => (show V.evBody zq131.E zq131.con Tryz.f187 x = _ from zq131.eq x.1 x.2).trans (V.cfl (by kernel_rfl) h))
noncomputable abbrev zq128.con : V.Con := ⟨V.A11, (.cons .bool .nil), fun (x : V.D11) => zq128 (V.p11_0 x) (V.p11_1 x) (V.p11_2 x) (V.p11_3 x), [], [(false, 1), (false, 1), (false, 1), (true, 13)], [(false, 1)], [false], []⟩
noncomputable abbrev zq128.E : V.Env := V.mkE V.tys [(88, zq165.con), (147, zq179.con), (187, zq131.con), (230, zq130.con), (233, zq174.con), (248, zq150.con)] [(7, [0, 1, 2, 7], []), (17, [0, 1, 2, 7], [])] [] [] [] []
noncomputable abbrev zq128.kt (x0 : Int) (x1 : Int) (x2 : ByteArray) (x3 : TGap) : V.Kt Bool := V.ktOf zq128.E zq128.con Tryz.f232 (V.fl11 x0 x1 x2 x3)
noncomputable abbrev zq128.s17 (x0 : Int) (x1 : Int) (x2 : ByteArray) (x3 : TGap) : V.St := ⟨[(0, .v false [.val (.int .i64 x0)]), (1, .v false [.val (.int .i64 x1)]), (2, .v false [.val (.str x2)]), (7, .v false [.ptr 64000 0])], [(64000, .box [.val (.int .i64 x3.1), .val (.str x3.2.1), .val (.int .i64 x3.2.2.1), .val (.int .i64 x3.2.2.2.1), .val (.sl (.cons .str .nil) x3.2.2.2.2.1), .val (.str x3.2.2.2.2.2.1), .val (.int .i64 x3.2.2.2.2.2.2.1), .val (.int .i64 x3.2.2.2.2.2.2.2.1), .val (.sl (.cons .str .nil) x3.2.2.2.2.2.2.2.2.1), .val (.int .i64 x3.2.2.2.2.2.2.2.2.2.1), .val (.sl (.cons (.int .i64) .nil) x3.2.2.2.2.2.2.2.2.2.2.1), .val (.int .i64 x3.2.2.2.2.2.2.2.2.2.2.2.1), .val (.sl (.cons (.int .i64) .nil) x3.2.2.2.2.2.2.2.2.2.2.2.2)])]⟩
noncomputable abbrev zq128.s7 (x0 : Int) (x1 : Int) (x2 : ByteArray) (x3 : TGap) : V.St := ⟨[(0, .v false [.val (.int .i64 x0)]), (1, .v false [.val (.int .i64 x1)]), (2, .v false [.val (.str x2)]), (7, .v false [.ptr 64000 0])], [(64000, .box [.val (.int .i64 x3.1), .val (.str x3.2.1), .val (.int .i64 x3.2.2.1), .val (.int .i64 x3.2.2.2.1), .val (.sl (.cons .str .nil) x3.2.2.2.2.1), .val (.str x3.2.2.2.2.2.1), .val (.int .i64 x3.2.2.2.2.2.2.1), .val (.int .i64 x3.2.2.2.2.2.2.2.1), .val (.sl (.cons .str .nil) x3.2.2.2.2.2.2.2.2.1), .val (.int .i64 x3.2.2.2.2.2.2.2.2.2.1), .val (.sl (.cons (.int .i64) .nil) x3.2.2.2.2.2.2.2.2.2.2.1), .val (.int .i64 x3.2.2.2.2.2.2.2.2.2.2.2.1), .val (.sl (.cons (.int .i64) .nil) x3.2.2.2.2.2.2.2.2.2.2.2.2)])]⟩
theorem zq128.r17 (x0 : Int) (x1 : Int) (x2 : ByteArray) (x3 : TGap) : V.joinF zq128.E Tryz.f232.ntmps [1, 1] [] (V.codeOf Tryz.f232) (zq128.kt x0 x1 x2 x3) (zq128.s17 x0 x1 x2 x3) = zq128.g17 x0 x1 x2 x3 := by kernel_rfl
theorem zq128.e17 (x0 : Int) (x1 : Int) (x2 : ByteArray) (x3 : TGap) : V.jn (V.joinF zq128.E Tryz.f232.ntmps [1, 1] [] (V.codeOf Tryz.f232) (zq128.kt x0 x1 x2 x3)) (zq128.s17 x0 x1 x2 x3) = zq128.l17 x0 x1 x2 x3 := by
  rw [V.jn_eq, zq128.r17]
  rfl
theorem zq128.r7 (x0 : Int) (x1 : Int) (x2 : ByteArray) (x3 : TGap) : V.joinF zq128.E Tryz.f232.ntmps [1] [] (V.codeOf Tryz.f232) (zq128.kt x0 x1 x2 x3) (zq128.s7 x0 x1 x2 x3) = zq128.g7 x0 x1 x2 x3 (V.jn (V.joinF zq128.E Tryz.f232.ntmps [1, 1] [] (V.codeOf Tryz.f232) (zq128.kt x0 x1 x2 x3)) (zq128.s17 x0 x1 x2 x3)) := by kernel_rfl
theorem zq128.e7 (x0 : Int) (x1 : Int) (x2 : ByteArray) (x3 : TGap) : V.jn (V.joinF zq128.E Tryz.f232.ntmps [1] [] (V.codeOf Tryz.f232) (zq128.kt x0 x1 x2 x3)) (zq128.s7 x0 x1 x2 x3) = zq128.l7 x0 x1 x2 x3 := by
  rw [V.jn_eq, zq128.r7]
  simp only [zq128.e17]
  rfl
noncomputable abbrev zq128.s (x0 : Int) (x1 : Int) (x2 : ByteArray) (x3 : TGap) : V.St := ⟨[(0, .v false [.val (.int .i64 x0)]), (1, .v false [.val (.int .i64 x1)]), (2, .v false [.val (.str x2)]), (3, .v true [.val (.int .i64 x3.1), .val (.str x3.2.1), .val (.int .i64 x3.2.2.1), .val (.int .i64 x3.2.2.2.1), .val (.sl (.cons .str .nil) x3.2.2.2.2.1), .val (.str x3.2.2.2.2.2.1), .val (.int .i64 x3.2.2.2.2.2.2.1), .val (.int .i64 x3.2.2.2.2.2.2.2.1), .val (.sl (.cons .str .nil) x3.2.2.2.2.2.2.2.2.1), .val (.int .i64 x3.2.2.2.2.2.2.2.2.2.1), .val (.sl (.cons (.int .i64) .nil) x3.2.2.2.2.2.2.2.2.2.2.1), .val (.int .i64 x3.2.2.2.2.2.2.2.2.2.2.2.1), .val (.sl (.cons (.int .i64) .nil) x3.2.2.2.2.2.2.2.2.2.2.2.2)])], []⟩
theorem zq128.v0 (x0 : Int) (x1 : Int) (x2 : ByteArray) (x3 : TGap) : V.evBody zq128.E zq128.con Tryz.f232 (V.fl11 x0 x1 x2 x3) = V.evC zq128.E Tryz.f232.ntmps (V.codeOf Tryz.f232) (zq128.kt x0 x1 x2 x3) (zq128.s x0 x1 x2 x3) := by kernel_rfl
theorem zq128.v (x0 : Int) (x1 : Int) (x2 : ByteArray) (x3 : TGap) : V.evC zq128.E Tryz.f232.ntmps (V.codeOf Tryz.f232) (zq128.kt x0 x1 x2 x3) (zq128.s x0 x1 x2 x3) = zq128.b x0 x1 x2 x3 (V.jn (V.joinF zq128.E Tryz.f232.ntmps [1] [] (V.codeOf Tryz.f232) (zq128.kt x0 x1 x2 x3)) (zq128.s7 x0 x1 x2 x3)) := by kernel_rfl
theorem zq128.eq (x0 : Int) (x1 : Int) (x2 : ByteArray) (x3 : TGap) : V.evBody zq128.E zq128.con Tryz.f232 (V.fl11 x0 x1 x2 x3) = zq128 x0 x1 x2 x3 := by
  rw [zq128.v0, zq128.v]
  simp only [zq128.e7]
  rfl
theorem zq128.ok : V.Valid Tryz.prog 232 zq128.con :=
  V.fo (V.tab_cons zq165.ok (V.tab_cons zq179.ok (V.tab_cons zq131.ok (V.tab_cons zq130.ok (V.tab_cons zq174.ok (V.tab_cons zq150.ok V.tab_nil)))))) Tryz.func232 (by kernel_rfl) (fun x y h => (show V.evBody zq128.E zq128.con Tryz.f232 x = _ from zq128.eq (V.p11_0 x) (V.p11_1 x) (V.p11_2 x) (V.p11_3 x)).trans (V.cfl (by kernel_rfl) h))
noncomputable abbrev zq180.con : V.Con := ⟨V.A12, (.cons .bool .nil), fun (x : V.D12) => zq180 (V.p12_0 x) (V.p12_1 x) (V.p12_2 x), [], [(true, 16), (false, 1), (true, 21)], [(false, 1)], [false], []⟩
noncomputable abbrev zq180.E : V.Env := V.mkE V.tys [(230, zq130.con), (231, zq136.con), (232, zq128.con), (233, zq174.con)] [] [] [] [] []
noncomputable abbrev zq180.kt (x0 : THead) (x1 : ByteArray) (x2 : TAnswer) : V.Kt Bool := V.ktOf zq180.E zq180.con Tryz.f158 (V.fl12 x0 x1 x2)
noncomputable abbrev zq180.s (x0 : THead) (x1 : ByteArray) (x2 : TAnswer) : V.St := ⟨[(0, .v true [.val (.int .i64 x0.1), .val (.int .i64 x0.2.1), .val (.int .i64 x0.2.2.1), .val (.int .i64 x0.2.2.2.1), .val (.int .i64 x0.2.2.2.2.1), .val (.int .i64 x0.2.2.2.2.2.1), .val (.int .i64 x0.2.2.2.2.2.2.1), .val (.int .i64 x0.2.2.2.2.2.2.2.1), .val (.sl (.cons (.int .i64) .nil) x0.2.2.2.2.2.2.2.2.1), .val (.int .i64 x0.2.2.2.2.2.2.2.2.2.1), .val (.sl (.cons (.int .i64) .nil) x0.2.2.2.2.2.2.2.2.2.2.1), .val (.int .i64 x0.2.2.2.2.2.2.2.2.2.2.2.1), .val (.int .i64 x0.2.2.2.2.2.2.2.2.2.2.2.2.1), .val (.sl (.cons (.int .i64) .nil) x0.2.2.2.2.2.2.2.2.2.2.2.2.2.1), .val (.int .i64 x0.2.2.2.2.2.2.2.2.2.2.2.2.2.2.1), .val (.bool x0.2.2.2.2.2.2.2.2.2.2.2.2.2.2.2)]), (1, .v false [.val (.str x1)]), (2, .v true [.val (.sl V.eSigned x2.1), .val (.bool x2.2.1), .val (.str x2.2.2.1), .val (.int .i64 x2.2.2.2.1), .val (.int .i64 x2.2.2.2.2.1), .val (.sl (.cons .str .nil) x2.2.2.2.2.2.1), .val (.int .i64 x2.2.2.2.2.2.2.1), .val (.sl (.cons (.int .i64) .nil) x2.2.2.2.2.2.2.2.1), .val (.int .i64 x2.2.2.2.2.2.2.2.2.1), .val (.str x2.2.2.2.2.2.2.2.2.2.1), .val (.int .i64 x2.2.2.2.2.2.2.2.2.2.2.1), .val (.int .i64 x2.2.2.2.2.2.2.2.2.2.2.2.1), .val (.sl (.cons .str .nil) x2.2.2.2.2.2.2.2.2.2.2.2.2.1), .val (.str x2.2.2.2.2.2.2.2.2.2.2.2.2.2.1), .val (.int .i64 x2.2.2.2.2.2.2.2.2.2.2.2.2.2.2.1), .val (.int .i64 x2.2.2.2.2.2.2.2.2.2.2.2.2.2.2.2.1), .val (.sl (.cons .str .nil) x2.2.2.2.2.2.2.2.2.2.2.2.2.2.2.2.2.1), .val (.int .i64 x2.2.2.2.2.2.2.2.2.2.2.2.2.2.2.2.2.2.1), .val (.sl (.cons (.int .i64) .nil) x2.2.2.2.2.2.2.2.2.2.2.2.2.2.2.2.2.2.2.1), .val (.int .i64 x2.2.2.2.2.2.2.2.2.2.2.2.2.2.2.2.2.2.2.2.1), .val (.sl (.cons (.int .i64) .nil) x2.2.2.2.2.2.2.2.2.2.2.2.2.2.2.2.2.2.2.2.2)])], []⟩
theorem zq180.v0 (x0 : THead) (x1 : ByteArray) (x2 : TAnswer) : V.evBody zq180.E zq180.con Tryz.f158 (V.fl12 x0 x1 x2) = V.evC zq180.E Tryz.f158.ntmps (V.codeOf Tryz.f158) (zq180.kt x0 x1 x2) (zq180.s x0 x1 x2) := by kernel_rfl
theorem zq180.v (x0 : THead) (x1 : ByteArray) (x2 : TAnswer) : V.evC zq180.E Tryz.f158.ntmps (V.codeOf Tryz.f158) (zq180.kt x0 x1 x2) (zq180.s x0 x1 x2) = zq180 x0 x1 x2 := by kernel_rfl
theorem zq180.eq (x0 : THead) (x1 : ByteArray) (x2 : TAnswer) : V.evBody zq180.E zq180.con Tryz.f158 (V.fl12 x0 x1 x2) = zq180 x0 x1 x2 := (zq180.v0 x0 x1 x2).trans (zq180.v x0 x1 x2)
theorem zq180.ok : V.Valid Tryz.prog 158 zq180.con :=
  V.fo (V.tab_cons zq130.ok (V.tab_cons zq136.ok (V.tab_cons zq128.ok (V.tab_cons zq174.ok V.tab_nil)))) Tryz.func158 (by kernel_rfl) (fun x y h => (show V.evBody zq180.E zq180.con Tryz.f158 x = _ from zq180.eq (V.p12_0 x) (V.p12_1 x) (V.p12_2 x)).trans (V.cfl (by kernel_rfl) h))
noncomputable abbrev zq129.con : V.Con := ⟨V.A13, (.cons (.int .i64) .nil), fun (x : V.D13) => zq129 (V.p13_0 x) (V.p13_1 x) (V.p13_2 x) (V.p13_3 x), [], [(false, 1), (false, 1), (true, 21), (false, 1)], [(false, 1)], [false], []⟩
noncomputable abbrev zq129.E : V.Env := V.mkE V.tys [(134, zq157.con), (157, zq147.con), (158, zq180.con)] [] [] [] [] []
noncomputable abbrev zq129.kt (x0 : Int) (x1 : ByteArray) (x2 : TAnswer) (x3 : Int) : V.Kt Int := V.ktOf zq129.E zq129.con Tryz.f66 (V.fl13 x0 x1 x2 x3)
noncomputable abbrev zq129.s (x0 : Int) (x1 : ByteArray) (x2 : TAnswer) (x3 : Int) : V.St := ⟨[(0, .v false [.val (.int .i64 x0)]), (1, .v false [.val (.str x1)]), (2, .v true [.val (.sl V.eSigned x2.1), .val (.bool x2.2.1), .val (.str x2.2.2.1), .val (.int .i64 x2.2.2.2.1), .val (.int .i64 x2.2.2.2.2.1), .val (.sl (.cons .str .nil) x2.2.2.2.2.2.1), .val (.int .i64 x2.2.2.2.2.2.2.1), .val (.sl (.cons (.int .i64) .nil) x2.2.2.2.2.2.2.2.1), .val (.int .i64 x2.2.2.2.2.2.2.2.2.1), .val (.str x2.2.2.2.2.2.2.2.2.2.1), .val (.int .i64 x2.2.2.2.2.2.2.2.2.2.2.1), .val (.int .i64 x2.2.2.2.2.2.2.2.2.2.2.2.1), .val (.sl (.cons .str .nil) x2.2.2.2.2.2.2.2.2.2.2.2.2.1), .val (.str x2.2.2.2.2.2.2.2.2.2.2.2.2.2.1), .val (.int .i64 x2.2.2.2.2.2.2.2.2.2.2.2.2.2.2.1), .val (.int .i64 x2.2.2.2.2.2.2.2.2.2.2.2.2.2.2.2.1), .val (.sl (.cons .str .nil) x2.2.2.2.2.2.2.2.2.2.2.2.2.2.2.2.2.1), .val (.int .i64 x2.2.2.2.2.2.2.2.2.2.2.2.2.2.2.2.2.2.1), .val (.sl (.cons (.int .i64) .nil) x2.2.2.2.2.2.2.2.2.2.2.2.2.2.2.2.2.2.2.1), .val (.int .i64 x2.2.2.2.2.2.2.2.2.2.2.2.2.2.2.2.2.2.2.2.1), .val (.sl (.cons (.int .i64) .nil) x2.2.2.2.2.2.2.2.2.2.2.2.2.2.2.2.2.2.2.2.2)]), (3, .v false [.val (.int .i64 x3)])], []⟩
theorem zq129.v0 (x0 : Int) (x1 : ByteArray) (x2 : TAnswer) (x3 : Int) : V.evBody zq129.E zq129.con Tryz.f66 (V.fl13 x0 x1 x2 x3) = V.evC zq129.E Tryz.f66.ntmps (V.codeOf Tryz.f66) (zq129.kt x0 x1 x2 x3) (zq129.s x0 x1 x2 x3) := by kernel_rfl
theorem zq129.v (x0 : Int) (x1 : ByteArray) (x2 : TAnswer) (x3 : Int) : V.evC zq129.E Tryz.f66.ntmps (V.codeOf Tryz.f66) (zq129.kt x0 x1 x2 x3) (zq129.s x0 x1 x2 x3) = zq129 x0 x1 x2 x3 := by kernel_rfl
theorem zq129.eq (x0 : Int) (x1 : ByteArray) (x2 : TAnswer) (x3 : Int) : V.evBody zq129.E zq129.con Tryz.f66 (V.fl13 x0 x1 x2 x3) = zq129 x0 x1 x2 x3 := (zq129.v0 x0 x1 x2 x3).trans (zq129.v x0 x1 x2 x3)
theorem zq129.ok : V.Valid Tryz.prog 66 zq129.con :=
  V.fo (V.tab_cons zq157.ok (V.tab_cons zq147.ok (V.tab_cons zq180.ok V.tab_nil))) Tryz.func66 (by kernel_rfl) (fun x y h => (show V.evBody zq129.E zq129.con Tryz.f66 x = _ from zq129.eq (V.p13_0 x) (V.p13_1 x) (V.p13_2 x) (V.p13_3 x)).trans (V.cfl (by kernel_rfl) h))
noncomputable abbrev zq181.con : V.Con := ⟨(.cons (.sl (.cons .str .nil)) .nil), (.cons (.sl (.cons .str .nil)) .nil), fun (x : List ByteArray) => zq181 x, [], [(false, 1)], [(false, 1)], [true], []⟩
noncomputable abbrev zq181.E : V.Env := V.mkE V.tys [] [] [] [] [] []
theorem zq181.eq (x0 : List ByteArray) : V.evBody zq181.E zq181.con Tryz.f239 ((x0) : List ByteArray) = zq181 x0 := by kernel_rfl
theorem zq181.ok : V.Valid Tryz.prog 239 zq181.con :=
  V.fo V.tab_nil Tryz.func239 (by kernel_rfl) (fun x y h => (show V.evBody zq181.E zq181.con Tryz.f239 x = _ from zq181.eq x).trans (V.cfl (by kernel_rfl) h))
noncomputable abbrev zq183.con : V.Con := ⟨V.eEntry, V.eEntry, fun (x : ByteArray × Int × Int × List ByteArray) => zq183 x, [], [(true, 4)], [(true, 4)], [false, false, false, true], []⟩
noncomputable abbrev zq183.E : V.Env := V.mkE V.tys [(239, zq181.con)] [] [(1, 9)] [] [] []
theorem zq183.eq (x0 : TEntry) : V.evBody zq183.E zq183.con Tryz.f166 ((x0.1, x0.2.1, x0.2.2.1, x0.2.2.2) : ByteArray × Int × Int × List ByteArray) = zq183 x0 := by kernel_rfl
theorem zq183.ok : V.Valid Tryz.prog 166 zq183.con :=
  V.fo (V.tab_cons zq181.ok V.tab_nil) Tryz.func166 (by kernel_rfl) (fun x y h => (show V.evBody zq183.E zq183.con Tryz.f166 x = _ from zq183.eq x).trans (V.cfl (by kernel_rfl) h))
noncomputable abbrev zq133.con : V.Con := ⟨V.A13, V.eREntryBool, fun (x : V.D13) => zq133 (V.p13_0 x) (V.p13_1 x) (V.p13_2 x) (V.p13_3 x), [], [(false, 1), (false, 1), (true, 21), (false, 1)], [(true, 4), (false, 1)], [false, false, false, true, false], []⟩
noncomputable abbrev zq133.E : V.Env := V.mkE V.tys [(66, zq129.con), (166, zq183.con)] [(5, [6, 8, 20], [])] [] [] [] []
noncomputable abbrev zq133.kt (x0 : Int) (x1 : ByteArray) (x2 : TAnswer) (x3 : Int) : V.Kt TREntryBool := V.ktOf zq133.E zq133.con Tryz.f70 (V.fl13 x0 x1 x2 x3)
noncomputable abbrev zq133.s5 (x2 : TAnswer) (v5_0 : Bool) : V.St := ⟨[(6, .v false [.ptr 64000 0]), (8, .v false [.ptr 64064 0]), (20, .v false [.val (.bool v5_0)])], [(64000, .box [.val (.sl V.eSigned x2.1), .val (.bool x2.2.1), .val (.str x2.2.2.1), .val (.int .i64 x2.2.2.2.1), .val (.int .i64 x2.2.2.2.2.1), .val (.sl (.cons .str .nil) x2.2.2.2.2.2.1), .val (.int .i64 x2.2.2.2.2.2.2.1), .val (.sl (.cons (.int .i64) .nil) x2.2.2.2.2.2.2.2.1), .val (.int .i64 x2.2.2.2.2.2.2.2.2.1), .val (.str x2.2.2.2.2.2.2.2.2.2.1), .val (.int .i64 x2.2.2.2.2.2.2.2.2.2.2.1), .val (.int .i64 x2.2.2.2.2.2.2.2.2.2.2.2.1), .val (.sl (.cons .str .nil) x2.2.2.2.2.2.2.2.2.2.2.2.2.1), .val (.str x2.2.2.2.2.2.2.2.2.2.2.2.2.2.1), .val (.int .i64 x2.2.2.2.2.2.2.2.2.2.2.2.2.2.2.1), .val (.int .i64 x2.2.2.2.2.2.2.2.2.2.2.2.2.2.2.2.1), .val (.sl (.cons .str .nil) x2.2.2.2.2.2.2.2.2.2.2.2.2.2.2.2.2.1), .val (.int .i64 x2.2.2.2.2.2.2.2.2.2.2.2.2.2.2.2.2.2.1), .val (.sl (.cons (.int .i64) .nil) x2.2.2.2.2.2.2.2.2.2.2.2.2.2.2.2.2.2.2.1), .val (.int .i64 x2.2.2.2.2.2.2.2.2.2.2.2.2.2.2.2.2.2.2.2.1), .val (.sl (.cons (.int .i64) .nil) x2.2.2.2.2.2.2.2.2.2.2.2.2.2.2.2.2.2.2.2.2)]), (64064, .box [.val (.str (⟨#[]⟩ : ByteArray)), .val (.int .i64 (0 : Int)), .val (.int .i64 (0 : Int)), .nil0])]⟩
theorem zq133.r5 (x0 : Int) (x1 : ByteArray) (x2 : TAnswer) (x3 : Int) (v5_0 : Bool) : V.joinF zq133.E Tryz.f70.ntmps [1, 0] [] (V.codeOf Tryz.f70) (zq133.kt x0 x1 x2 x3) (zq133.s5 x2 v5_0) = zq133.g5 x2 v5_0 := by kernel_rfl
theorem zq133.e5 (x0 : Int) (x1 : ByteArray) (x2 : TAnswer) (x3 : Int) (v5_0 : Bool) : V.jn (V.joinF zq133.E Tryz.f70.ntmps [1, 0] [] (V.codeOf Tryz.f70) (zq133.kt x0 x1 x2 x3)) (zq133.s5 x2 v5_0) = zq133.l5 x2 v5_0 := by
  rw [V.jn_eq, zq133.r5]
  rfl
noncomputable abbrev zq133.s (x0 : Int) (x1 : ByteArray) (x2 : TAnswer) (x3 : Int) : V.St := ⟨[(0, .v false [.val (.int .i64 x0)]), (1, .v false [.val (.str x1)]), (2, .v true [.val (.sl V.eSigned x2.1), .val (.bool x2.2.1), .val (.str x2.2.2.1), .val (.int .i64 x2.2.2.2.1), .val (.int .i64 x2.2.2.2.2.1), .val (.sl (.cons .str .nil) x2.2.2.2.2.2.1), .val (.int .i64 x2.2.2.2.2.2.2.1), .val (.sl (.cons (.int .i64) .nil) x2.2.2.2.2.2.2.2.1), .val (.int .i64 x2.2.2.2.2.2.2.2.2.1), .val (.str x2.2.2.2.2.2.2.2.2.2.1), .val (.int .i64 x2.2.2.2.2.2.2.2.2.2.2.1), .val (.int .i64 x2.2.2.2.2.2.2.2.2.2.2.2.1), .val (.sl (.cons .str .nil) x2.2.2.2.2.2.2.2.2.2.2.2.2.1), .val (.str x2.2.2.2.2.2.2.2.2.2.2.2.2.2.1), .val (.int .i64 x2.2.2.2.2.2.2.2.2.2.2.2.2.2.2.1), .val (.int .i64 x2.2.2.2.2.2.2.2.2.2.2.2.2.2.2.2.1), .val (.sl (.cons .str .nil) x2.2.2.2.2.2.2.2.2.2.2.2.2.2.2.2.2.1), .val (.int .i64 x2.2.2.2.2.2.2.2.2.2.2.2.2.2.2.2.2.2.1), .val (.sl (.cons (.int .i64) .nil) x2.2.2.2.2.2.2.2.2.2.2.2.2.2.2.2.2.2.2.1), .val (.int .i64 x2.2.2.2.2.2.2.2.2.2.2.2.2.2.2.2.2.2.2.2.1), .val (.sl (.cons (.int .i64) .nil) x2.2.2.2.2.2.2.2.2.2.2.2.2.2.2.2.2.2.2.2.2)]), (3, .v false [.val (.int .i64 x3)])], []⟩
theorem zq133.v0 (x0 : Int) (x1 : ByteArray) (x2 : TAnswer) (x3 : Int) : V.evBody zq133.E zq133.con Tryz.f70 (V.fl13 x0 x1 x2 x3) = V.evC zq133.E Tryz.f70.ntmps (V.codeOf Tryz.f70) (zq133.kt x0 x1 x2 x3) (zq133.s x0 x1 x2 x3) := by kernel_rfl
theorem zq133.v (x0 : Int) (x1 : ByteArray) (x2 : TAnswer) (x3 : Int) : V.evC zq133.E Tryz.f70.ntmps (V.codeOf Tryz.f70) (zq133.kt x0 x1 x2 x3) (zq133.s x0 x1 x2 x3) = zq133.b x0 x1 x2 x3 (fun v5_0 => V.jn (V.joinF zq133.E Tryz.f70.ntmps [1, 0] [] (V.codeOf Tryz.f70) (zq133.kt x0 x1 x2 x3)) (zq133.s5 x2 v5_0)) := by kernel_rfl
theorem zq133.eq (x0 : Int) (x1 : ByteArray) (x2 : TAnswer) (x3 : Int) : V.evBody zq133.E zq133.con Tryz.f70 (V.fl13 x0 x1 x2 x3) = zq133 x0 x1 x2 x3 := by
  rw [zq133.v0, zq133.v]
  simp only [zq133.e5]
  rfl
theorem zq133.ok : V.Valid Tryz.prog 70 zq133.con :=
  V.fo (V.tab_cons zq129.ok (V.tab_cons zq183.ok V.tab_nil)) Tryz.func70 (by kernel_rfl) (fun x y h => (show V.evBody zq133.E zq133.con Tryz.f70 x = _ from zq133.eq (V.p13_0 x) (V.p13_1 x) (V.p13_2 x) (V.p13_3 x)).trans (V.cfl (by kernel_rfl) h))
noncomputable abbrev zq17.con : V.Con := ⟨(.cons (.int .i64) (.cons (.int .i64) (.cons (.int .i64) .nil))), (.cons .bool .nil), fun (x : Int × Int × Int) => zq17 x.1 x.2.1 x.2.2, [], [(false, 1), (false, 1), (false, 1)], [(false, 1)], [false], []⟩
noncomputable abbrev zq17.E : V.Env := V.mkE V.tys [] [] [] [] [] []
theorem zq17.eq (x0 : Int) (x1 : Int) (x2 : Int) : V.evBody zq17.E zq17.con Tryz.f151 ((x0, x1, x2) : Int × Int × Int) = zq17 x0 x1 x2 := by kernel_rfl
theorem zq17.ok : V.Valid Tryz.prog 151 zq17.con :=
  V.fo V.tab_nil Tryz.func151 (by kernel_rfl) (fun x y h => (show V.evBody zq17.E zq17.con Tryz.f151 x = _ from zq17.eq x.1 x.2.1 x.2.2).trans (V.cfl (by kernel_rfl) h))
noncomputable abbrev zq55.con : V.Con := ⟨(.cons (.int .i64) .nil), (.cons .bool .nil), fun (x : Int) => zq55 x, [], [(false, 1)], [(false, 1)], [false], []⟩
noncomputable abbrev zq55.E : V.Env := V.mkE V.tys [(151, zq17.con)] [] [] [] [] []
theorem zq55.eq (x0 : Int) : V.evBody zq55.E zq55.con Tryz.f217 ((x0) : Int) = zq55 x0 := by kernel_rfl
theorem zq55.ok : V.Valid Tryz.prog 217 zq55.con :=
  V.fo (V.tab_cons zq17.ok V.tab_nil) Tryz.func217 (by kernel_rfl) (fun x y h => (show V.evBody zq55.E zq55.con Tryz.f217 x = _ from zq55.eq x).trans (V.cfl (by kernel_rfl) h))
noncomputable abbrev zq60.con : V.Con := ⟨V.A4, (.cons .bool .nil), fun (x : V.D4) => zq60 (V.p4_0 x), [], [(true, 16)], [(false, 1)], [false], []⟩
noncomputable abbrev zq60.E : V.Env := V.mkE V.tys [] [] [] [] [] []
noncomputable abbrev zq60.kt (x0 : THead) : V.Kt Bool := V.ktOf zq60.E zq60.con Tryz.f255 (V.fl4 x0)
noncomputable abbrev zq60.s (x0 : THead) : V.St := ⟨[(0, .v true [.val (.int .i64 x0.1), .val (.int .i64 x0.2.1), .val (.int .i64 x0.2.2.1), .val (.int .i64 x0.2.2.2.1), .val (.int .i64 x0.2.2.2.2.1), .val (.int .i64 x0.2.2.2.2.2.1), .val (.int .i64 x0.2.2.2.2.2.2.1), .val (.int .i64 x0.2.2.2.2.2.2.2.1), .val (.sl (.cons (.int .i64) .nil) x0.2.2.2.2.2.2.2.2.1), .val (.int .i64 x0.2.2.2.2.2.2.2.2.2.1), .val (.sl (.cons (.int .i64) .nil) x0.2.2.2.2.2.2.2.2.2.2.1), .val (.int .i64 x0.2.2.2.2.2.2.2.2.2.2.2.1), .val (.int .i64 x0.2.2.2.2.2.2.2.2.2.2.2.2.1), .val (.sl (.cons (.int .i64) .nil) x0.2.2.2.2.2.2.2.2.2.2.2.2.2.1), .val (.int .i64 x0.2.2.2.2.2.2.2.2.2.2.2.2.2.2.1), .val (.bool x0.2.2.2.2.2.2.2.2.2.2.2.2.2.2.2)])], []⟩
theorem zq60.v0 (x0 : THead) : V.evBody zq60.E zq60.con Tryz.f255 (V.fl4 x0) = V.evC zq60.E Tryz.f255.ntmps (V.codeOf Tryz.f255) (zq60.kt x0) (zq60.s x0) := by kernel_rfl
theorem zq60.v (x0 : THead) : V.evC zq60.E Tryz.f255.ntmps (V.codeOf Tryz.f255) (zq60.kt x0) (zq60.s x0) = zq60 x0 := by kernel_rfl
theorem zq60.eq (x0 : THead) : V.evBody zq60.E zq60.con Tryz.f255 (V.fl4 x0) = zq60 x0 := (zq60.v0 x0).trans (zq60.v x0)
theorem zq60.ok : V.Valid Tryz.prog 255 zq60.con :=
  V.fo V.tab_nil Tryz.func255 (by kernel_rfl) (fun x y h => (show V.evBody zq60.E zq60.con Tryz.f255 x = _ from zq60.eq (V.p4_0 x)).trans (V.cfl (by kernel_rfl) h))
noncomputable abbrev zq48.con : V.Con := ⟨(.cons (.sl (.cons (.int .i64) .nil)) .nil), (.cons .bool .nil), fun (x : List Int) => zq48 x, [], [(false, 1)], [(false, 1)], [false], []⟩
noncomputable abbrev zq48.E : V.Env := V.mkE V.tys [] [(4, [0, 5, 6], [])] [(4, 12)] [] [] []
noncomputable abbrev zq48.kt (x0 : List Int) : V.Kt Bool := V.ktOf zq48.E zq48.con Tryz.f298 ((x0) : List Int)
noncomputable abbrev zq48.s4 (x0 : List Int) (v4_1 : Int) (v4_2 : Int) : V.St := ⟨[(0, .v false [.val (.sl (.cons (.int .i64) .nil) x0)]), (5, .v false [.val (.int .i64 v4_1)]), (6, .v false [.val (.int .i64 v4_2)])], []⟩
theorem zq48.r4 (x0 : List Int) (R : V.St → Option Bool) (v4_1 : Int) (v4_2 : Int) : V.loopF zq48.E Tryz.f298.ntmps [1, 0, 1, 0] [] (V.codeOf Tryz.f298) (zq48.kt x0) R (zq48.s4 x0 v4_1 v4_2) = zq48.g4 x0 (fun v4_1 v4_2 => R (zq48.s4 x0 v4_1 v4_2)) v4_1 v4_2 := by kernel_rfl
theorem zq48.e4 (x0 : List Int) : ∀ (n : Nat) (v4_1 : Int) (v4_2 : Int), V.loopN (V.loopF zq48.E Tryz.f298.ntmps [1, 0, 1, 0] [] (V.codeOf Tryz.f298) (zq48.kt x0)) n (zq48.s4 x0 v4_1 v4_2) = zq48.l4 x0 n v4_1 v4_2 := by
  intro n
  induction n with
  | zero => intros; rw [V.loopN_z]; rfl
  | succ n ih =>
    intro v4_1 v4_2
    rw [V.loopN_s, zq48.r4]
    simp only [ih]
    first | exact (zq48.u4 ..).symm | rfl
theorem zq48.v (x0 : List Int) : V.evBody zq48.E zq48.con Tryz.f298 ((x0) : List Int) = zq48.b x0 (fun v4_1 v4_2 => V.loopN (V.loopF zq48.E Tryz.f298.ntmps [1, 0, 1, 0] [] (V.codeOf Tryz.f298) (zq48.kt x0)) V.KK (zq48.s4 x0 v4_1 v4_2)) := by kernel_rfl
theorem zq48.eq (x0 : List Int) : V.evBody zq48.E zq48.con Tryz.f298 ((x0) : List Int) = zq48 x0 := by
  rw [zq48.v]
  simp only [zq48.e4]
  rfl
theorem zq48.ok : V.Valid Tryz.prog 298 zq48.con :=
  V.fo V.tab_nil Tryz.func298 (by kernel_rfl) (fun x y h => (show V.evBody zq48.E zq48.con Tryz.f298 x = _ from zq48.eq x).trans (V.cfl (by kernel_rfl) h))
noncomputable abbrev zq56.con : V.Con := ⟨(.cons (.int .i64) .nil), (.cons .bool .nil), fun (x : Int) => zq56 x, [], [(false, 1)], [(false, 1)], [false], []⟩
noncomputable abbrev zq56.E : V.Env := V.mkE V.tys [(151, zq17.con)] [] [] [] [] []
theorem zq56.eq (x0 : Int) : V.evBody zq56.E zq56.con Tryz.f218 ((x0) : Int) = zq56 x0 := by kernel_rfl
theorem zq56.ok : V.Valid Tryz.prog 218 zq56.con :=
  V.fo (V.tab_cons zq17.ok V.tab_nil) Tryz.func218 (by kernel_rfl) (fun x y h => (show V.evBody zq56.E zq56.con Tryz.f218 x = _ from zq56.eq x).trans (V.cfl (by kernel_rfl) h))
noncomputable abbrev zq23.con : V.Con := ⟨(.cons (.sl (.cons (.int .i64) .nil)) (.cons (.int .i64) .nil)), (.cons .bool .nil), fun (x : List Int × Int) => zq23 x, [], [(true, 2)], [(false, 1)], [false], []⟩
noncomputable abbrev zq23.E : V.Env := V.mkE V.tys [(151, zq17.con), (218, zq56.con), (298, zq48.con)] [] [] [] [] []
theorem zq23.eq (x0 : TKeys) : V.evBody zq23.E zq23.con Tryz.f256 ((x0.1, x0.2) : List Int × Int) = zq23 x0 := by kernel_rfl
theorem zq23.ok : V.Valid Tryz.prog 256 zq23.con :=
  V.fo (V.tab_cons zq17.ok (V.tab_cons zq56.ok (V.tab_cons zq48.ok V.tab_nil))) Tryz.func256 (by kernel_rfl) (fun x y h => (show V.evBody zq23.E zq23.con Tryz.f256 x = _ from zq23.eq x).trans (V.cfl (by kernel_rfl) h))
noncomputable abbrev zq38.con : V.Con := ⟨(.cons (.sl (.cons (.int .i64) .nil)) (.cons (.int .i64) .nil)), (.cons .bool .nil), fun (x : List Int × Int) => zq38 x, [], [(true, 2)], [(false, 1)], [false], []⟩
noncomputable abbrev zq38.E : V.Env := V.mkE V.tys [] [] [] [] [] []
theorem zq38.eq (x0 : TKeys) : V.evBody zq38.E zq38.con Tryz.f259 ((x0.1, x0.2) : List Int × Int) = zq38 x0 := by kernel_rfl
theorem zq38.ok : V.Valid Tryz.prog 259 zq38.con :=
  V.fo V.tab_nil Tryz.func259 (by kernel_rfl) (fun x y h => (show V.evBody zq38.E zq38.con Tryz.f259 x = _ from zq38.eq x).trans (V.cfl (by kernel_rfl) h))
noncomputable abbrev zq57.con : V.Con := ⟨(.cons (.sl (.cons (.int .i64) .nil)) (.cons (.int .i64) .nil)), (.cons .bool .nil), fun (x : List Int × Int) => zq57 x, [], [(true, 2)], [(false, 1)], [false], []⟩
noncomputable abbrev zq57.E : V.Env := V.mkE V.tys [(256, zq23.con), (259, zq38.con)] [] [] [] [] []
theorem zq57.eq (x0 : TKeys) : V.evBody zq57.E zq57.con Tryz.f257 ((x0.1, x0.2) : List Int × Int) = zq57 x0 := by kernel_rfl
theorem zq57.ok : V.Valid Tryz.prog 257 zq57.con :=
  V.fo (V.tab_cons zq23.ok (V.tab_cons zq38.ok V.tab_nil)) Tryz.func257 (by kernel_rfl) (fun x y h => (show V.evBody zq57.E zq57.con Tryz.f257 x = _ from zq57.eq x).trans (V.cfl (by kernel_rfl) h))
noncomputable abbrev zq61.con : V.Con := ⟨(.cons (.int .i64) (.cons (.sl (.cons (.int .i64) .nil)) (.cons (.int .i64) .nil))), (.cons .bool .nil), fun (x : Int × List Int × Int) => zq61 x.1 x.2, [], [(false, 1), (true, 2)], [(false, 1)], [false], []⟩
noncomputable abbrev zq61.E : V.Env := V.mkE V.tys [(151, zq17.con), (259, zq38.con)] [] [] [] [] []
theorem zq61.eq (x0 : Int) (x1 : TKeys) : V.evBody zq61.E zq61.con Tryz.f258 ((x0, x1.1, x1.2) : Int × List Int × Int) = zq61 x0 x1 := by kernel_rfl
theorem zq61.ok : V.Valid Tryz.prog 258 zq61.con :=
  V.fo (V.tab_cons zq17.ok (V.tab_cons zq38.ok V.tab_nil)) Tryz.func258 (by kernel_rfl) (fun x y h => (show V.evBody zq61.E zq61.con Tryz.f258 x = _ from zq61.eq x.1 x.2).trans (V.cfl (by kernel_rfl) h))
noncomputable abbrev zq22.con : V.Con := ⟨V.A4, (.cons .bool .nil), fun (x : V.D4) => zq22 (V.p4_0 x), [], [(true, 16)], [(false, 1)], [false], []⟩
noncomputable abbrev zq22.E : V.Env := V.mkE V.tys [(151, zq17.con), (217, zq55.con), (255, zq60.con), (256, zq23.con), (257, zq57.con), (258, zq61.con), (259, zq38.con)] [] [] [] [] []
noncomputable abbrev zq22.kt (x0 : THead) : V.Kt Bool := V.ktOf zq22.E zq22.con Tryz.f194 (V.fl4 x0)
noncomputable abbrev zq22.s (x0 : THead) : V.St := ⟨[(0, .v true [.val (.int .i64 x0.1), .val (.int .i64 x0.2.1), .val (.int .i64 x0.2.2.1), .val (.int .i64 x0.2.2.2.1), .val (.int .i64 x0.2.2.2.2.1), .val (.int .i64 x0.2.2.2.2.2.1), .val (.int .i64 x0.2.2.2.2.2.2.1), .val (.int .i64 x0.2.2.2.2.2.2.2.1), .val (.sl (.cons (.int .i64) .nil) x0.2.2.2.2.2.2.2.2.1), .val (.int .i64 x0.2.2.2.2.2.2.2.2.2.1), .val (.sl (.cons (.int .i64) .nil) x0.2.2.2.2.2.2.2.2.2.2.1), .val (.int .i64 x0.2.2.2.2.2.2.2.2.2.2.2.1), .val (.int .i64 x0.2.2.2.2.2.2.2.2.2.2.2.2.1), .val (.sl (.cons (.int .i64) .nil) x0.2.2.2.2.2.2.2.2.2.2.2.2.2.1), .val (.int .i64 x0.2.2.2.2.2.2.2.2.2.2.2.2.2.2.1), .val (.bool x0.2.2.2.2.2.2.2.2.2.2.2.2.2.2.2)])], []⟩
theorem zq22.v0 (x0 : THead) : V.evBody zq22.E zq22.con Tryz.f194 (V.fl4 x0) = V.evC zq22.E Tryz.f194.ntmps (V.codeOf Tryz.f194) (zq22.kt x0) (zq22.s x0) := by kernel_rfl
theorem zq22.v (x0 : THead) : V.evC zq22.E Tryz.f194.ntmps (V.codeOf Tryz.f194) (zq22.kt x0) (zq22.s x0) = zq22 x0 := by kernel_rfl
theorem zq22.eq (x0 : THead) : V.evBody zq22.E zq22.con Tryz.f194 (V.fl4 x0) = zq22 x0 := (zq22.v0 x0).trans (zq22.v x0)
theorem zq22.ok : V.Valid Tryz.prog 194 zq22.con :=
  V.fo (V.tab_cons zq17.ok (V.tab_cons zq55.ok (V.tab_cons zq60.ok (V.tab_cons zq23.ok (V.tab_cons zq57.ok (V.tab_cons zq61.ok (V.tab_cons zq38.ok V.tab_nil))))))) Tryz.func194 (by kernel_rfl) (fun x y h => (show V.evBody zq22.E zq22.con Tryz.f194 x = _ from zq22.eq (V.p4_0 x)).trans (V.cfl (by kernel_rfl) h))
noncomputable abbrev zq30.con : V.Con := ⟨(.cons (.sl (.cons (.int .i64) .nil)) (.cons (.int .i64) .nil)), (.cons (.sl (.cons (.int .i64) .nil)) .nil), fun (x : List Int × Int) => zq30 x, [], [(true, 2)], [(false, 1)], [true], []⟩
noncomputable abbrev zq30.E : V.Env := V.mkE V.tys [] [] [] [] [] []
theorem zq30.eq (x0 : TKeys) : V.evBody zq30.E zq30.con Tryz.f271 ((x0.1, x0.2) : List Int × Int) = zq30 x0 := by kernel_rfl
theorem zq30.ok : V.Valid Tryz.prog 271 zq30.con :=
  V.fo V.tab_nil Tryz.func271 (by kernel_rfl) (fun x y h => (show V.evBody zq30.E zq30.con Tryz.f271 x = _ from zq30.eq x).trans (V.cfl (by kernel_rfl) h))
noncomputable abbrev zq36.con : V.Con := ⟨(.cons (.int .i64) (.cons (.int .i64) .nil)), (.cons (.int .i64) .nil), fun (x : Int × Int) => zq36 x.1 x.2, [], [(false, 1), (false, 1)], [(false, 1)], [false], []⟩
noncomputable abbrev zq36.E : V.Env := V.mkE V.tys [(151, zq17.con)] [] [] [] [] []
theorem zq36.eq (x0 : Int) (x1 : Int) : V.evBody zq36.E zq36.con Tryz.f299 ((x0, x1) : Int × Int) = zq36 x0 x1 := by kernel_rfl
theorem zq36.ok : V.Valid Tryz.prog 299 zq36.con :=
  V.fo (V.tab_cons zq17.ok V.tab_nil) Tryz.func299 (by kernel_rfl) (fun x y h => (show V.evBody zq36.E zq36.con Tryz.f299 x = _ from zq36.eq x.1 x.2).trans (V.cfl (by kernel_rfl) h))
noncomputable abbrev zq14.con : V.Con := ⟨(.cons (.sl (.cons (.int .i64) .nil)) .nil), (.cons (.int .i64) .nil), fun (x : List Int) => zq14 x, [], [(false, 1)], [(false, 1)], [false], []⟩
noncomputable abbrev zq14.E : V.Env := V.mkE V.tys [(299, zq36.con)] [(6, [3, 6, 7, 8], [])] [] [] [] []
noncomputable abbrev zq14.kt (x0 : List Int) : V.Kt Int := V.ktOf zq14.E zq14.con Tryz.f260 ((x0) : List Int)
noncomputable abbrev zq14.s6 (x0 : List Int) (v6_0 : Int) (v6_2 : Int) (v6_3 : Int) : V.St := ⟨[(3, .v false [.val (.int .i64 v6_0)]), (6, .v false [.val (.sl (.cons (.int .i64) .nil) x0)]), (7, .v false [.val (.int .i64 v6_2)]), (8, .v false [.val (.int .i64 v6_3)])], []⟩
theorem zq14.r6 (x0 : List Int) (R : V.St → Option Int) (v6_0 : Int) (v6_2 : Int) (v6_3 : Int) : V.loopF zq14.E Tryz.f260.ntmps [1, 1, 0, 1, 0] [] (V.codeOf Tryz.f260) (zq14.kt x0) R (zq14.s6 x0 v6_0 v6_2 v6_3) = zq14.g6 x0 (fun v6_0 v6_2 v6_3 => R (zq14.s6 x0 v6_0 v6_2 v6_3)) v6_0 v6_2 v6_3 := by kernel_rfl
theorem zq14.e6 (x0 : List Int) : ∀ (n : Nat) (v6_0 : Int) (v6_2 : Int) (v6_3 : Int), V.loopN (V.loopF zq14.E Tryz.f260.ntmps [1, 1, 0, 1, 0] [] (V.codeOf Tryz.f260) (zq14.kt x0)) n (zq14.s6 x0 v6_0 v6_2 v6_3) = zq14.l6 x0 n v6_0 v6_2 v6_3 := by
  intro n
  induction n with
  | zero => intros; rw [V.loopN_z]; rfl
  | succ n ih =>
    intro v6_0 v6_2 v6_3
    rw [V.loopN_s, zq14.r6]
    simp only [ih]
    first | exact (zq14.u6 ..).symm | rfl
theorem zq14.v (x0 : List Int) : V.evBody zq14.E zq14.con Tryz.f260 ((x0) : List Int) = zq14.b x0 (fun v6_0 v6_2 v6_3 => V.loopN (V.loopF zq14.E Tryz.f260.ntmps [1, 1, 0, 1, 0] [] (V.codeOf Tryz.f260) (zq14.kt x0)) V.KK (zq14.s6 x0 v6_0 v6_2 v6_3)) := by kernel_rfl
theorem zq14.eq (x0 : List Int) : V.evBody zq14.E zq14.con Tryz.f260 ((x0) : List Int) = zq14 x0 := by
  rw [zq14.v]
  simp only [zq14.e6]
  rfl
theorem zq14.ok : V.Valid Tryz.prog 260 zq14.con :=
  V.fo (V.tab_cons zq36.ok V.tab_nil) Tryz.func260 (by kernel_rfl) (fun x y h => (show V.evBody zq14.E zq14.con Tryz.f260 x = _ from zq14.eq x).trans (V.cfl (by kernel_rfl) h))
noncomputable abbrev zq46.con : V.Con := ⟨(.cons (.sl (.cons (.int .i64) .nil)) (.cons (.int .i64) (.cons (.int .i64) .nil))), (.cons (.int .i64) .nil), fun (x : List Int × Int × Int) => zq46 (x.1, x.2.1) x.2.2, [], [(true, 2), (false, 1)], [(false, 1)], [false], []⟩
noncomputable abbrev zq46.E : V.Env := V.mkE V.tys [(260, zq14.con), (271, zq30.con)] [] [] [] [] []
theorem zq46.eq (x0 : TKeys) (x1 : Int) : V.evBody zq46.E zq46.con Tryz.f227 ((x0.1, x0.2, x1) : List Int × Int × Int) = zq46 x0 x1 := by kernel_rfl
theorem zq46.ok : V.Valid Tryz.prog 227 zq46.con :=
  V.fo (V.tab_cons zq14.ok (V.tab_cons zq30.ok V.tab_nil)) Tryz.func227 (by kernel_rfl) (fun x y h => (show V.evBody zq46.E zq46.con Tryz.f227 x = _ from zq46.eq (x.1, x.2.1) x.2.2).trans (V.cfl (by kernel_rfl) h))
noncomputable abbrev zq49.con : V.Con := ⟨(.cons .bool .nil), (.cons (.int .i64) .nil), fun (x : Bool) => zq49 x, [], [(false, 1)], [(false, 1)], [false], []⟩
noncomputable abbrev zq49.E : V.Env := V.mkE V.tys [] [] [] [] [] []
theorem zq49.eq (x0 : Bool) : V.evBody zq49.E zq49.con Tryz.f272 ((x0) : Bool) = zq49 x0 := by kernel_rfl
theorem zq49.ok : V.Valid Tryz.prog 272 zq49.con :=
  V.fo V.tab_nil Tryz.func272 (by kernel_rfl) (fun x y h => (show V.evBody zq49.E zq49.con Tryz.f272 x = _ from zq49.eq x).trans (V.cfl (by kernel_rfl) h))
noncomputable abbrev zq124.con : V.Con := ⟨(.cons (.sl (.cons (.int .i64) .nil)) (.cons (.int .i64) .nil)), (.cons (.sl (.cons (.int .i64) .nil)) .nil), fun (x : List Int × Int) => zq124 x.1 x.2, [], [(false, 1), (false, 1)], [(false, 1)], [true], [0]⟩
noncomputable abbrev zq124.E : V.Env := V.mkE V.tys [] [(7, [0, 1], [])] [] [] [] []
noncomputable abbrev zq124.kt (x0 : List Int) (x1 : Int) : V.Kt (List Int) := V.ktOf zq124.E zq124.con Tryz.f303 ((x0, x1) : List Int × Int)
noncomputable abbrev zq124.s7 (x1 : Int) : V.St := ⟨[(0, .v false [.nil0]), (1, .v false [.val (.int .i64 x1)])], []⟩
theorem zq124.r7 (x0 : List Int) (x1 : Int) : V.joinF zq124.E Tryz.f303.ntmps [1] [] (V.codeOf Tryz.f303) (zq124.kt x0 x1) (zq124.s7 x1) = zq124.g7 x1 := by kernel_rfl
theorem zq124.e7 (x0 : List Int) (x1 : Int) : V.jn (V.joinF zq124.E Tryz.f303.ntmps [1] [] (V.codeOf Tryz.f303) (zq124.kt x0 x1)) (zq124.s7 x1) = zq124.l7 x1 := by
  rw [V.jn_eq, zq124.r7]
  rfl
theorem zq124.v (x0 : List Int) (x1 : Int) : V.evBody zq124.E zq124.con Tryz.f303 ((x0, x1) : List Int × Int) = zq124.b x0 x1 (V.jn (V.joinF zq124.E Tryz.f303.ntmps [1] [] (V.codeOf Tryz.f303) (zq124.kt x0 x1)) (zq124.s7 x1)) := by kernel_rfl
theorem zq124.eq (x0 : List Int) (x1 : Int) : V.evBody zq124.E zq124.con Tryz.f303 ((x0, x1) : List Int × Int) = zq124 x0 x1 := by
  rw [zq124.v]
  simp only [zq124.e7]
  rfl
theorem zq124.ok : V.Valid Tryz.prog 303 zq124.con :=
  V.fo V.tab_nil Tryz.func303 (by kernel_rfl) (fun x y h => (show V.evBody zq124.E zq124.con Tryz.f303 x = _ from zq124.eq x.1 x.2).trans (V.cfl (by kernel_rfl) h))
noncomputable abbrev zq119.con : V.Con := ⟨(.cons (.sl (.cons (.sl (.cons (.int .i64) .nil)) .nil)) .nil), (.cons (.sl (.cons (.int .i64) .nil)) .nil), fun (x : List (List Int)) => zq119 x, [], [(false, 1)], [(false, 1)], [true], []⟩
noncomputable abbrev zq119.E : V.Env := V.mkE V.tys [(303, zq124.con)] [(6, [0, 3, 9, 10, 11], []), (22, [6, 25, 26, 27], [])] [] [] [] []
noncomputable abbrev zq119.kt (x0 : List (List Int)) : V.Kt (List Int) := V.ktOf zq119.E zq119.con Tryz.f270 ((x0) : List (List Int))
noncomputable abbrev zq119.s22 (x0 : List (List Int)) (v22_1 : Int) (v22_2 : Int) (v22_3 : List Int) : V.St := ⟨[(6, .v false [.ref 64000140800384]), (25, .v false [.val (.sl (.cons (.sl (.cons (.int .i64) .nil)) .nil) x0)]), (26, .v false [.val (.int .i64 v22_1)]), (27, .v false [.val (.int .i64 v22_2)])], [(64000140800384, .row (.cons (.int .i64) .nil) true v22_3)]⟩
noncomputable abbrev zq119.s6 (x0 : List (List Int)) (v6_1 : Int) (v6_3 : Int) (v6_4 : Int) : V.St := ⟨[(0, .v false [.val (.sl (.cons (.sl (.cons (.int .i64) .nil)) .nil) x0)]), (3, .v false [.val (.int .i64 v6_1)]), (9, .v false [.val (.sl (.cons (.sl (.cons (.int .i64) .nil)) .nil) x0)]), (10, .v false [.val (.int .i64 v6_3)]), (11, .v false [.val (.int .i64 v6_4)])], []⟩
theorem zq119.r22 (x0 : List (List Int)) (R : V.St → Option (List Int)) (v22_1 : Int) (v22_2 : Int) (v22_3 : List Int) : V.loopF zq119.E Tryz.f270.ntmps [1, 1, 1, 1, 0, 1, 0] [] (V.codeOf Tryz.f270) (zq119.kt x0) R (zq119.s22 x0 v22_1 v22_2 v22_3) = zq119.g22 x0 (fun v22_1 v22_2 v22_3 => R (zq119.s22 x0 v22_1 v22_2 v22_3)) v22_1 v22_2 v22_3 := by kernel_rfl
theorem zq119.e22 (x0 : List (List Int)) : ∀ (n : Nat) (v22_1 : Int) (v22_2 : Int) (v22_3 : List Int), V.loopN (V.loopF zq119.E Tryz.f270.ntmps [1, 1, 1, 1, 0, 1, 0] [] (V.codeOf Tryz.f270) (zq119.kt x0)) n (zq119.s22 x0 v22_1 v22_2 v22_3) = zq119.l22 x0 n v22_1 v22_2 v22_3 := by
  intro n
  induction n with
  | zero => intros; rw [V.loopN_z]; rfl
  | succ n ih =>
    intro v22_1 v22_2 v22_3
    rw [V.loopN_s, zq119.r22]
    simp only [ih]
    first | exact (zq119.u22 ..).symm | rfl
theorem zq119.r6 (x0 : List (List Int)) (R : V.St → Option (List Int)) (v6_1 : Int) (v6_3 : Int) (v6_4 : Int) : V.loopF zq119.E Tryz.f270.ntmps [1, 1, 0, 1, 0] [] (V.codeOf Tryz.f270) (zq119.kt x0) R (zq119.s6 x0 v6_1 v6_3 v6_4) = zq119.g6 x0 (fun v6_1 v6_3 v6_4 => R (zq119.s6 x0 v6_1 v6_3 v6_4)) (fun v22_1 v22_2 v22_3 => V.loopN (V.loopF zq119.E Tryz.f270.ntmps [1, 1, 1, 1, 0, 1, 0] [] (V.codeOf Tryz.f270) (zq119.kt x0)) V.KK (zq119.s22 x0 v22_1 v22_2 v22_3)) v6_1 v6_3 v6_4 := by kernel_rfl
theorem zq119.e6 (x0 : List (List Int)) : ∀ (n : Nat) (v6_1 : Int) (v6_3 : Int) (v6_4 : Int), V.loopN (V.loopF zq119.E Tryz.f270.ntmps [1, 1, 0, 1, 0] [] (V.codeOf Tryz.f270) (zq119.kt x0)) n (zq119.s6 x0 v6_1 v6_3 v6_4) = zq119.l6 x0 n v6_1 v6_3 v6_4 := by
  intro n
  induction n with
  | zero => intros; rw [V.loopN_z]; rfl
  | succ n ih =>
    intro v6_1 v6_3 v6_4
    rw [V.loopN_s, zq119.r6]
    simp only [zq119.e22, ih]
    first | exact (zq119.u6 ..).symm | rfl
theorem zq119.v (x0 : List (List Int)) : V.evBody zq119.E zq119.con Tryz.f270 ((x0) : List (List Int)) = zq119.b x0 (fun v6_1 v6_3 v6_4 => V.loopN (V.loopF zq119.E Tryz.f270.ntmps [1, 1, 0, 1, 0] [] (V.codeOf Tryz.f270) (zq119.kt x0)) V.KK (zq119.s6 x0 v6_1 v6_3 v6_4)) := by kernel_rfl
theorem zq119.eq (x0 : List (List Int)) : V.evBody zq119.E zq119.con Tryz.f270 ((x0) : List (List Int)) = zq119 x0 := by
  rw [zq119.v]
  simp only [zq119.e6]
  rfl
theorem zq119.ok : V.Valid Tryz.prog 270 zq119.con :=
  V.fo (V.tab_cons zq124.ok V.tab_nil) Tryz.func270 (by kernel_rfl) (fun x y h => (show V.evBody zq119.E zq119.con Tryz.f270 x = _ from zq119.eq x).trans (V.cfl (by kernel_rfl) h))
noncomputable abbrev zq16.con : V.Con := ⟨V.A4, (.cons (.sl (.cons (.int .i64) .nil)) .nil), fun (x : V.D4) => zq16 (V.p4_0 x), [], [(true, 16)], [(false, 1)], [true], []⟩
noncomputable abbrev zq16.E : V.Env := V.mkE V.tys [(270, zq119.con), (271, zq30.con), (272, zq49.con)] [] [(1, 33)] [] [] []
noncomputable abbrev zq16.kt (x0 : THead) : V.Kt (List Int) := V.ktOf zq16.E zq16.con Tryz.f210 (V.fl4 x0)
noncomputable abbrev zq16.s (x0 : THead) : V.St := ⟨[(0, .v true [.val (.int .i64 x0.1), .val (.int .i64 x0.2.1), .val (.int .i64 x0.2.2.1), .val (.int .i64 x0.2.2.2.1), .val (.int .i64 x0.2.2.2.2.1), .val (.int .i64 x0.2.2.2.2.2.1), .val (.int .i64 x0.2.2.2.2.2.2.1), .val (.int .i64 x0.2.2.2.2.2.2.2.1), .val (.sl (.cons (.int .i64) .nil) x0.2.2.2.2.2.2.2.2.1), .val (.int .i64 x0.2.2.2.2.2.2.2.2.2.1), .val (.sl (.cons (.int .i64) .nil) x0.2.2.2.2.2.2.2.2.2.2.1), .val (.int .i64 x0.2.2.2.2.2.2.2.2.2.2.2.1), .val (.int .i64 x0.2.2.2.2.2.2.2.2.2.2.2.2.1), .val (.sl (.cons (.int .i64) .nil) x0.2.2.2.2.2.2.2.2.2.2.2.2.2.1), .val (.int .i64 x0.2.2.2.2.2.2.2.2.2.2.2.2.2.2.1), .val (.bool x0.2.2.2.2.2.2.2.2.2.2.2.2.2.2.2)])], []⟩
theorem zq16.v0 (x0 : THead) : V.evBody zq16.E zq16.con Tryz.f210 (V.fl4 x0) = V.evC zq16.E Tryz.f210.ntmps (V.codeOf Tryz.f210) (zq16.kt x0) (zq16.s x0) := by kernel_rfl
theorem zq16.v (x0 : THead) : V.evC zq16.E Tryz.f210.ntmps (V.codeOf Tryz.f210) (zq16.kt x0) (zq16.s x0) = zq16 x0 := by kernel_rfl
theorem zq16.eq (x0 : THead) : V.evBody zq16.E zq16.con Tryz.f210 (V.fl4 x0) = zq16 x0 := (zq16.v0 x0).trans (zq16.v x0)
theorem zq16.ok : V.Valid Tryz.prog 210 zq16.con :=
  V.fo (V.tab_cons zq119.ok (V.tab_cons zq30.ok (V.tab_cons zq49.ok V.tab_nil))) Tryz.func210 (by kernel_rfl) (fun x y h => (show V.evBody zq16.E zq16.con Tryz.f210 x = _ from zq16.eq (V.p4_0 x)).trans (V.cfl (by kernel_rfl) h))
noncomputable abbrev zq29.con : V.Con := ⟨(.cons (.int .i64) (.cons (.sl (.cons (.int .i64) .nil)) .nil)), (.cons (.int .i64) .nil), fun (x : Int × List Int) => zq29 x.1 x.2, [], [(false, 1), (false, 1)], [(false, 1)], [false], []⟩
noncomputable abbrev zq29.E : V.Env := V.mkE V.tys [(260, zq14.con), (270, zq119.con)] [] [] [128320] [] []
theorem zq29.eq (x0 : Int) (x1 : List Int) : V.evBody zq29.E zq29.con Tryz.f222 ((x0, x1) : Int × List Int) = zq29 x0 x1 := by kernel_rfl
theorem zq29.ok : V.Valid Tryz.prog 222 zq29.con :=
  V.fo (V.tab_cons zq14.ok (V.tab_cons zq119.ok V.tab_nil)) Tryz.func222 (by kernel_rfl) (fun x y h => (show V.evBody zq29.E zq29.con Tryz.f222 x = _ from zq29.eq x.1 x.2).trans (V.cfl (by kernel_rfl) h))
noncomputable abbrev zq43.con : V.Con := ⟨(.cons (.int .i64) (.cons (.sl (.cons (.int .i64) .nil)) .nil)), (.cons (.int .i64) .nil), fun (x : Int × List Int) => zq43 x.1 x.2, [], [(false, 1), (false, 1)], [(false, 1)], [false], []⟩
noncomputable abbrev zq43.E : V.Env := V.mkE V.tys [(222, zq29.con)] [] [] [] [] []
theorem zq43.eq (x0 : Int) (x1 : List Int) : V.evBody zq43.E zq43.con Tryz.f128 ((x0, x1) : Int × List Int) = zq43 x0 x1 := by kernel_rfl
theorem zq43.ok : V.Valid Tryz.prog 128 zq43.con :=
  V.fo (V.tab_cons zq29.ok V.tab_nil) Tryz.func128 (by kernel_rfl) (fun x y h => (show V.evBody zq43.E zq43.con Tryz.f128 x = _ from zq43.eq x.1 x.2).trans (V.cfl (by kernel_rfl) h))
noncomputable abbrev zq27.con : V.Con := ⟨(.cons (.int .i64) (.cons (.int .i64) (.cons (.sl (.cons (.int .i64) .nil)) .nil))), (.cons .bool .nil), fun (x : Int × Int × List Int) => zq27 (x.1, x.2.1) x.2.2, [], [(true, 2), (false, 1)], [(false, 1)], [false], []⟩
noncomputable abbrev zq27.E : V.Env := V.mkE V.tys [(128, zq43.con), (218, zq56.con)] [] [(1, 10)] [] [] []
theorem zq27.eq (x0 : TSig) (x1 : List Int) : V.evBody zq27.E zq27.con Tryz.f322 ((x0.1, x0.2, x1) : Int × Int × List Int) = zq27 x0 x1 := by kernel_rfl
theorem zq27.ok : V.Valid Tryz.prog 322 zq27.con :=
  V.fo (V.tab_cons zq43.ok (V.tab_cons zq56.ok V.tab_nil)) Tryz.func322 (by kernel_rfl) (fun x y h => (show V.evBody zq27.E zq27.con Tryz.f322 x = _ from zq27.eq (x.1, x.2.1) x.2.2).trans (V.cfl (by kernel_rfl) h))
noncomputable abbrev zq6.con : V.Con := ⟨(.cons (.int .i64) (.cons (.int .i64) (.cons (.ptr (.cons (.int .i64) .nil)) (.cons (.ptr (.cons (.sl (.cons (.int .i64) .nil)) .nil)) .nil)))), (.cons .bool .nil), fun (x : Int × Int × Int × List Int) => zq6 (x.1, x.2.1) x.2.2.1 x.2.2.2, [], [(true, 2), (false, 1), (false, 1)], [(false, 1)], [false], []⟩
noncomputable abbrev zq6.E : V.Env := V.mkE V.tys [(322, zq27.con)] [] [] [] [] []
theorem zq6.eq (x0 : TSig) (x1 : Int) (x2 : List Int) : V.evBody zq6.E zq6.con Tryz.f321 ((x0.1, x0.2, x1, x2) : Int × Int × Int × List Int) = zq6 x0 x1 x2 := by kernel_rfl
theorem zq6.ok : V.Valid Tryz.prog 321 zq6.con :=
  V.fo (V.tab_cons zq27.ok V.tab_nil) Tryz.func321 (by kernel_rfl) (fun x y h => (show V.evBody zq6.E zq6.con Tryz.f321 x = _ from zq6.eq (x.1, x.2.1) x.2.2.1 x.2.2.2).trans (V.cfl (by kernel_rfl) h))
noncomputable abbrev zq125.con : V.Con := ⟨(.cons (.sl (.cons (.int .i64) (.cons (.int .i64) .nil))) (.cons (.fn 321 false .nil (.cons (.ptr (.cons (.int .i64) .nil)) (.cons (.ptr (.cons (.sl (.cons (.int .i64) .nil)) .nil)) .nil))) .nil)), (.cons (.int .i64) .nil), fun (x : List TSig × (Unit) × (Int × List Int)) => zq125 x.1 x.2, [], [(false, 1), (false, 1)], [(false, 1)], [false], []⟩
noncomputable abbrev zq125.E : V.Env := V.mkE V.tys [(321, zq6.con)] [(4, [0, 1, 7, 8], [])] [] [] [] []
noncomputable abbrev zq125.kt (x0 : List TSig) (x1 : (Unit) × (Int × List Int)) : V.Kt Int := V.ktOf zq125.E zq125.con Tryz.f323 ((x0, x1) : List TSig × (Unit) × (Int × List Int))
noncomputable abbrev zq125.s4 (x0 : List TSig) (x1 : (Unit) × (Int × List Int)) (v4_2 : Int) (v4_3 : Int) : V.St := ⟨[(0, .v false [.val (.sl (.cons (.int .i64) (.cons (.int .i64) .nil)) x0)]), (1, .v false [.val (.fn 321 false .nil (.cons (.ptr (.cons (.int .i64) .nil)) (.cons (.ptr (.cons (.sl (.cons (.int .i64) .nil)) .nil)) .nil)) () x1.2)]), (7, .v false [.val (.int .i64 v4_2)]), (8, .v false [.val (.int .i64 v4_3)])], []⟩
theorem zq125.r4 (x0 : List TSig) (x1 : (Unit) × (Int × List Int)) (R : V.St → Option Int) (v4_2 : Int) (v4_3 : Int) : V.loopF zq125.E Tryz.f323.ntmps [1, 0, 1, 0] [] (V.codeOf Tryz.f323) (zq125.kt x0 x1) R (zq125.s4 x0 x1 v4_2 v4_3) = zq125.g4 x0 x1 (fun v4_2 v4_3 => R (zq125.s4 x0 x1 v4_2 v4_3)) v4_2 v4_3 := by kernel_rfl
theorem zq125.e4 (x0 : List TSig) (x1 : (Unit) × (Int × List Int)) : ∀ (n : Nat) (v4_2 : Int) (v4_3 : Int), V.loopN (V.loopF zq125.E Tryz.f323.ntmps [1, 0, 1, 0] [] (V.codeOf Tryz.f323) (zq125.kt x0 x1)) n (zq125.s4 x0 x1 v4_2 v4_3) = zq125.l4 x0 x1 n v4_2 v4_3 := by
  intro n
  induction n with
  | zero => intros; rw [V.loopN_z]; rfl
  | succ n ih =>
    intro v4_2 v4_3
    rw [V.loopN_s, zq125.r4]
    simp only [ih]
    first | exact (zq125.u4 ..).symm | rfl
theorem zq125.v (x0 : List TSig) (x1 : (Unit) × (Int × List Int)) : V.evBody zq125.E zq125.con Tryz.f323 ((x0, x1) : List TSig × (Unit) × (Int × List Int)) = zq125.b x0 x1 (fun v4_2 v4_3 => V.loopN (V.loopF zq125.E Tryz.f323.ntmps [1, 0, 1, 0] [] (V.codeOf Tryz.f323) (zq125.kt x0 x1)) V.KK (zq125.s4 x0 x1 v4_2 v4_3)) := by kernel_rfl
theorem zq125.eq (x0 : List TSig) (x1 : (Unit) × (Int × List Int)) : V.evBody zq125.E zq125.con Tryz.f323 ((x0, x1) : List TSig × (Unit) × (Int × List Int)) = zq125 x0 x1 := by
  rw [zq125.v]
  simp only [zq125.e4]
  rfl
theorem zq125.ok : V.Valid Tryz.prog 323 zq125.con :=
  V.fo (V.tab_cons zq6.ok V.tab_nil) Tryz.func323 (by kernel_rfl) (fun x y h => (show V.evBody zq125.E zq125.con Tryz.f323 x = _ from zq125.eq x.1 x.2).trans (V.cfl (by kernel_rfl) h))
noncomputable abbrev zq120.con : V.Con := ⟨(.cons (.sl (.cons (.int .i64) (.cons (.int .i64) .nil))) (.cons (.fn 321 false .nil (.cons (.ptr (.cons (.int .i64) .nil)) (.cons (.ptr (.cons (.sl (.cons (.int .i64) .nil)) .nil)) .nil))) .nil)), (.cons .bool .nil), fun (x : List TSig × (Unit) × (Int × List Int)) => zq120 x.1 x.2, [], [(false, 1), (false, 1)], [(false, 1)], [false], []⟩
noncomputable abbrev zq120.E : V.Env := V.mkE V.tys [(323, zq125.con)] [] [] [] [] []
theorem zq120.eq (x0 : List TSig) (x1 : (Unit) × (Int × List Int)) : V.evBody zq120.E zq120.con Tryz.f320 ((x0, x1) : List TSig × (Unit) × (Int × List Int)) = zq120 x0 x1 := by kernel_rfl
theorem zq120.ok : V.Valid Tryz.prog 320 zq120.con :=
  V.fo (V.tab_cons zq125.ok V.tab_nil) Tryz.func320 (by kernel_rfl) (fun x y h => (show V.evBody zq120.E zq120.con Tryz.f320 x = _ from zq120.eq x.1 x.2).trans (V.cfl (by kernel_rfl) h))
noncomputable abbrev zq5.con : V.Con := ⟨(.cons (.sl (.cons (.int .i64) .nil)) (.cons (.int .i64) (.cons (.sl (.cons (.int .i64) .nil)) (.cons (.sl (.cons (.int .i64) (.cons (.int .i64) .nil))) .nil)))), (.cons (.int .i64) .nil), fun (x : List Int × Int × List Int × List TSig) => zq5 (x.1, x.2.1) x.2.2.1 x.2.2.2, [], [(true, 2), (false, 1), (false, 1)], [(false, 1)], [false], []⟩
noncomputable abbrev zq5.E : V.Env := V.mkE V.tys [(320, zq120.con)] [(6, [2, 4, 7, 11, 12, 13], [])] [] [] [] []
noncomputable abbrev zq5.kt (x0 : TKeys) (x1 : List Int) (x2 : List TSig) : V.Kt Int := V.ktOf zq5.E zq5.con Tryz.f319 ((x0.1, x0.2, x1, x2) : List Int × Int × List Int × List TSig)
noncomputable abbrev zq5.s6 (x0 : TKeys) (x1 : List Int) (x2 : List TSig) (v6_1 : Int) (v6_3 : Int) (v6_4 : Int) : V.St := ⟨[(2, .v false [.val (.sl (.cons (.int .i64) (.cons (.int .i64) .nil)) x2)]), (4, .v false [.ptr 64064 0]), (7, .v false [.val (.int .i64 v6_1)]), (11, .v false [.val (.sl (.cons (.int .i64) .nil) x0.1)]), (12, .v false [.val (.int .i64 v6_3)]), (13, .v false [.val (.int .i64 v6_4)])], [(64064, .box [.val (.sl (.cons (.int .i64) .nil) x1)])]⟩
theorem zq5.r6 (x0 : TKeys) (x1 : List Int) (x2 : List TSig) (R : V.St → Option Int) (v6_1 : Int) (v6_3 : Int) (v6_4 : Int) : V.loopF zq5.E Tryz.f319.ntmps [1, 1, 0, 1, 0] [] (V.codeOf Tryz.f319) (zq5.kt x0 x1 x2) R (zq5.s6 x0 x1 x2 v6_1 v6_3 v6_4) = zq5.g6 x0 x1 x2 (fun v6_1 v6_3 v6_4 => R (zq5.s6 x0 x1 x2 v6_1 v6_3 v6_4)) v6_1 v6_3 v6_4 := by kernel_rfl
theorem zq5.e6 (x0 : TKeys) (x1 : List Int) (x2 : List TSig) : ∀ (n : Nat) (v6_1 : Int) (v6_3 : Int) (v6_4 : Int), V.loopN (V.loopF zq5.E Tryz.f319.ntmps [1, 1, 0, 1, 0] [] (V.codeOf Tryz.f319) (zq5.kt x0 x1 x2)) n (zq5.s6 x0 x1 x2 v6_1 v6_3 v6_4) = zq5.l6 x0 x1 x2 n v6_1 v6_3 v6_4 := by
  intro n
  induction n with
  | zero => intros; rw [V.loopN_z]; rfl
  | succ n ih =>
    intro v6_1 v6_3 v6_4
    rw [V.loopN_s, zq5.r6]
    simp only [ih]
    first | exact (zq5.u6 ..).symm | rfl
theorem zq5.v (x0 : TKeys) (x1 : List Int) (x2 : List TSig) : V.evBody zq5.E zq5.con Tryz.f319 ((x0.1, x0.2, x1, x2) : List Int × Int × List Int × List TSig) = zq5.b x0 x1 x2 (fun v6_1 v6_3 v6_4 => V.loopN (V.loopF zq5.E Tryz.f319.ntmps [1, 1, 0, 1, 0] [] (V.codeOf Tryz.f319) (zq5.kt x0 x1 x2)) V.KK (zq5.s6 x0 x1 x2 v6_1 v6_3 v6_4)) := by kernel_rfl
theorem zq5.eq (x0 : TKeys) (x1 : List Int) (x2 : List TSig) : V.evBody zq5.E zq5.con Tryz.f319 ((x0.1, x0.2, x1, x2) : List Int × Int × List Int × List TSig) = zq5 x0 x1 x2 := by
  rw [zq5.v]
  simp only [zq5.e6]
  rfl
theorem zq5.ok : V.Valid Tryz.prog 319 zq5.con :=
  V.fo (V.tab_cons zq120.ok V.tab_nil) Tryz.func319 (by kernel_rfl) (fun x y h => (show V.evBody zq5.E zq5.con Tryz.f319 x = _ from zq5.eq (x.1, x.2.1) x.2.2.1 x.2.2.2).trans (V.cfl (by kernel_rfl) h))
noncomputable abbrev zq28.con : V.Con := ⟨(.cons (.sl (.cons (.int .i64) .nil)) (.cons (.int .i64) (.cons (.sl (.cons (.int .i64) .nil)) (.cons (.sl (.cons (.int .i64) (.cons (.int .i64) .nil))) .nil)))), (.cons .bool .nil), fun (x : List Int × Int × List Int × List TSig) => zq28 (x.1, x.2.1) x.2.2.1 x.2.2.2, [], [(true, 2), (false, 1), (false, 1)], [(false, 1)], [false], []⟩
noncomputable abbrev zq28.E : V.Env := V.mkE V.tys [(256, zq23.con), (319, zq5.con)] [] [(1, 9)] [] [] []
theorem zq28.eq (x0 : TKeys) (x1 : List Int) (x2 : List TSig) : V.evBody zq28.E zq28.con Tryz.f315 ((x0.1, x0.2, x1, x2) : List Int × Int × List Int × List TSig) = zq28 x0 x1 x2 := by kernel_rfl
theorem zq28.ok : V.Valid Tryz.prog 315 zq28.con :=
  V.fo (V.tab_cons zq23.ok (V.tab_cons zq5.ok V.tab_nil)) Tryz.func315 (by kernel_rfl) (fun x y h => (show V.evBody zq28.E zq28.con Tryz.f315 x = _ from zq28.eq (x.1, x.2.1) x.2.2.1 x.2.2.2).trans (V.cfl (by kernel_rfl) h))
noncomputable abbrev zq42.con : V.Con := ⟨V.A14, (.cons .bool .nil), fun (x : V.D14) => zq42 (V.p14_0 x) (V.p14_1 x), [], [(true, 17), (true, 2)], [(false, 1)], [false], []⟩
noncomputable abbrev zq42.E : V.Env := V.mkE V.tys [(210, zq16.con), (315, zq28.con)] [] [(1, 6)] [] [] []
noncomputable abbrev zq42.kt (x0 : TSigned) (x1 : TKeys) : V.Kt Bool := V.ktOf zq42.E zq42.con Tryz.f302 (V.fl14 x0 x1)
noncomputable abbrev zq42.s (x0 : TSigned) (x1 : TKeys) : V.St := ⟨[(0, .v true [.val (.int .i64 x0.1), .val (.int .i64 x0.2.1), .val (.int .i64 x0.2.2.1), .val (.int .i64 x0.2.2.2.1), .val (.int .i64 x0.2.2.2.2.1), .val (.int .i64 x0.2.2.2.2.2.1), .val (.int .i64 x0.2.2.2.2.2.2.1), .val (.int .i64 x0.2.2.2.2.2.2.2.1), .val (.sl (.cons (.int .i64) .nil) x0.2.2.2.2.2.2.2.2.1), .val (.int .i64 x0.2.2.2.2.2.2.2.2.2.1), .val (.sl (.cons (.int .i64) .nil) x0.2.2.2.2.2.2.2.2.2.2.1), .val (.int .i64 x0.2.2.2.2.2.2.2.2.2.2.2.1), .val (.int .i64 x0.2.2.2.2.2.2.2.2.2.2.2.2.1), .val (.sl (.cons (.int .i64) .nil) x0.2.2.2.2.2.2.2.2.2.2.2.2.2.1), .val (.int .i64 x0.2.2.2.2.2.2.2.2.2.2.2.2.2.2.1), .val (.bool x0.2.2.2.2.2.2.2.2.2.2.2.2.2.2.2.1), .val (.sl (.cons (.int .i64) (.cons (.int .i64) .nil)) x0.2.2.2.2.2.2.2.2.2.2.2.2.2.2.2.2)]), (1, .v true [.val (.sl (.cons (.int .i64) .nil) x1.1), .val (.int .i64 x1.2)])], []⟩
theorem zq42.v0 (x0 : TSigned) (x1 : TKeys) : V.evBody zq42.E zq42.con Tryz.f302 (V.fl14 x0 x1) = V.evC zq42.E Tryz.f302.ntmps (V.codeOf Tryz.f302) (zq42.kt x0 x1) (zq42.s x0 x1) := by kernel_rfl
theorem zq42.v (x0 : TSigned) (x1 : TKeys) : V.evC zq42.E Tryz.f302.ntmps (V.codeOf Tryz.f302) (zq42.kt x0 x1) (zq42.s x0 x1) = zq42 x0 x1 := by kernel_rfl
theorem zq42.eq (x0 : TSigned) (x1 : TKeys) : V.evBody zq42.E zq42.con Tryz.f302 (V.fl14 x0 x1) = zq42 x0 x1 := (zq42.v0 x0 x1).trans (zq42.v x0 x1)
theorem zq42.ok : V.Valid Tryz.prog 302 zq42.con :=
  V.fo (V.tab_cons zq16.ok (V.tab_cons zq28.ok V.tab_nil)) Tryz.func302 (by kernel_rfl) (fun x y h => (show V.evBody zq42.E zq42.con Tryz.f302 x = _ from zq42.eq (V.p14_0 x) (V.p14_1 x)).trans (V.cfl (by kernel_rfl) h))
noncomputable abbrev zq20.con : V.Con := ⟨V.A5, (.cons .bool .nil), fun (x : V.D5) => zq20 (V.p5_0 x), [], [(true, 17)], [(false, 1)], [false], []⟩
noncomputable abbrev zq20.E : V.Env := V.mkE V.tys [(194, zq22.con), (227, zq46.con), (302, zq42.con)] [] [(2, 31)] [] [] []
noncomputable abbrev zq20.kt (x0 : TSigned) : V.Kt Bool := V.ktOf zq20.E zq20.con Tryz.f268 (V.fl5 x0)
noncomputable abbrev zq20.s (x0 : TSigned) : V.St := ⟨[(0, .v true [.val (.int .i64 x0.1), .val (.int .i64 x0.2.1), .val (.int .i64 x0.2.2.1), .val (.int .i64 x0.2.2.2.1), .val (.int .i64 x0.2.2.2.2.1), .val (.int .i64 x0.2.2.2.2.2.1), .val (.int .i64 x0.2.2.2.2.2.2.1), .val (.int .i64 x0.2.2.2.2.2.2.2.1), .val (.sl (.cons (.int .i64) .nil) x0.2.2.2.2.2.2.2.2.1), .val (.int .i64 x0.2.2.2.2.2.2.2.2.2.1), .val (.sl (.cons (.int .i64) .nil) x0.2.2.2.2.2.2.2.2.2.2.1), .val (.int .i64 x0.2.2.2.2.2.2.2.2.2.2.2.1), .val (.int .i64 x0.2.2.2.2.2.2.2.2.2.2.2.2.1), .val (.sl (.cons (.int .i64) .nil) x0.2.2.2.2.2.2.2.2.2.2.2.2.2.1), .val (.int .i64 x0.2.2.2.2.2.2.2.2.2.2.2.2.2.2.1), .val (.bool x0.2.2.2.2.2.2.2.2.2.2.2.2.2.2.2.1), .val (.sl (.cons (.int .i64) (.cons (.int .i64) .nil)) x0.2.2.2.2.2.2.2.2.2.2.2.2.2.2.2.2)])], []⟩
theorem zq20.v0 (x0 : TSigned) : V.evBody zq20.E zq20.con Tryz.f268 (V.fl5 x0) = V.evC zq20.E Tryz.f268.ntmps (V.codeOf Tryz.f268) (zq20.kt x0) (zq20.s x0) := by kernel_rfl
theorem zq20.v (x0 : TSigned) : V.evC zq20.E Tryz.f268.ntmps (V.codeOf Tryz.f268) (zq20.kt x0) (zq20.s x0) = zq20 x0 := by kernel_rfl
theorem zq20.eq (x0 : TSigned) : V.evBody zq20.E zq20.con Tryz.f268 (V.fl5 x0) = zq20 x0 := (zq20.v0 x0).trans (zq20.v x0)
theorem zq20.ok : V.Valid Tryz.prog 268 zq20.con :=
  V.fo (V.tab_cons zq22.ok (V.tab_cons zq46.ok (V.tab_cons zq42.ok V.tab_nil))) Tryz.func268 (by kernel_rfl) (fun x y h => (show V.evBody zq20.E zq20.con Tryz.f268 x = _ from zq20.eq (V.p5_0 x)).trans (V.cfl (by kernel_rfl) h))
noncomputable abbrev zq15.con : V.Con := ⟨V.A4, (.cons (.int .i64) .nil), fun (x : V.D4) => zq15 (V.p4_0 x), [], [(true, 16)], [(false, 1)], [false], []⟩
noncomputable abbrev zq15.E : V.Env := V.mkE V.tys [(210, zq16.con), (260, zq14.con)] [] [] [] [] []
noncomputable abbrev zq15.kt (x0 : THead) : V.Kt Int := V.ktOf zq15.E zq15.con Tryz.f197 (V.fl4 x0)
noncomputable abbrev zq15.s (x0 : THead) : V.St := ⟨[(0, .v true [.val (.int .i64 x0.1), .val (.int .i64 x0.2.1), .val (.int .i64 x0.2.2.1), .val (.int .i64 x0.2.2.2.1), .val (.int .i64 x0.2.2.2.2.1), .val (.int .i64 x0.2.2.2.2.2.1), .val (.int .i64 x0.2.2.2.2.2.2.1), .val (.int .i64 x0.2.2.2.2.2.2.2.1), .val (.sl (.cons (.int .i64) .nil) x0.2.2.2.2.2.2.2.2.1), .val (.int .i64 x0.2.2.2.2.2.2.2.2.2.1), .val (.sl (.cons (.int .i64) .nil) x0.2.2.2.2.2.2.2.2.2.2.1), .val (.int .i64 x0.2.2.2.2.2.2.2.2.2.2.2.1), .val (.int .i64 x0.2.2.2.2.2.2.2.2.2.2.2.2.1), .val (.sl (.cons (.int .i64) .nil) x0.2.2.2.2.2.2.2.2.2.2.2.2.2.1), .val (.int .i64 x0.2.2.2.2.2.2.2.2.2.2.2.2.2.2.1), .val (.bool x0.2.2.2.2.2.2.2.2.2.2.2.2.2.2.2)])], []⟩
theorem zq15.v0 (x0 : THead) : V.evBody zq15.E zq15.con Tryz.f197 (V.fl4 x0) = V.evC zq15.E Tryz.f197.ntmps (V.codeOf Tryz.f197) (zq15.kt x0) (zq15.s x0) := by kernel_rfl
theorem zq15.v (x0 : THead) : V.evC zq15.E Tryz.f197.ntmps (V.codeOf Tryz.f197) (zq15.kt x0) (zq15.s x0) = zq15 x0 := by kernel_rfl
theorem zq15.eq (x0 : THead) : V.evBody zq15.E zq15.con Tryz.f197 (V.fl4 x0) = zq15 x0 := (zq15.v0 x0).trans (zq15.v x0)
theorem zq15.ok : V.Valid Tryz.prog 197 zq15.con :=
  V.fo (V.tab_cons zq16.ok (V.tab_cons zq14.ok V.tab_nil)) Tryz.func197 (by kernel_rfl) (fun x y h => (show V.evBody zq15.E zq15.con Tryz.f197 x = _ from zq15.eq (V.p4_0 x)).trans (V.cfl (by kernel_rfl) h))
noncomputable abbrev zq58.con : V.Con := ⟨V.A8, (.cons .bool .nil), fun (x : V.D8) => zq58 (V.p8_0 x) (V.p8_1 x), [], [(true, 16), (true, 16)], [(false, 1)], [false], []⟩
noncomputable abbrev zq58.E : V.Env := V.mkE V.tys [(197, zq15.con)] [] [(1, 25)] [] [] []
noncomputable abbrev zq58.kt (x0 : THead) (x1 : THead) : V.Kt Bool := V.ktOf zq58.E zq58.con Tryz.f288 (V.fl8 x0 x1)
noncomputable abbrev zq58.s (x0 : THead) (x1 : THead) : V.St := ⟨[(0, .v true [.val (.int .i64 x0.1), .val (.int .i64 x0.2.1), .val (.int .i64 x0.2.2.1), .val (.int .i64 x0.2.2.2.1), .val (.int .i64 x0.2.2.2.2.1), .val (.int .i64 x0.2.2.2.2.2.1), .val (.int .i64 x0.2.2.2.2.2.2.1), .val (.int .i64 x0.2.2.2.2.2.2.2.1), .val (.sl (.cons (.int .i64) .nil) x0.2.2.2.2.2.2.2.2.1), .val (.int .i64 x0.2.2.2.2.2.2.2.2.2.1), .val (.sl (.cons (.int .i64) .nil) x0.2.2.2.2.2.2.2.2.2.2.1), .val (.int .i64 x0.2.2.2.2.2.2.2.2.2.2.2.1), .val (.int .i64 x0.2.2.2.2.2.2.2.2.2.2.2.2.1), .val (.sl (.cons (.int .i64) .nil) x0.2.2.2.2.2.2.2.2.2.2.2.2.2.1), .val (.int .i64 x0.2.2.2.2.2.2.2.2.2.2.2.2.2.2.1), .val (.bool x0.2.2.2.2.2.2.2.2.2.2.2.2.2.2.2)]), (1, .v true [.val (.int .i64 x1.1), .val (.int .i64 x1.2.1), .val (.int .i64 x1.2.2.1), .val (.int .i64 x1.2.2.2.1), .val (.int .i64 x1.2.2.2.2.1), .val (.int .i64 x1.2.2.2.2.2.1), .val (.int .i64 x1.2.2.2.2.2.2.1), .val (.int .i64 x1.2.2.2.2.2.2.2.1), .val (.sl (.cons (.int .i64) .nil) x1.2.2.2.2.2.2.2.2.1), .val (.int .i64 x1.2.2.2.2.2.2.2.2.2.1), .val (.sl (.cons (.int .i64) .nil) x1.2.2.2.2.2.2.2.2.2.2.1), .val (.int .i64 x1.2.2.2.2.2.2.2.2.2.2.2.1), .val (.int .i64 x1.2.2.2.2.2.2.2.2.2.2.2.2.1), .val (.sl (.cons (.int .i64) .nil) x1.2.2.2.2.2.2.2.2.2.2.2.2.2.1), .val (.int .i64 x1.2.2.2.2.2.2.2.2.2.2.2.2.2.2.1), .val (.bool x1.2.2.2.2.2.2.2.2.2.2.2.2.2.2.2)])], []⟩
theorem zq58.v0 (x0 : THead) (x1 : THead) : V.evBody zq58.E zq58.con Tryz.f288 (V.fl8 x0 x1) = V.evC zq58.E Tryz.f288.ntmps (V.codeOf Tryz.f288) (zq58.kt x0 x1) (zq58.s x0 x1) := by kernel_rfl
theorem zq58.v (x0 : THead) (x1 : THead) : V.evC zq58.E Tryz.f288.ntmps (V.codeOf Tryz.f288) (zq58.kt x0 x1) (zq58.s x0 x1) = zq58 x0 x1 := by kernel_rfl
theorem zq58.eq (x0 : THead) (x1 : THead) : V.evBody zq58.E zq58.con Tryz.f288 (V.fl8 x0 x1) = zq58 x0 x1 := (zq58.v0 x0 x1).trans (zq58.v x0 x1)
theorem zq58.ok : V.Valid Tryz.prog 288 zq58.con :=
  V.fo (V.tab_cons zq15.ok V.tab_nil) Tryz.func288 (by kernel_rfl) (fun x y h => (show V.evBody zq58.E zq58.con Tryz.f288 x = _ from zq58.eq (V.p8_0 x) (V.p8_1 x)).trans (V.cfl (by kernel_rfl) h))
noncomputable abbrev zq67.con : V.Con := ⟨V.A9, (.cons (.int .i64) .nil), fun (x : V.D9) => zq67 (V.p9_0 x) (V.p9_1 x), [], [(true, 16), (true, 17)], [(false, 1)], [false], []⟩
noncomputable abbrev zq67.E : V.Env := V.mkE V.tys [(302, zq42.con)] [] [] [] [] []
noncomputable abbrev zq67.kt (x0 : THead) (x1 : TSigned) : V.Kt Int := V.ktOf zq67.E zq67.con Tryz.f289 (V.fl9 x0 x1)
noncomputable abbrev zq67.s (x0 : THead) (x1 : TSigned) : V.St := ⟨[(0, .v true [.val (.int .i64 x0.1), .val (.int .i64 x0.2.1), .val (.int .i64 x0.2.2.1), .val (.int .i64 x0.2.2.2.1), .val (.int .i64 x0.2.2.2.2.1), .val (.int .i64 x0.2.2.2.2.2.1), .val (.int .i64 x0.2.2.2.2.2.2.1), .val (.int .i64 x0.2.2.2.2.2.2.2.1), .val (.sl (.cons (.int .i64) .nil) x0.2.2.2.2.2.2.2.2.1), .val (.int .i64 x0.2.2.2.2.2.2.2.2.2.1), .val (.sl (.cons (.int .i64) .nil) x0.2.2.2.2.2.2.2.2.2.2.1), .val (.int .i64 x0.2.2.2.2.2.2.2.2.2.2.2.1), .val (.int .i64 x0.2.2.2.2.2.2.2.2.2.2.2.2.1), .val (.sl (.cons (.int .i64) .nil) x0.2.2.2.2.2.2.2.2.2.2.2.2.2.1), .val (.int .i64 x0.2.2.2.2.2.2.2.2.2.2.2.2.2.2.1), .val (.bool x0.2.2.2.2.2.2.2.2.2.2.2.2.2.2.2)]), (1, .v true [.val (.int .i64 x1.1), .val (.int .i64 x1.2.1), .val (.int .i64 x1.2.2.1), .val (.int .i64 x1.2.2.2.1), .val (.int .i64 x1.2.2.2.2.1), .val (.int .i64 x1.2.2.2.2.2.1), .val (.int .i64 x1.2.2.2.2.2.2.1), .val (.int .i64 x1.2.2.2.2.2.2.2.1), .val (.sl (.cons (.int .i64) .nil) x1.2.2.2.2.2.2.2.2.1), .val (.int .i64 x1.2.2.2.2.2.2.2.2.2.1), .val (.sl (.cons (.int .i64) .nil) x1.2.2.2.2.2.2.2.2.2.2.1), .val (.int .i64 x1.2.2.2.2.2.2.2.2.2.2.2.1), .val (.int .i64 x1.2.2.2.2.2.2.2.2.2.2.2.2.1), .val (.sl (.cons (.int .i64) .nil) x1.2.2.2.2.2.2.2.2.2.2.2.2.2.1), .val (.int .i64 x1.2.2.2.2.2.2.2.2.2.2.2.2.2.2.1), .val (.bool x1.2.2.2.2.2.2.2.2.2.2.2.2.2.2.2.1), .val (.sl (.cons (.int .i64) (.cons (.int .i64) .nil)) x1.2.2.2.2.2.2.2.2.2.2.2.2.2.2.2.2)])], []⟩
theorem zq67.v0 (x0 : THead) (x1 : TSigned) : V.evBody zq67.E zq67.con Tryz.f289 (V.fl9 x0 x1) = V.evC zq67.E Tryz.f289.ntmps (V.codeOf Tryz.f289) (zq67.kt x0 x1) (zq67.s x0 x1) := by kernel_rfl
theorem zq67.v (x0 : THead) (x1 : TSigned) : V.evC zq67.E Tryz.f289.ntmps (V.codeOf Tryz.f289) (zq67.kt x0 x1) (zq67.s x0 x1) = zq67 x0 x1 := by kernel_rfl
theorem zq67.eq (x0 : THead) (x1 : TSigned) : V.evBody zq67.E zq67.con Tryz.f289 (V.fl9 x0 x1) = zq67 x0 x1 := (zq67.v0 x0 x1).trans (zq67.v x0 x1)
theorem zq67.ok : V.Valid Tryz.prog 289 zq67.con :=
  V.fo (V.tab_cons zq42.ok V.tab_nil) Tryz.func289 (by kernel_rfl) (fun x y h => (show V.evBody zq67.E zq67.con Tryz.f289 x = _ from zq67.eq (V.p9_0 x) (V.p9_1 x)).trans (V.cfl (by kernel_rfl) h))
noncomputable abbrev zq122.con : V.Con := ⟨(.cons (.sl (.cons (.int .i64) .nil)) (.cons (.sl (.cons (.int .i64) .nil)) .nil)), (.cons .bool .nil), fun (x : List Int × List Int) => zq122 x.1 x.2, [], [(false, 1), (false, 1)], [(false, 1)], [false], []⟩
noncomputable abbrev zq122.E : V.Env := V.mkE V.tys [] [(8, [0, 1, 12, 13], [])] [(6, 8)] [] [] []
noncomputable abbrev zq122.kt (x0 : List Int) (x1 : List Int) : V.Kt Bool := V.ktOf zq122.E zq122.con Tryz.f209 ((x0, x1) : List Int × List Int)
noncomputable abbrev zq122.s8 (x0 : List Int) (x1 : List Int) (v8_2 : Int) (v8_3 : Int) : V.St := ⟨[(0, .v false [.val (.sl (.cons (.int .i64) .nil) x0)]), (1, .v false [.val (.sl (.cons (.int .i64) .nil) x1)]), (12, .v false [.val (.int .i64 v8_2)]), (13, .v false [.val (.int .i64 v8_3)])], []⟩
theorem zq122.r8 (x0 : List Int) (x1 : List Int) (R : V.St → Option Bool) (v8_2 : Int) (v8_3 : Int) : V.loopF zq122.E Tryz.f209.ntmps [1, 1, 0, 1, 0] [] (V.codeOf Tryz.f209) (zq122.kt x0 x1) R (zq122.s8 x0 x1 v8_2 v8_3) = zq122.g8 x0 x1 (fun v8_2 v8_3 => R (zq122.s8 x0 x1 v8_2 v8_3)) v8_2 v8_3 := by kernel_rfl
theorem zq122.e8 (x0 : List Int) (x1 : List Int) : ∀ (n : Nat) (v8_2 : Int) (v8_3 : Int), V.loopN (V.loopF zq122.E Tryz.f209.ntmps [1, 1, 0, 1, 0] [] (V.codeOf Tryz.f209) (zq122.kt x0 x1)) n (zq122.s8 x0 x1 v8_2 v8_3) = zq122.l8 x0 x1 n v8_2 v8_3 := by
  intro n
  induction n with
  | zero => intros; rw [V.loopN_z]; rfl
  | succ n ih =>
    intro v8_2 v8_3
    rw [V.loopN_s, zq122.r8]
    simp only [ih]
    first | exact (zq122.u8 ..).symm | rfl
theorem zq122.v (x0 : List Int) (x1 : List Int) : V.evBody zq122.E zq122.con Tryz.f209 ((x0, x1) : List Int × List Int) = zq122.b x0 x1 (fun v8_2 v8_3 => V.loopN (V.loopF zq122.E Tryz.f209.ntmps [1, 1, 0, 1, 0] [] (V.codeOf Tryz.f209) (zq122.kt x0 x1)) V.KK (zq122.s8 x0 x1 v8_2 v8_3)) := by kernel_rfl
theorem zq122.eq (x0 : List Int) (x1 : List Int) : V.evBody zq122.E zq122.con Tryz.f209 ((x0, x1) : List Int × List Int) = zq122 x0 x1 := by
  rw [zq122.v]
  simp only [zq122.e8]
  rfl
theorem zq122.ok : V.Valid Tryz.prog 209 zq122.con :=
  V.fo V.tab_nil Tryz.func209 (by kernel_rfl) (fun x y h => (show V.evBody zq122.E zq122.con Tryz.f209 x = _ from zq122.eq x.1 x.2).trans (V.cfl (by kernel_rfl) h))
noncomputable abbrev zq11.con : V.Con := ⟨(.cons (.sl (.cons (.int .i64) .nil)) (.cons (.int .i64) (.cons (.sl (.cons (.int .i64) .nil)) (.cons (.int .i64) .nil)))), (.cons .bool .nil), fun (x : List Int × Int × List Int × Int) => zq11 (x.1, x.2.1) x.2.2, [], [(true, 2), (true, 2)], [(false, 1)], [false], []⟩
noncomputable abbrev zq11.E : V.Env := V.mkE V.tys [(209, zq122.con)] [] [] [] [] []
theorem zq11.eq (x0 : TKeys) (x1 : TKeys) : V.evBody zq11.E zq11.con Tryz.f208 ((x0.1, x0.2, x1.1, x1.2) : List Int × Int × List Int × Int) = zq11 x0 x1 := by kernel_rfl
theorem zq11.ok : V.Valid Tryz.prog 208 zq11.con :=
  V.fo (V.tab_cons zq122.ok V.tab_nil) Tryz.func208 (by kernel_rfl) (fun x y h => (show V.evBody zq11.E zq11.con Tryz.f208 x = _ from zq11.eq (x.1, x.2.1) x.2.2).trans (V.cfl (by kernel_rfl) h))
noncomputable abbrev zq41.con : V.Con := ⟨V.A8, (.cons .bool .nil), fun (x : V.D8) => zq41 (V.p8_0 x) (V.p8_1 x), [], [(true, 16), (true, 16)], [(false, 1)], [false], []⟩
noncomputable abbrev zq41.E : V.Env := V.mkE V.tys [] [] [] [] [] []
noncomputable abbrev zq41.kt (x0 : THead) (x1 : THead) : V.Kt Bool := V.ktOf zq41.E zq41.con Tryz.f310 (V.fl8 x0 x1)
noncomputable abbrev zq41.s (x0 : THead) (x1 : THead) : V.St := ⟨[(0, .v true [.val (.int .i64 x0.1), .val (.int .i64 x0.2.1), .val (.int .i64 x0.2.2.1), .val (.int .i64 x0.2.2.2.1), .val (.int .i64 x0.2.2.2.2.1), .val (.int .i64 x0.2.2.2.2.2.1), .val (.int .i64 x0.2.2.2.2.2.2.1), .val (.int .i64 x0.2.2.2.2.2.2.2.1), .val (.sl (.cons (.int .i64) .nil) x0.2.2.2.2.2.2.2.2.1), .val (.int .i64 x0.2.2.2.2.2.2.2.2.2.1), .val (.sl (.cons (.int .i64) .nil) x0.2.2.2.2.2.2.2.2.2.2.1), .val (.int .i64 x0.2.2.2.2.2.2.2.2.2.2.2.1), .val (.int .i64 x0.2.2.2.2.2.2.2.2.2.2.2.2.1), .val (.sl (.cons (.int .i64) .nil) x0.2.2.2.2.2.2.2.2.2.2.2.2.2.1), .val (.int .i64 x0.2.2.2.2.2.2.2.2.2.2.2.2.2.2.1), .val (.bool x0.2.2.2.2.2.2.2.2.2.2.2.2.2.2.2)]), (1, .v true [.val (.int .i64 x1.1), .val (.int .i64 x1.2.1), .val (.int .i64 x1.2.2.1), .val (.int .i64 x1.2.2.2.1), .val (.int .i64 x1.2.2.2.2.1), .val (.int .i64 x1.2.2.2.2.2.1), .val (.int .i64 x1.2.2.2.2.2.2.1), .val (.int .i64 x1.2.2.2.2.2.2.2.1), .val (.sl (.cons (.int .i64) .nil) x1.2.2.2.2.2.2.2.2.1), .val (.int .i64 x1.2.2.2.2.2.2.2.2.2.1), .val (.sl (.cons (.int .i64) .nil) x1.2.2.2.2.2.2.2.2.2.2.1), .val (.int .i64 x1.2.2.2.2.2.2.2.2.2.2.2.1), .val (.int .i64 x1.2.2.2.2.2.2.2.2.2.2.2.2.1), .val (.sl (.cons (.int .i64) .nil) x1.2.2.2.2.2.2.2.2.2.2.2.2.2.1), .val (.int .i64 x1.2.2.2.2.2.2.2.2.2.2.2.2.2.2.1), .val (.bool x1.2.2.2.2.2.2.2.2.2.2.2.2.2.2.2)])], []⟩
theorem zq41.v0 (x0 : THead) (x1 : THead) : V.evBody zq41.E zq41.con Tryz.f310 (V.fl8 x0 x1) = V.evC zq41.E Tryz.f310.ntmps (V.codeOf Tryz.f310) (zq41.kt x0 x1) (zq41.s x0 x1) := by kernel_rfl
theorem zq41.v (x0 : THead) (x1 : THead) : V.evC zq41.E Tryz.f310.ntmps (V.codeOf Tryz.f310) (zq41.kt x0 x1) (zq41.s x0 x1) = zq41 x0 x1 := by kernel_rfl
theorem zq41.eq (x0 : THead) (x1 : THead) : V.evBody zq41.E zq41.con Tryz.f310 (V.fl8 x0 x1) = zq41 x0 x1 := (zq41.v0 x0 x1).trans (zq41.v x0 x1)
theorem zq41.ok : V.Valid Tryz.prog 310 zq41.con :=
  V.fo V.tab_nil Tryz.func310 (by kernel_rfl) (fun x y h => (show V.evBody zq41.E zq41.con Tryz.f310 x = _ from zq41.eq (V.p8_0 x) (V.p8_1 x)).trans (V.cfl (by kernel_rfl) h))
noncomputable abbrev zq54.con : V.Con := ⟨V.A9, (.cons (.int .i64) .nil), fun (x : V.D9) => zq54 (V.p9_0 x) (V.p9_1 x), [], [(true, 16), (true, 17)], [(false, 1)], [false], []⟩
noncomputable abbrev zq54.E : V.Env := V.mkE V.tys [(208, zq11.con), (259, zq38.con), (302, zq42.con), (310, zq41.con)] [(11, [2, 3, 5, 11], []), (15, [2, 3, 25], [])] [] [] [] []
noncomputable abbrev zq54.kt (x0 : THead) (x1 : TSigned) : V.Kt Int := V.ktOf zq54.E zq54.con Tryz.f290 (V.fl9 x0 x1)
noncomputable abbrev zq54.s15 (x0 : THead) (x1 : TSigned) (v15_0 : Bool) : V.St := ⟨[(2, .v false [.ptr 64000 0]), (3, .v false [.ptr 64064 0]), (25, .v false [.val (.bool v15_0)])], [(64000, .box [.val (.int .i64 x0.1), .val (.int .i64 x0.2.1), .val (.int .i64 x0.2.2.1), .val (.int .i64 x0.2.2.2.1), .val (.int .i64 x0.2.2.2.2.1), .val (.int .i64 x0.2.2.2.2.2.1), .val (.int .i64 x0.2.2.2.2.2.2.1), .val (.int .i64 x0.2.2.2.2.2.2.2.1), .val (.sl (.cons (.int .i64) .nil) x0.2.2.2.2.2.2.2.2.1), .val (.int .i64 x0.2.2.2.2.2.2.2.2.2.1), .val (.sl (.cons (.int .i64) .nil) x0.2.2.2.2.2.2.2.2.2.2.1), .val (.int .i64 x0.2.2.2.2.2.2.2.2.2.2.2.1), .val (.int .i64 x0.2.2.2.2.2.2.2.2.2.2.2.2.1), .val (.sl (.cons (.int .i64) .nil) x0.2.2.2.2.2.2.2.2.2.2.2.2.2.1), .val (.int .i64 x0.2.2.2.2.2.2.2.2.2.2.2.2.2.2.1), .val (.bool x0.2.2.2.2.2.2.2.2.2.2.2.2.2.2.2)]), (64064, .box [.val (.int .i64 x1.1), .val (.int .i64 x1.2.1), .val (.int .i64 x1.2.2.1), .val (.int .i64 x1.2.2.2.1), .val (.int .i64 x1.2.2.2.2.1), .val (.int .i64 x1.2.2.2.2.2.1), .val (.int .i64 x1.2.2.2.2.2.2.1), .val (.int .i64 x1.2.2.2.2.2.2.2.1), .val (.sl (.cons (.int .i64) .nil) x1.2.2.2.2.2.2.2.2.1), .val (.int .i64 x1.2.2.2.2.2.2.2.2.2.1), .val (.sl (.cons (.int .i64) .nil) x1.2.2.2.2.2.2.2.2.2.2.1), .val (.int .i64 x1.2.2.2.2.2.2.2.2.2.2.2.1), .val (.int .i64 x1.2.2.2.2.2.2.2.2.2.2.2.2.1), .val (.sl (.cons (.int .i64) .nil) x1.2.2.2.2.2.2.2.2.2.2.2.2.2.1), .val (.int .i64 x1.2.2.2.2.2.2.2.2.2.2.2.2.2.2.1), .val (.bool x1.2.2.2.2.2.2.2.2.2.2.2.2.2.2.2.1), .val (.sl (.cons (.int .i64) (.cons (.int .i64) .nil)) x1.2.2.2.2.2.2.2.2.2.2.2.2.2.2.2.2)])]⟩
noncomputable abbrev zq54.s11 (x0 : THead) (x1 : TSigned) (v11_0 : Bool) : V.St := ⟨[(2, .v false [.ptr 64000 0]), (3, .v false [.ptr 64064 0]), (5, .v false [.ptr 128128 0]), (11, .v false [.val (.bool v11_0)])], [(64000, .box [.val (.int .i64 x0.1), .val (.int .i64 x0.2.1), .val (.int .i64 x0.2.2.1), .val (.int .i64 x0.2.2.2.1), .val (.int .i64 x0.2.2.2.2.1), .val (.int .i64 x0.2.2.2.2.2.1), .val (.int .i64 x0.2.2.2.2.2.2.1), .val (.int .i64 x0.2.2.2.2.2.2.2.1), .val (.sl (.cons (.int .i64) .nil) x0.2.2.2.2.2.2.2.2.1), .val (.int .i64 x0.2.2.2.2.2.2.2.2.2.1), .val (.sl (.cons (.int .i64) .nil) x0.2.2.2.2.2.2.2.2.2.2.1), .val (.int .i64 x0.2.2.2.2.2.2.2.2.2.2.2.1), .val (.int .i64 x0.2.2.2.2.2.2.2.2.2.2.2.2.1), .val (.sl (.cons (.int .i64) .nil) x0.2.2.2.2.2.2.2.2.2.2.2.2.2.1), .val (.int .i64 x0.2.2.2.2.2.2.2.2.2.2.2.2.2.2.1), .val (.bool x0.2.2.2.2.2.2.2.2.2.2.2.2.2.2.2)]), (64064, .box [.val (.int .i64 x1.1), .val (.int .i64 x1.2.1), .val (.int .i64 x1.2.2.1), .val (.int .i64 x1.2.2.2.1), .val (.int .i64 x1.2.2.2.2.1), .val (.int .i64 x1.2.2.2.2.2.1), .val (.int .i64 x1.2.2.2.2.2.2.1), .val (.int .i64 x1.2.2.2.2.2.2.2.1), .val (.sl (.cons (.int .i64) .nil) x1.2.2.2.2.2.2.2.2.1), .val (.int .i64 x1.2.2.2.2.2.2.2.2.2.1), .val (.sl (.cons (.int .i64) .nil) x1.2.2.2.2.2.2.2.2.2.2.1), .val (.int .i64 x1.2.2.2.2.2.2.2.2.2.2.2.1), .val (.int .i64 x1.2.2.2.2.2.2.2.2.2.2.2.2.1), .val (.sl (.cons (.int .i64) .nil) x1.2.2.2.2.2.2.2.2.2.2.2.2.2.1), .val (.int .i64 x1.2.2.2.2.2.2.2.2.2.2.2.2.2.2.1), .val (.bool x1.2.2.2.2.2.2.2.2.2.2.2.2.2.2.2.1), .val (.sl (.cons (.int .i64) (.cons (.int .i64) .nil)) x1.2.2.2.2.2.2.2.2.2.2.2.2.2.2.2.2)]), (128128, .box [.val (.int .i64 x1.1), .val (.int .i64 x1.2.1), .val (.int .i64 x1.2.2.1), .val (.int .i64 x1.2.2.2.1), .val (.int .i64 x1.2.2.2.2.1), .val (.int .i64 x1.2.2.2.2.2.1), .val (.int .i64 x1.2.2.2.2.2.2.1), .val (.int .i64 x1.2.2.2.2.2.2.2.1), .val (.sl (.cons (.int .i64) .nil) x1.2.2.2.2.2.2.2.2.1), .val (.int .i64 x1.2.2.2.2.2.2.2.2.2.1), .val (.sl (.cons (.int .i64) .nil) x1.2.2.2.2.2.2.2.2.2.2.1), .val (.int .i64 x1.2.2.2.2.2.2.2.2.2.2.2.1), .val (.int .i64 x1.2.2.2.2.2.2.2.2.2.2.2.2.1), .val (.sl (.cons (.int .i64) .nil) x1.2.2.2.2.2.2.2.2.2.2.2.2.2.1), .val (.int .i64 x1.2.2.2.2.2.2.2.2.2.2.2.2.2.2.1), .val (.bool x1.2.2.2.2.2.2.2.2.2.2.2.2.2.2.2.1)])]⟩
theorem zq54.r15 (x0 : THead) (x1 : TSigned) (v15_0 : Bool) : V.joinF zq54.E Tryz.f290.ntmps [1, 1, 0, 0, 1, 1, 1, 1] [] (V.codeOf Tryz.f290) (zq54.kt x0 x1) (zq54.s15 x0 x1 v15_0) = zq54.g15 x0 x1 v15_0 := by kernel_rfl
theorem zq54.e15 (x0 : THead) (x1 : TSigned) (v15_0 : Bool) : V.jn (V.joinF zq54.E Tryz.f290.ntmps [1, 1, 0, 0, 1, 1, 1, 1] [] (V.codeOf Tryz.f290) (zq54.kt x0 x1)) (zq54.s15 x0 x1 v15_0) = zq54.l15 x0 x1 v15_0 := by
  rw [V.jn_eq, zq54.r15]
  rfl
theorem zq54.r11 (x0 : THead) (x1 : TSigned) (v11_0 : Bool) : V.joinF zq54.E Tryz.f290.ntmps [1, 1, 0, 0, 1, 1] [] (V.codeOf Tryz.f290) (zq54.kt x0 x1) (zq54.s11 x0 x1 v11_0) = zq54.g11 x0 x1 (fun v15_0 => V.jn (V.joinF zq54.E Tryz.f290.ntmps [1, 1, 0, 0, 1, 1, 1, 1] [] (V.codeOf Tryz.f290) (zq54.kt x0 x1)) (zq54.s15 x0 x1 v15_0)) v11_0 := by kernel_rfl
theorem zq54.e11 (x0 : THead) (x1 : TSigned) (v11_0 : Bool) : V.jn (V.joinF zq54.E Tryz.f290.ntmps [1, 1, 0, 0, 1, 1] [] (V.codeOf Tryz.f290) (zq54.kt x0 x1)) (zq54.s11 x0 x1 v11_0) = zq54.l11 x0 x1 v11_0 := by
  rw [V.jn_eq, zq54.r11]
  simp only [zq54.e15]
  rfl
noncomputable abbrev zq54.s (x0 : THead) (x1 : TSigned) : V.St := ⟨[(0, .v true [.val (.int .i64 x0.1), .val (.int .i64 x0.2.1), .val (.int .i64 x0.2.2.1), .val (.int .i64 x0.2.2.2.1), .val (.int .i64 x0.2.2.2.2.1), .val (.int .i64 x0.2.2.2.2.2.1), .val (.int .i64 x0.2.2.2.2.2.2.1), .val (.int .i64 x0.2.2.2.2.2.2.2.1), .val (.sl (.cons (.int .i64) .nil) x0.2.2.2.2.2.2.2.2.1), .val (.int .i64 x0.2.2.2.2.2.2.2.2.2.1), .val (.sl (.cons (.int .i64) .nil) x0.2.2.2.2.2.2.2.2.2.2.1), .val (.int .i64 x0.2.2.2.2.2.2.2.2.2.2.2.1), .val (.int .i64 x0.2.2.2.2.2.2.2.2.2.2.2.2.1), .val (.sl (.cons (.int .i64) .nil) x0.2.2.2.2.2.2.2.2.2.2.2.2.2.1), .val (.int .i64 x0.2.2.2.2.2.2.2.2.2.2.2.2.2.2.1), .val (.bool x0.2.2.2.2.2.2.2.2.2.2.2.2.2.2.2)]), (1, .v true [.val (.int .i64 x1.1), .val (.int .i64 x1.2.1), .val (.int .i64 x1.2.2.1), .val (.int .i64 x1.2.2.2.1), .val (.int .i64 x1.2.2.2.2.1), .val (.int .i64 x1.2.2.2.2.2.1), .val (.int .i64 x1.2.2.2.2.2.2.1), .val (.int .i64 x1.2.2.2.2.2.2.2.1), .val (.sl (.cons (.int .i64) .nil) x1.2.2.2.2.2.2.2.2.1), .val (.int .i64 x1.2.2.2.2.2.2.2.2.2.1), .val (.sl (.cons (.int .i64) .nil) x1.2.2.2.2.2.2.2.2.2.2.1), .val (.int .i64 x1.2.2.2.2.2.2.2.2.2.2.2.1), .val (.int .i64 x1.2.2.2.2.2.2.2.2.2.2.2.2.1), .val (.sl (.cons (.int .i64) .nil) x1.2.2.2.2.2.2.2.2.2.2.2.2.2.1), .val (.int .i64 x1.2.2.2.2.2.2.2.2.2.2.2.2.2.2.1), .val (.bool x1.2.2.2.2.2.2.2.2.2.2.2.2.2.2.2.1), .val (.sl (.cons (.int .i64) (.cons (.int .i64) .nil)) x1.2.2.2.2.2.2.2.2.2.2.2.2.2.2.2.2)])], []⟩
theorem zq54.v0 (x0 : THead) (x1 : TSigned) : V.evBody zq54.E zq54.con Tryz.f290 (V.fl9 x0 x1) = V.evC zq54.E Tryz.f290.ntmps (V.codeOf Tryz.f290) (zq54.kt x0 x1) (zq54.s x0 x1) := by kernel_rfl
theorem zq54.v (x0 : THead) (x1 : TSigned) : V.evC zq54.E Tryz.f290.ntmps (V.codeOf Tryz.f290) (zq54.kt x0 x1) (zq54.s x0 x1) = zq54.b x0 x1 (fun v11_0 => V.jn (V.joinF zq54.E Tryz.f290.ntmps [1, 1, 0, 0, 1, 1] [] (V.codeOf Tryz.f290) (zq54.kt x0 x1)) (zq54.s11 x0 x1 v11_0)) := by kernel_rfl
theorem zq54.eq (x0 : THead) (x1 : TSigned) : V.evBody zq54.E zq54.con Tryz.f290 (V.fl9 x0 x1) = zq54 x0 x1 := by
  rw [zq54.v0, zq54.v]
  simp only [zq54.e11]
  rfl
theorem zq54.ok : V.Valid Tryz.prog 290 zq54.con :=
  V.fo (V.tab_cons zq11.ok (V.tab_cons zq38.ok (V.tab_cons zq42.ok (V.tab_cons zq41.ok V.tab_nil)))) Tryz.func290 (by kernel_rfl) (fun x y h => (show V.evBody zq54.E zq54.con Tryz.f290 x = _ from zq54.eq (V.p9_0 x) (V.p9_1 x)).trans (V.cfl (by kernel_rfl) h))
end Go.Proofs.YtpioofmdambjoaaGreat
