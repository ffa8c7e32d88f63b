/- That the functions compute it. -/
import Derived.Test.YtbdifkeoiodalaaXEqualAnswersPure0
import Derived.Test.YtbdifkeoiodalaaProg
namespace Go.Proofs.Ytbdifkeoiodalaa
set_option linter.unusedVariables false
set_option maxRecDepth 100000
namespace V
abbrev eSigned : ETy := (.cons (.int .i64) (.cons (.int .i64) (.cons (.int .i64) (.cons (.int .i64) (.cons (.int .i64) (.cons (.int .i64) (.cons (.int .i64) (.cons (.int .i64) (.cons (.sl (.cons (.int .i64) .nil)) (.cons (.int .i64) (.cons (.sl (.cons (.int .i64) .nil)) (.cons (.int .i64) (.cons (.int .i64) (.cons (.sl (.cons (.int .i64) .nil)) (.cons (.int .i64) (.cons .bool (.cons (.sl (.cons (.int .i64) (.cons (.int .i64) .nil))) .nil)))))))))))))))))
abbrev eAnswer : ETy := (.cons (.sl eSigned) (.cons .bool (.cons .str (.cons (.int .i64) (.cons (.int .i64) (.cons (.sl (.cons .str .nil)) (.cons (.int .i64) (.cons (.sl (.cons (.int .i64) .nil)) (.cons (.int .i64) (.cons .str (.cons (.int .i64) (.cons (.int .i64) (.cons (.sl (.cons .str .nil)) (.cons .str (.cons (.int .i64) (.cons (.int .i64) (.cons (.sl (.cons .str .nil)) (.cons (.int .i64) (.cons (.sl (.cons (.int .i64) .nil)) (.cons (.int .i64) (.cons (.sl (.cons (.int .i64) .nil)) .nil)))))))))))))))))))))
abbrev eEntry : ETy := (.cons .str (.cons (.int .i64) (.cons (.int .i64) (.cons (.sl (.cons .str .nil)) .nil))))
abbrev eGap : ETy := (.cons (.int .i64) (.cons .str (.cons (.int .i64) (.cons (.int .i64) (.cons (.sl (.cons .str .nil)) (.cons .str (.cons (.int .i64) (.cons (.int .i64) (.cons (.sl (.cons .str .nil)) (.cons (.int .i64) (.cons (.sl (.cons (.int .i64) .nil)) (.cons (.int .i64) (.cons (.sl (.cons (.int .i64) .nil)) .nil)))))))))))))
abbrev eHead : ETy := (.cons (.int .i64) (.cons (.int .i64) (.cons (.int .i64) (.cons (.int .i64) (.cons (.int .i64) (.cons (.int .i64) (.cons (.int .i64) (.cons (.int .i64) (.cons (.sl (.cons (.int .i64) .nil)) (.cons (.int .i64) (.cons (.sl (.cons (.int .i64) .nil)) (.cons (.int .i64) (.cons (.int .i64) (.cons (.sl (.cons (.int .i64) .nil)) (.cons (.int .i64) (.cons .bool .nil))))))))))))))))
abbrev D0 : Type := Int × Int × Int × Int × Int × Int × Int × Int × List Int × Int × List Int × Int × Int × List Int × Int × Bool × Int
abbrev A0 : ETy := (.cons (.int .i64) (.cons (.int .i64) (.cons (.int .i64) (.cons (.int .i64) (.cons (.int .i64) (.cons (.int .i64) (.cons (.int .i64) (.cons (.int .i64) (.cons (.sl (.cons (.int .i64) .nil)) (.cons (.int .i64) (.cons (.sl (.cons (.int .i64) .nil)) (.cons (.int .i64) (.cons (.int .i64) (.cons (.sl (.cons (.int .i64) .nil)) (.cons (.int .i64) (.cons .bool (.cons (.int .i64) .nil)))))))))))))))))
abbrev fl0 (x0 : THead) (x1 : Int) : D0 := (x0.1, x0.2.1, x0.2.2.1, x0.2.2.2.1, x0.2.2.2.2.1, x0.2.2.2.2.2.1, x0.2.2.2.2.2.2.1, x0.2.2.2.2.2.2.2.1, x0.2.2.2.2.2.2.2.2.1, x0.2.2.2.2.2.2.2.2.2.1, x0.2.2.2.2.2.2.2.2.2.2.1, x0.2.2.2.2.2.2.2.2.2.2.2.1, x0.2.2.2.2.2.2.2.2.2.2.2.2.1, x0.2.2.2.2.2.2.2.2.2.2.2.2.2.1, x0.2.2.2.2.2.2.2.2.2.2.2.2.2.2.1, x0.2.2.2.2.2.2.2.2.2.2.2.2.2.2.2, x1)
abbrev p0_0 (x : D0) : THead := (x.1, x.2.1, x.2.2.1, x.2.2.2.1, x.2.2.2.2.1, x.2.2.2.2.2.1, x.2.2.2.2.2.2.1, x.2.2.2.2.2.2.2.1, x.2.2.2.2.2.2.2.2.1, x.2.2.2.2.2.2.2.2.2.1, x.2.2.2.2.2.2.2.2.2.2.1, x.2.2.2.2.2.2.2.2.2.2.2.1, x.2.2.2.2.2.2.2.2.2.2.2.2.1, x.2.2.2.2.2.2.2.2.2.2.2.2.2.1, x.2.2.2.2.2.2.2.2.2.2.2.2.2.2.1, x.2.2.2.2.2.2.2.2.2.2.2.2.2.2.2.1)
abbrev p0_1 (x : D0) : Int := x.2.2.2.2.2.2.2.2.2.2.2.2.2.2.2.2
abbrev D1 : Type := Int × Int × Int × Int × Int × Int × Int × Int × List Int × Int × List Int × Int × Int × List Int × Int × Bool × List TSig × Int
abbrev A1 : ETy := (.cons (.int .i64) (.cons (.int .i64) (.cons (.int .i64) (.cons (.int .i64) (.cons (.int .i64) (.cons (.int .i64) (.cons (.int .i64) (.cons (.int .i64) (.cons (.sl (.cons (.int .i64) .nil)) (.cons (.int .i64) (.cons (.sl (.cons (.int .i64) .nil)) (.cons (.int .i64) (.cons (.int .i64) (.cons (.sl (.cons (.int .i64) .nil)) (.cons (.int .i64) (.cons .bool (.cons (.sl (.cons (.int .i64) (.cons (.int .i64) .nil))) (.cons (.int .i64) .nil))))))))))))))))))
abbrev fl1 (x0 : TSigned) (x1 : Int) : D1 := (x0.1, x0.2.1, x0.2.2.1, x0.2.2.2.1, x0.2.2.2.2.1, x0.2.2.2.2.2.1, x0.2.2.2.2.2.2.1, x0.2.2.2.2.2.2.2.1, x0.2.2.2.2.2.2.2.2.1, x0.2.2.2.2.2.2.2.2.2.1, x0.2.2.2.2.2.2.2.2.2.2.1, x0.2.2.2.2.2.2.2.2.2.2.2.1, x0.2.2.2.2.2.2.2.2.2.2.2.2.1, x0.2.2.2.2.2.2.2.2.2.2.2.2.2.1, x0.2.2.2.2.2.2.2.2.2.2.2.2.2.2.1, x0.2.2.2.2.2.2.2.2.2.2.2.2.2.2.2.1, x0.2.2.2.2.2.2.2.2.2.2.2.2.2.2.2.2, x1)
abbrev p1_0 (x : D1) : TSigned := (x.1, x.2.1, x.2.2.1, x.2.2.2.1, x.2.2.2.2.1, x.2.2.2.2.2.1, x.2.2.2.2.2.2.1, x.2.2.2.2.2.2.2.1, x.2.2.2.2.2.2.2.2.1, x.2.2.2.2.2.2.2.2.2.1, x.2.2.2.2.2.2.2.2.2.2.1, x.2.2.2.2.2.2.2.2.2.2.2.1, x.2.2.2.2.2.2.2.2.2.2.2.2.1, x.2.2.2.2.2.2.2.2.2.2.2.2.2.1, x.2.2.2.2.2.2.2.2.2.2.2.2.2.2.1, x.2.2.2.2.2.2.2.2.2.2.2.2.2.2.2.1, x.2.2.2.2.2.2.2.2.2.2.2.2.2.2.2.2.1)
abbrev p1_1 (x : D1) : Int := x.2.2.2.2.2.2.2.2.2.2.2.2.2.2.2.2.2
abbrev D2 : Type := Int × ByteArray × Int × Int × List ByteArray × ByteArray × Int × Int × List ByteArray × Int × List Int × Int × List Int × Int
abbrev A2 : ETy := (.cons (.int .i64) (.cons .str (.cons (.int .i64) (.cons (.int .i64) (.cons (.sl (.cons .str .nil)) (.cons .str (.cons (.int .i64) (.cons (.int .i64) (.cons (.sl (.cons .str .nil)) (.cons (.int .i64) (.cons (.sl (.cons (.int .i64) .nil)) (.cons (.int .i64) (.cons (.sl (.cons (.int .i64) .nil)) (.cons (.int .i64) .nil))))))))))))))
abbrev fl2 (x0 : TGap) (x1 : Int) : D2 := (x0.1, x0.2.1, x0.2.2.1, x0.2.2.2.1, x0.2.2.2.2.1, x0.2.2.2.2.2.1, x0.2.2.2.2.2.2.1, x0.2.2.2.2.2.2.2.1, x0.2.2.2.2.2.2.2.2.1, x0.2.2.2.2.2.2.2.2.2.1, x0.2.2.2.2.2.2.2.2.2.2.1, x0.2.2.2.2.2.2.2.2.2.2.2.1, x0.2.2.2.2.2.2.2.2.2.2.2.2, x1)
abbrev p2_0 (x : D2) : TGap := (x.1, x.2.1, x.2.2.1, x.2.2.2.1, x.2.2.2.2.1, x.2.2.2.2.2.1, x.2.2.2.2.2.2.1, x.2.2.2.2.2.2.2.1, x.2.2.2.2.2.2.2.2.1, x.2.2.2.2.2.2.2.2.2.1, x.2.2.2.2.2.2.2.2.2.2.1, x.2.2.2.2.2.2.2.2.2.2.2.1, x.2.2.2.2.2.2.2.2.2.2.2.2.1)
abbrev p2_1 (x : D2) : Int := x.2.2.2.2.2.2.2.2.2.2.2.2.2
abbrev D3 : Type := List TSigned × Bool × ByteArray × Int × Int × List ByteArray × Int × List Int × Int × ByteArray × Int × Int × List ByteArray × ByteArray × Int × Int × List ByteArray × Int × List Int × Int × List Int × Int
abbrev A3 : ETy := (.cons (.sl eSigned) (.cons .bool (.cons .str (.cons (.int .i64) (.cons (.int .i64) (.cons (.sl (.cons .str .nil)) (.cons (.int .i64) (.cons (.sl (.cons (.int .i64) .nil)) (.cons (.int .i64) (.cons .str (.cons (.int .i64) (.cons (.int .i64) (.cons (.sl (.cons .str .nil)) (.cons .str (.cons (.int .i64) (.cons (.int .i64) (.cons (.sl (.cons .str .nil)) (.cons (.int .i64) (.cons (.sl (.cons (.int .i64) .nil)) (.cons (.int .i64) (.cons (.sl (.cons (.int .i64) .nil)) (.cons (.int .i64) .nil))))))))))))))))))))))
abbrev fl3 (x0 : TAnswer) (x1 : Int) : D3 := (x0.1, x0.2.1, x0.2.2.1, x0.2.2.2.1, x0.2.2.2.2.1, x0.2.2.2.2.2.1, x0.2.2.2.2.2.2.1, x0.2.2.2.2.2.2.2.1, x0.2.2.2.2.2.2.2.2.1, x0.2.2.2.2.2.2.2.2.2.1, x0.2.2.2.2.2.2.2.2.2.2.1, x0.2.2.2.2.2.2.2.2.2.2.2.1, x0.2.2.2.2.2.2.2.2.2.2.2.2.1, x0.2.2.2.2.2.2.2.2.2.2.2.2.2.1, x0.2.2.2.2.2.2.2.2.2.2.2.2.2.2.1, x0.2.2.2.2.2.2.2.2.2.2.2.2.2.2.2.1, x0.2.2.2.2.2.2.2.2.2.2.2.2.2.2.2.2.1, x0.2.2.2.2.2.2.2.2.2.2.2.2.2.2.2.2.2.1, x0.2.2.2.2.2.2.2.2.2.2.2.2.2.2.2.2.2.2.1, x0.2.2.2.2.2.2.2.2.2.2.2.2.2.2.2.2.2.2.2.1, x0.2.2.2.2.2.2.2.2.2.2.2.2.2.2.2.2.2.2.2.2, x1)
abbrev p3_0 (x : D3) : TAnswer := (x.1, x.2.1, x.2.2.1, x.2.2.2.1, x.2.2.2.2.1, x.2.2.2.2.2.1, x.2.2.2.2.2.2.1, x.2.2.2.2.2.2.2.1, x.2.2.2.2.2.2.2.2.1, x.2.2.2.2.2.2.2.2.2.1, x.2.2.2.2.2.2.2.2.2.2.1, x.2.2.2.2.2.2.2.2.2.2.2.1, x.2.2.2.2.2.2.2.2.2.2.2.2.1, x.2.2.2.2.2.2.2.2.2.2.2.2.2.1, x.2.2.2.2.2.2.2.2.2.2.2.2.2.2.1, x.2.2.2.2.2.2.2.2.2.2.2.2.2.2.2.1, x.2.2.2.2.2.2.2.2.2.2.2.2.2.2.2.2.1, x.2.2.2.2.2.2.2.2.2.2.2.2.2.2.2.2.2.1, x.2.2.2.2.2.2.2.2.2.2.2.2.2.2.2.2.2.2.1, x.2.2.2.2.2.2.2.2.2.2.2.2.2.2.2.2.2.2.2.1, x.2.2.2.2.2.2.2.2.2.2.2.2.2.2.2.2.2.2.2.2.1)
abbrev p3_1 (x : D3) : Int := x.2.2.2.2.2.2.2.2.2.2.2.2.2.2.2.2.2.2.2.2.2
abbrev D4 : Type := Int × Int × Int × Int × Int × Int × Int × Int × List Int × Int × List Int × Int × Int × List Int × Int × Bool
abbrev A4 : ETy := eHead
abbrev fl4 (x0 : THead) : D4 := (x0.1, x0.2.1, x0.2.2.1, x0.2.2.2.1, x0.2.2.2.2.1, x0.2.2.2.2.2.1, x0.2.2.2.2.2.2.1, x0.2.2.2.2.2.2.2.1, x0.2.2.2.2.2.2.2.2.1, x0.2.2.2.2.2.2.2.2.2.1, x0.2.2.2.2.2.2.2.2.2.2.1, x0.2.2.2.2.2.2.2.2.2.2.2.1, x0.2.2.2.2.2.2.2.2.2.2.2.2.1, x0.2.2.2.2.2.2.2.2.2.2.2.2.2.1, x0.2.2.2.2.2.2.2.2.2.2.2.2.2.2.1, x0.2.2.2.2.2.2.2.2.2.2.2.2.2.2.2)
abbrev p4_0 (x : D4) : THead := x
abbrev D5 : Type := Int × Int × Int × Int × Int × Int × Int × Int × List Int × Int × List Int × Int × Int × List Int × Int × Bool × List TSig
abbrev A5 : ETy := eSigned
abbrev fl5 (x0 : TSigned) : D5 := (x0.1, x0.2.1, x0.2.2.1, x0.2.2.2.1, x0.2.2.2.2.1, x0.2.2.2.2.2.1, x0.2.2.2.2.2.2.1, x0.2.2.2.2.2.2.2.1, x0.2.2.2.2.2.2.2.2.1, x0.2.2.2.2.2.2.2.2.2.1, x0.2.2.2.2.2.2.2.2.2.2.1, x0.2.2.2.2.2.2.2.2.2.2.2.1, x0.2.2.2.2.2.2.2.2.2.2.2.2.1, x0.2.2.2.2.2.2.2.2.2.2.2.2.2.1, x0.2.2.2.2.2.2.2.2.2.2.2.2.2.2.1, x0.2.2.2.2.2.2.2.2.2.2.2.2.2.2.2.1, x0.2.2.2.2.2.2.2.2.2.2.2.2.2.2.2.2)
abbrev p5_0 (x : D5) : TSigned := x
abbrev D6 : Type := Int × ByteArray × Int × Int × List ByteArray × ByteArray × Int × Int × List ByteArray × Int × List Int × Int × List Int
abbrev A6 : ETy := eGap
abbrev fl6 (x0 : TGap) : D6 := (x0.1, x0.2.1, x0.2.2.1, x0.2.2.2.1, x0.2.2.2.2.1, x0.2.2.2.2.2.1, x0.2.2.2.2.2.2.1, x0.2.2.2.2.2.2.2.1, x0.2.2.2.2.2.2.2.2.1, x0.2.2.2.2.2.2.2.2.2.1, x0.2.2.2.2.2.2.2.2.2.2.1, x0.2.2.2.2.2.2.2.2.2.2.2.1, x0.2.2.2.2.2.2.2.2.2.2.2.2)
abbrev p6_0 (x : D6) : TGap := x
abbrev D7 : Type := List TSigned × Bool × ByteArray × Int × Int × List ByteArray × Int × List Int × Int × ByteArray × Int × Int × List ByteArray × ByteArray × Int × Int × List ByteArray × Int × List Int × Int × List Int
abbrev A7 : ETy := eAnswer
abbrev fl7 (x0 : TAnswer) : D7 := (x0.1, x0.2.1, x0.2.2.1, x0.2.2.2.1, x0.2.2.2.2.1, x0.2.2.2.2.2.1, x0.2.2.2.2.2.2.1, x0.2.2.2.2.2.2.2.1, x0.2.2.2.2.2.2.2.2.1, x0.2.2.2.2.2.2.2.2.2.1, x0.2.2.2.2.2.2.2.2.2.2.1, x0.2.2.2.2.2.2.2.2.2.2.2.1, x0.2.2.2.2.2.2.2.2.2.2.2.2.1, x0.2.2.2.2.2.2.2.2.2.2.2.2.2.1, x0.2.2.2.2.2.2.2.2.2.2.2.2.2.2.1, x0.2.2.2.2.2.2.2.2.2.2.2.2.2.2.2.1, x0.2.2.2.2.2.2.2.2.2.2.2.2.2.2.2.2.1, x0.2.2.2.2.2.2.2.2.2.2.2.2.2.2.2.2.2.1, x0.2.2.2.2.2.2.2.2.2.2.2.2.2.2.2.2.2.2.1, x0.2.2.2.2.2.2.2.2.2.2.2.2.2.2.2.2.2.2.2.1, x0.2.2.2.2.2.2.2.2.2.2.2.2.2.2.2.2.2.2.2.2)
abbrev p7_0 (x : D7) : TAnswer := x
abbrev D8 : Type := Int × Int × Int × Int × Int × Int × Int × Int × List Int × Int × List Int × Int × Int × List Int × Int × Bool × Int × Int × Int × Int × Int × Int × Int × Int × List Int × Int × List Int × Int × Int × List Int × Int × Bool
abbrev A8 : ETy := (.cons (.int .i64) (.cons (.int .i64) (.cons (.int .i64) (.cons (.int .i64) (.cons (.int .i64) (.cons (.int .i64) (.cons (.int .i64) (.cons (.int .i64) (.cons (.sl (.cons (.int .i64) .nil)) (.cons (.int .i64) (.cons (.sl (.cons (.int .i64) .nil)) (.cons (.int .i64) (.cons (.int .i64) (.cons (.sl (.cons (.int .i64) .nil)) (.cons (.int .i64) (.cons .bool (.cons (.int .i64) (.cons (.int .i64) (.cons (.int .i64) (.cons (.int .i64) (.cons (.int .i64) (.cons (.int .i64) (.cons (.int .i64) (.cons (.int .i64) (.cons (.sl (.cons (.int .i64) .nil)) (.cons (.int .i64) (.cons (.sl (.cons (.int .i64) .nil)) (.cons (.int .i64) (.cons (.int .i64) (.cons (.sl (.cons (.int .i64) .nil)) (.cons (.int .i64) (.cons .bool .nil))))))))))))))))))))))))))))))))
abbrev fl8 (x0 : THead) (x1 : THead) : D8 := (x0.1, x0.2.1, x0.2.2.1, x0.2.2.2.1, x0.2.2.2.2.1, x0.2.2.2.2.2.1, x0.2.2.2.2.2.2.1, x0.2.2.2.2.2.2.2.1, x0.2.2.2.2.2.2.2.2.1, x0.2.2.2.2.2.2.2.2.2.1, x0.2.2.2.2.2.2.2.2.2.2.1, x0.2.2.2.2.2.2.2.2.2.2.2.1, x0.2.2.2.2.2.2.2.2.2.2.2.2.1, x0.2.2.2.2.2.2.2.2.2.2.2.2.2.1, x0.2.2.2.2.2.2.2.2.2.2.2.2.2.2.1, x0.2.2.2.2.2.2.2.2.2.2.2.2.2.2.2, x1.1, x1.2.1, x1.2.2.1, x1.2.2.2.1, x1.2.2.2.2.1, x1.2.2.2.2.2.1, x1.2.2.2.2.2.2.1, x1.2.2.2.2.2.2.2.1, x1.2.2.2.2.2.2.2.2.1, x1.2.2.2.2.2.2.2.2.2.1, x1.2.2.2.2.2.2.2.2.2.2.1, x1.2.2.2.2.2.2.2.2.2.2.2.1, x1.2.2.2.2.2.2.2.2.2.2.2.2.1, x1.2.2.2.2.2.2.2.2.2.2.2.2.2.1, x1.2.2.2.2.2.2.2.2.2.2.2.2.2.2.1, x1.2.2.2.2.2.2.2.2.2.2.2.2.2.2.2)
abbrev p8_0 (x : D8) : THead := (x.1, x.2.1, x.2.2.1, x.2.2.2.1, x.2.2.2.2.1, x.2.2.2.2.2.1, x.2.2.2.2.2.2.1, x.2.2.2.2.2.2.2.1, x.2.2.2.2.2.2.2.2.1, x.2.2.2.2.2.2.2.2.2.1, x.2.2.2.2.2.2.2.2.2.2.1, x.2.2.2.2.2.2.2.2.2.2.2.1, x.2.2.2.2.2.2.2.2.2.2.2.2.1, x.2.2.2.2.2.2.2.2.2.2.2.2.2.1, x.2.2.2.2.2.2.2.2.2.2.2.2.2.2.1, x.2.2.2.2.2.2.2.2.2.2.2.2.2.2.2.1)
abbrev p8_1 (x : D8) : THead := x.2.2.2.2.2.2.2.2.2.2.2.2.2.2.2.2
abbrev D9 : Type := Int × Int × Int × Int × Int × Int × Int × Int × List Int × Int × List Int × Int × Int × List Int × Int × Bool × List TSig × Int × Int × Int × Int × Int × Int × Int × Int × List Int × Int × List Int × Int × Int × List Int × Int × Bool × List TSig
abbrev A9 : ETy := (.cons (.int .i64) (.cons (.int .i64) (.cons (.int .i64) (.cons (.int .i64) (.cons (.int .i64) (.cons (.int .i64) (.cons (.int .i64) (.cons (.int .i64) (.cons (.sl (.cons (.int .i64) .nil)) (.cons (.int .i64) (.cons (.sl (.cons (.int .i64) .nil)) (.cons (.int .i64) (.cons (.int .i64) (.cons (.sl (.cons (.int .i64) .nil)) (.cons (.int .i64) (.cons .bool (.cons (.sl (.cons (.int .i64) (.cons (.int .i64) .nil))) (.cons (.int .i64) (.cons (.int .i64) (.cons (.int .i64) (.cons (.int .i64) (.cons (.int .i64) (.cons (.int .i64) (.cons (.int .i64) (.cons (.int .i64) (.cons (.sl (.cons (.int .i64) .nil)) (.cons (.int .i64) (.cons (.sl (.cons (.int .i64) .nil)) (.cons (.int .i64) (.cons (.int .i64) (.cons (.sl (.cons (.int .i64) .nil)) (.cons (.int .i64) (.cons .bool (.cons (.sl (.cons (.int .i64) (.cons (.int .i64) .nil))) .nil))))))))))))))))))))))))))))))))))
abbrev fl9 (x0 : TSigned) (x1 : TSigned) : D9 := (x0.1, x0.2.1, x0.2.2.1, x0.2.2.2.1, x0.2.2.2.2.1, x0.2.2.2.2.2.1, x0.2.2.2.2.2.2.1, x0.2.2.2.2.2.2.2.1, x0.2.2.2.2.2.2.2.2.1, x0.2.2.2.2.2.2.2.2.2.1, x0.2.2.2.2.2.2.2.2.2.2.1, x0.2.2.2.2.2.2.2.2.2.2.2.1, x0.2.2.2.2.2.2.2.2.2.2.2.2.1, x0.2.2.2.2.2.2.2.2.2.2.2.2.2.1, x0.2.2.2.2.2.2.2.2.2.2.2.2.2.2.1, x0.2.2.2.2.2.2.2.2.2.2.2.2.2.2.2.1, x0.2.2.2.2.2.2.2.2.2.2.2.2.2.2.2.2, x1.1, x1.2.1, x1.2.2.1, x1.2.2.2.1, x1.2.2.2.2.1, x1.2.2.2.2.2.1, x1.2.2.2.2.2.2.1, x1.2.2.2.2.2.2.2.1, x1.2.2.2.2.2.2.2.2.1, x1.2.2.2.2.2.2.2.2.2.1, x1.2.2.2.2.2.2.2.2.2.2.1, x1.2.2.2.2.2.2.2.2.2.2.2.1, x1.2.2.2.2.2.2.2.2.2.2.2.2.1, x1.2.2.2.2.2.2.2.2.2.2.2.2.2.1, x1.2.2.2.2.2.2.2.2.2.2.2.2.2.2.1, x1.2.2.2.2.2.2.2.2.2.2.2.2.2.2.2.1, x1.2.2.2.2.2.2.2.2.2.2.2.2.2.2.2.2)
abbrev p9_0 (x : D9) : TSigned := (x.1, x.2.1, x.2.2.1, x.2.2.2.1, x.2.2.2.2.1, x.2.2.2.2.2.1, x.2.2.2.2.2.2.1, x.2.2.2.2.2.2.2.1, x.2.2.2.2.2.2.2.2.1, x.2.2.2.2.2.2.2.2.2.1, x.2.2.2.2.2.2.2.2.2.2.1, x.2.2.2.2.2.2.2.2.2.2.2.1, x.2.2.2.2.2.2.2.2.2.2.2.2.1, x.2.2.2.2.2.2.2.2.2.2.2.2.2.1, x.2.2.2.2.2.2.2.2.2.2.2.2.2.2.1, x.2.2.2.2.2.2.2.2.2.2.2.2.2.2.2.1, x.2.2.2.2.2.2.2.2.2.2.2.2.2.2.2.2.1)
abbrev p9_1 (x : D9) : TSigned := x.2.2.2.2.2.2.2.2.2.2.2.2.2.2.2.2.2
abbrev D10 : Type := Int × ByteArray × Int × Int × List ByteArray × ByteArray × Int × Int × List ByteArray × Int × List Int × Int × List Int × Int × ByteArray × Int × Int × List ByteArray × ByteArray × Int × Int × List ByteArray × Int × List Int × Int × List Int
abbrev A10 : ETy := (.cons (.int .i64) (.cons .str (.cons (.int .i64) (.cons (.int .i64) (.cons (.sl (.cons .str .nil)) (.cons .str (.cons (.int .i64) (.cons (.int .i64) (.cons (.sl (.cons .str .nil)) (.cons (.int .i64) (.cons (.sl (.cons (.int .i64) .nil)) (.cons (.int .i64) (.cons (.sl (.cons (.int .i64) .nil)) (.cons (.int .i64) (.cons .str (.cons (.int .i64) (.cons (.int .i64) (.cons (.sl (.cons .str .nil)) (.cons .str (.cons (.int .i64) (.cons (.int .i64) (.cons (.sl (.cons .str .nil)) (.cons (.int .i64) (.cons (.sl (.cons (.int .i64) .nil)) (.cons (.int .i64) (.cons (.sl (.cons (.int .i64) .nil)) .nil))))))))))))))))))))))))))
abbrev fl10 (x0 : TGap) (x1 : TGap) : D10 := (x0.1, x0.2.1, x0.2.2.1, x0.2.2.2.1, x0.2.2.2.2.1, x0.2.2.2.2.2.1, x0.2.2.2.2.2.2.1, x0.2.2.2.2.2.2.2.1, x0.2.2.2.2.2.2.2.2.1, x0.2.2.2.2.2.2.2.2.2.1, x0.2.2.2.2.2.2.2.2.2.2.1, x0.2.2.2.2.2.2.2.2.2.2.2.1, x0.2.2.2.2.2.2.2.2.2.2.2.2, x1.1, x1.2.1, x1.2.2.1, x1.2.2.2.1, x1.2.2.2.2.1, x1.2.2.2.2.2.1, x1.2.2.2.2.2.2.1, x1.2.2.2.2.2.2.2.1, x1.2.2.2.2.2.2.2.2.1, x1.2.2.2.2.2.2.2.2.2.1, x1.2.2.2.2.2.2.2.2.2.2.1, x1.2.2.2.2.2.2.2.2.2.2.2.1, x1.2.2.2.2.2.2.2.2.2.2.2.2)
abbrev p10_0 (x : D10) : TGap := (x.1, x.2.1, x.2.2.1, x.2.2.2.1, x.2.2.2.2.1, x.2.2.2.2.2.1, x.2.2.2.2.2.2.1, x.2.2.2.2.2.2.2.1, x.2.2.2.2.2.2.2.2.1, x.2.2.2.2.2.2.2.2.2.1, x.2.2.2.2.2.2.2.2.2.2.1, x.2.2.2.2.2.2.2.2.2.2.2.1, x.2.2.2.2.2.2.2.2.2.2.2.2.1)
abbrev p10_1 (x : D10) : TGap := x.2.2.2.2.2.2.2.2.2.2.2.2.2
abbrev D11 : Type := List TSigned × Bool × ByteArray × Int × Int × List ByteArray × Int × List Int × Int × ByteArray × Int × Int × List ByteArray × ByteArray × Int × Int × List ByteArray × Int × List Int × Int × List Int × List TSigned × Bool × ByteArray × Int × Int × List ByteArray × Int × List Int × Int × ByteArray × Int × Int × List ByteArray × ByteArray × Int × Int × List ByteArray × Int × List Int × Int × List Int
abbrev A11 : ETy := (.cons (.sl eSigned) (.cons .bool (.cons .str (.cons (.int .i64) (.cons (.int .i64) (.cons (.sl (.cons .str .nil)) (.cons (.int .i64) (.cons (.sl (.cons (.int .i64) .nil)) (.cons (.int .i64) (.cons .str (.cons (.int .i64) (.cons (.int .i64) (.cons (.sl (.cons .str .nil)) (.cons .str (.cons (.int .i64) (.cons (.int .i64) (.cons (.sl (.cons .str .nil)) (.cons (.int .i64) (.cons (.sl (.cons (.int .i64) .nil)) (.cons (.int .i64) (.cons (.sl (.cons (.int .i64) .nil)) (.cons (.sl eSigned) (.cons .bool (.cons .str (.cons (.int .i64) (.cons (.int .i64) (.cons (.sl (.cons .str .nil)) (.cons (.int .i64) (.cons (.sl (.cons (.int .i64) .nil)) (.cons (.int .i64) (.cons .str (.cons (.int .i64) (.cons (.int .i64) (.cons (.sl (.cons .str .nil)) (.cons .str (.cons (.int .i64) (.cons (.int .i64) (.cons (.sl (.cons .str .nil)) (.cons (.int .i64) (.cons (.sl (.cons (.int .i64) .nil)) (.cons (.int .i64) (.cons (.sl (.cons (.int .i64) .nil)) .nil))))))))))))))))))))))))))))))))))))))))))
abbrev fl11 (x0 : TAnswer) (x1 : TAnswer) : D11 := (x0.1, x0.2.1, x0.2.2.1, x0.2.2.2.1, x0.2.2.2.2.1, x0.2.2.2.2.2.1, x0.2.2.2.2.2.2.1, x0.2.2.2.2.2.2.2.1, x0.2.2.2.2.2.2.2.2.1, x0.2.2.2.2.2.2.2.2.2.1, x0.2.2.2.2.2.2.2.2.2.2.1, x0.2.2.2.2.2.2.2.2.2.2.2.1, x0.2.2.2.2.2.2.2.2.2.2.2.2.1, x0.2.2.2.2.2.2.2.2.2.2.2.2.2.1, x0.2.2.2.2.2.2.2.2.2.2.2.2.2.2.1, x0.2.2.2.2.2.2.2.2.2.2.2.2.2.2.2.1, x0.2.2.2.2.2.2.2.2.2.2.2.2.2.2.2.2.1, x0.2.2.2.2.2.2.2.2.2.2.2.2.2.2.2.2.2.1, x0.2.2.2.2.2.2.2.2.2.2.2.2.2.2.2.2.2.2.1, x0.2.2.2.2.2.2.2.2.2.2.2.2.2.2.2.2.2.2.2.1, x0.2.2.2.2.2.2.2.2.2.2.2.2.2.2.2.2.2.2.2.2, x1.1, x1.2.1, x1.2.2.1, x1.2.2.2.1, x1.2.2.2.2.1, x1.2.2.2.2.2.1, x1.2.2.2.2.2.2.1, x1.2.2.2.2.2.2.2.1, x1.2.2.2.2.2.2.2.2.1, x1.2.2.2.2.2.2.2.2.2.1, x1.2.2.2.2.2.2.2.2.2.2.1, x1.2.2.2.2.2.2.2.2.2.2.2.1, x1.2.2.2.2.2.2.2.2.2.2.2.2.1, x1.2.2.2.2.2.2.2.2.2.2.2.2.2.1, x1.2.2.2.2.2.2.2.2.2.2.2.2.2.2.1, x1.2.2.2.2.2.2.2.2.2.2.2.2.2.2.2.1, x1.2.2.2.2.2.2.2.2.2.2.2.2.2.2.2.2.1, x1.2.2.2.2.2.2.2.2.2.2.2.2.2.2.2.2.2.1, x1.2.2.2.2.2.2.2.2.2.2.2.2.2.2.2.2.2.2.1, x1.2.2.2.2.2.2.2.2.2.2.2.2.2.2.2.2.2.2.2.1, x1.2.2.2.2.2.2.2.2.2.2.2.2.2.2.2.2.2.2.2.2)
abbrev p11_0 (x : D11) : TAnswer := (x.1, x.2.1, x.2.2.1, x.2.2.2.1, x.2.2.2.2.1, x.2.2.2.2.2.1, x.2.2.2.2.2.2.1, x.2.2.2.2.2.2.2.1, x.2.2.2.2.2.2.2.2.1, x.2.2.2.2.2.2.2.2.2.1, x.2.2.2.2.2.2.2.2.2.2.1, x.2.2.2.2.2.2.2.2.2.2.2.1, x.2.2.2.2.2.2.2.2.2.2.2.2.1, x.2.2.2.2.2.2.2.2.2.2.2.2.2.1, x.2.2.2.2.2.2.2.2.2.2.2.2.2.2.1, x.2.2.2.2.2.2.2.2.2.2.2.2.2.2.2.1, x.2.2.2.2.2.2.2.2.2.2.2.2.2.2.2.2.1, x.2.2.2.2.2.2.2.2.2.2.2.2.2.2.2.2.2.1, x.2.2.2.2.2.2.2.2.2.2.2.2.2.2.2.2.2.2.1, x.2.2.2.2.2.2.2.2.2.2.2.2.2.2.2.2.2.2.2.1, x.2.2.2.2.2.2.2.2.2.2.2.2.2.2.2.2.2.2.2.2.1)
abbrev p11_1 (x : D11) : TAnswer := x.2.2.2.2.2.2.2.2.2.2.2.2.2.2.2.2.2.2.2.2.2
abbrev tys : List (Nat × TI) := [(3, ⟨.int .i64, false, [.val (.int .i64 (0 : Int))], 8, [], (.cons (.int .i64) .nil)⟩),
  (4, ⟨.bool, false, [.val (.bool false)], 1, [], (.cons .bool .nil)⟩),
  (9, ⟨.str, false, [.val (.str (⟨#[]⟩ : ByteArray))], 16, [], (.cons .str .nil)⟩),
  (22, ⟨.sl 3, false, [.nil0], 24, [], (.cons (.sl (.cons (.int .i64) .nil)) .nil)⟩),
  (24, ⟨.st, false, [.nil0, .val (.int .i64 (0 : Int))], 32, [(0, 1, false), (1, 1, false)], (.cons (.sl (.cons (.int .i64) .nil)) (.cons (.int .i64) .nil))⟩),
  (26, ⟨.st, false, [.val (.int .i64 (0 : Int)), .val (.int .i64 (0 : Int)), .val (.int .i64 (0 : Int)), .val (.int .i64 (0 : Int)), .val (.int .i64 (0 : Int)), .val (.int .i64 (0 : Int)), .val (.int .i64 (0 : Int)), .val (.int .i64 (0 : Int)), .nil0, .val (.int .i64 (0 : Int)), .nil0, .val (.int .i64 (0 : Int)), .val (.int .i64 (0 : Int)), .nil0, .val (.int .i64 (0 : Int)), .val (.bool false)], 176, [(0, 1, false), (1, 1, false), (2, 1, false), (3, 1, false), (4, 1, false), (5, 1, false), (6, 1, false), (7, 1, false), (8, 2, true), (10, 2, true), (12, 1, false), (13, 2, true), (15, 1, false)], V.eHead⟩),
  (29, ⟨.st, false, [.nil0, .val (.int .i64 (0 : Int))], 32, [(0, 1, false), (1, 1, false)], (.cons (.sl (.cons (.int .i64) .nil)) (.cons (.int .i64) .nil))⟩),
  (31, ⟨.st, false, [.val (.int .i64 (0 : Int)), .val (.int .i64 (0 : Int)), .val (.int .i64 (0 : Int)), .val (.int .i64 (0 : Int)), .val (.int .i64 (0 : Int)), .val (.int .i64 (0 : Int)), .val (.int .i64 (0 : Int)), .val (.int .i64 (0 : Int)), .nil0, .val (.int .i64 (0 : Int)), .nil0, .val (.int .i64 (0 : Int)), .val (.int .i64 (0 : Int)), .nil0, .val (.int .i64 (0 : Int)), .val (.bool false)], 176, [(0, 1, false), (1, 1, false), (2, 1, false), (3, 1, false), (4, 1, false), (5, 1, false), (6, 1, false), (7, 1, false), (8, 2, true), (10, 2, true), (12, 1, false), (13, 2, true), (15, 1, false)], V.eHead⟩),
  (65, ⟨.sl 93, false, [.nil0], 24, [], (.cons (.sl V.eSigned) .nil)⟩),
  (66, ⟨.sl 9, false, [.nil0], 24, [], (.cons (.sl (.cons .str .nil)) .nil)⟩),
  (68, ⟨.st, false, [.val (.str (⟨#[]⟩ : ByteArray)), .val (.int .i64 (0 : Int)), .val (.int .i64 (0 : Int)), .nil0], 56, [(0, 1, false), (1, 1, false), (2, 1, false), (3, 1, false)], V.eEntry⟩),
  (70, ⟨.st, false, [.val (.int .i64 (0 : Int)), .nil0], 32, [(0, 1, false), (1, 1, false)], (.cons (.int .i64) (.cons (.sl (.cons (.int .i64) .nil)) .nil))⟩),
  (72, ⟨.st, false, [.val (.int .i64 (0 : Int)), .val (.str (⟨#[]⟩ : ByteArray)), .val (.int .i64 (0 : Int)), .val (.int .i64 (0 : Int)), .nil0, .val (.str (⟨#[]⟩ : ByteArray)), .val (.int .i64 (0 : Int)), .val (.int .i64 (0 : Int)), .nil0, .val (.int .i64 (0 : Int)), .nil0, .val (.int .i64 (0 : Int)), .nil0], 184, [(0, 1, false), (1, 4, true), (5, 4, true), (9, 2, true), (11, 2, true)], V.eGap⟩),
  (74, ⟨.st, false, [.nil0, .val (.bool false), .val (.str (⟨#[]⟩ : ByteArray)), .val (.int .i64 (0 : Int)), .val (.int .i64 (0 : Int)), .nil0, .val (.int .i64 (0 : Int)), .nil0, .val (.int .i64 (0 : Int)), .val (.str (⟨#[]⟩ : ByteArray)), .val (.int .i64 (0 : Int)), .val (.int .i64 (0 : Int)), .nil0, .val (.str (⟨#[]⟩ : ByteArray)), .val (.int .i64 (0 : Int)), .val (.int .i64 (0 : Int)), .nil0, .val (.int .i64 (0 : Int)), .nil0, .val (.int .i64 (0 : Int)), .nil0], 304, [(0, 1, false), (1, 1, false), (2, 4, true), (6, 2, true), (8, 13, true)], V.eAnswer⟩),
  (77, ⟨.sl 100, false, [.nil0], 24, [], (.cons (.sl V.eSigned) .nil)⟩),
  (78, ⟨.st, false, [.val (.str (⟨#[]⟩ : ByteArray)), .val (.int .i64 (0 : Int)), .val (.int .i64 (0 : Int)), .nil0], 56, [(0, 1, false), (1, 1, false), (2, 1, false), (3, 1, false)], V.eEntry⟩),
  (79, ⟨.st, false, [.val (.int .i64 (0 : Int)), .nil0], 32, [(0, 1, false), (1, 1, false)], (.cons (.int .i64) (.cons (.sl (.cons (.int .i64) .nil)) .nil))⟩),
  (81, ⟨.st, false, [.val (.int .i64 (0 : Int)), .val (.str (⟨#[]⟩ : ByteArray)), .val (.int .i64 (0 : Int)), .val (.int .i64 (0 : Int)), .nil0, .val (.str (⟨#[]⟩ : ByteArray)), .val (.int .i64 (0 : Int)), .val (.int .i64 (0 : Int)), .nil0, .val (.int .i64 (0 : Int)), .nil0, .val (.int .i64 (0 : Int)), .nil0], 184, [(0, 1, false), (1, 4, true), (5, 4, true), (9, 2, true), (11, 2, true)], V.eGap⟩),
  (83, ⟨.st, false, [.nil0, .val (.bool false), .val (.str (⟨#[]⟩ : ByteArray)), .val (.int .i64 (0 : Int)), .val (.int .i64 (0 : Int)), .nil0, .val (.int .i64 (0 : Int)), .nil0, .val (.int .i64 (0 : Int)), .val (.str (⟨#[]⟩ : ByteArray)), .val (.int .i64 (0 : Int)), .val (.int .i64 (0 : Int)), .nil0, .val (.str (⟨#[]⟩ : ByteArray)), .val (.int .i64 (0 : Int)), .val (.int .i64 (0 : Int)), .nil0, .val (.int .i64 (0 : Int)), .nil0, .val (.int .i64 (0 : Int)), .nil0], 304, [(0, 1, false), (1, 1, false), (2, 4, true), (6, 2, true), (8, 13, true)], V.eAnswer⟩),
  (91, ⟨.sl 201, false, [.nil0], 24, [], (.cons (.sl (.cons (.int .i64) (.cons (.int .i64) .nil))) .nil)⟩),
  (93, ⟨.st, false, [.val (.int .i64 (0 : Int)), .val (.int .i64 (0 : Int)), .val (.int .i64 (0 : Int)), .val (.int .i64 (0 : Int)), .val (.int .i64 (0 : Int)), .val (.int .i64 (0 : Int)), .val (.int .i64 (0 : Int)), .val (.int .i64 (0 : Int)), .nil0, .val (.int .i64 (0 : Int)), .nil0, .val (.int .i64 (0 : Int)), .val (.int .i64 (0 : Int)), .nil0, .val (.int .i64 (0 : Int)), .val (.bool false), .nil0], 200, [(0, 16, true), (16, 1, false)], V.eSigned⟩),
  (98, ⟨.sl 188, false, [.nil0], 24, [], (.cons (.sl (.cons (.int .i64) (.cons (.int .i64) .nil))) .nil)⟩),
  (100, ⟨.st, false, [.val (.int .i64 (0 : Int)), .val (.int .i64 (0 : Int)), .val (.int .i64 (0 : Int)), .val (.int .i64 (0 : Int)), .val (.int .i64 (0 : Int)), .val (.int .i64 (0 : Int)), .val (.int .i64 (0 : Int)), .val (.int .i64 (0 : Int)), .nil0, .val (.int .i64 (0 : Int)), .nil0, .val (.int .i64 (0 : Int)), .val (.int .i64 (0 : Int)), .nil0, .val (.int .i64 (0 : Int)), .val (.bool false), .nil0], 200, [(0, 16, true), (16, 1, false)], V.eSigned⟩),
  (137, ⟨.sl 78, false, [.nil0], 24, [], (.cons (.sl V.eEntry) .nil)⟩),
  (139, ⟨.st, false, [.nil0, .nil0], 48, [(0, 1, false), (1, 1, false)], (.cons (.sl V.eSigned) (.cons (.sl V.eEntry) .nil))⟩),
  (188, ⟨.st, true, [.val (.int .i64 (0 : Int)), .val (.int .i64 (0 : Int))], 16, [(0, 1, false), (1, 1, false)], (.cons (.int .i64) (.cons (.int .i64) .nil))⟩),
  (201, ⟨.st, true, [.val (.int .i64 (0 : Int)), .val (.int .i64 (0 : Int))], 16, [(0, 1, false), (1, 1, false)], (.cons (.int .i64) (.cons (.int .i64) .nil))⟩),
  (211, ⟨.sl 22, false, [.nil0], 24, [], (.cons (.sl (.cons (.sl (.cons (.int .i64) .nil)) .nil)) .nil)⟩)]
theorem tysOk : tyAll Try.prog tys = true := by kernel_rfl
theorem mixed : Try.prog.follows .mixedOrders = true := by kernel_rfl
end V
noncomputable abbrev laws_szIntS.con : V.Con := ⟨(.cons (.sl (.cons (.int .i64) .nil)) (.cons (.int .i64) .nil)), (.cons (.int .i64) .nil), fun (x : List Int × Int) => laws_szIntS x.1 x.2, [], [(false, 1), (false, 1)], [(false, 1)], [false], []⟩
noncomputable abbrev laws_szIntS.E : V.Env := V.mkE V.tys [] [] [] [] []
noncomputable abbrev laws_szIntS.kt (x0 : List Int) (x1 : Int) : V.Kt Int := V.ktOf laws_szIntS.E laws_szIntS.con Try.f72 ((x0, x1) : List Int × Int)
theorem laws_szIntS.eq (x0 : List Int) (x1 : Int) : V.evBody laws_szIntS.E laws_szIntS.con Try.f72 ((x0, x1) : List Int × Int) = laws_szIntS x0 x1 := by kernel_rfl
theorem laws_szIntS.ok : V.Valid Try.prog 72 laws_szIntS.con :=
  V.body_ok (V.env_ok V.mixed V.tysOk V.tab_nil) Try.func72 (by kernel_rfl) (by kernel_rfl) (by kernel_rfl) (fun x y h => (show V.evBody laws_szIntS.E laws_szIntS.con Try.f72 x = _ from laws_szIntS.eq x.1 x.2).trans h)
noncomputable abbrev laws_szKeys.con : V.Con := ⟨(.cons (.sl (.cons (.int .i64) .nil)) (.cons (.int .i64) (.cons (.int .i64) .nil))), (.cons (.int .i64) .nil), fun (x : List Int × Int × Int) => laws_szKeys (x.1, x.2.1) x.2.2, [], [(true, 2), (false, 1)], [(false, 1)], [false], []⟩
noncomputable abbrev laws_szKeys.E : V.Env := V.mkE V.tys [(72, laws_szIntS.con)] [] [] [] []
noncomputable abbrev laws_szKeys.kt (x0 : TKeys) (x1 : Int) : V.Kt Int := V.ktOf laws_szKeys.E laws_szKeys.con Try.f16 ((x0.1, x0.2, x1) : List Int × Int × Int)
theorem laws_szKeys.eq (x0 : TKeys) (x1 : Int) : V.evBody laws_szKeys.E laws_szKeys.con Try.f16 ((x0.1, x0.2, x1) : List Int × Int × Int) = laws_szKeys x0 x1 := by kernel_rfl
theorem laws_szKeys.ok : V.Valid Try.prog 16 laws_szKeys.con :=
  V.body_ok (V.env_ok V.mixed V.tysOk (V.tab_cons laws_szIntS.ok V.tab_nil)) Try.func16 (by kernel_rfl) (by kernel_rfl) (by kernel_rfl) (fun x y h => (show V.evBody laws_szKeys.E laws_szKeys.con Try.f16 x = _ from laws_szKeys.eq (x.1, x.2.1) x.2.2).trans h)
noncomputable abbrev laws_szHead.con : V.Con := ⟨V.A0, (.cons (.int .i64) .nil), fun (x : V.D0) => laws_szHead (V.p0_0 x) (V.p0_1 x), [], [(true, 16), (false, 1)], [(false, 1)], [false], []⟩
noncomputable abbrev laws_szHead.E : V.Env := V.mkE V.tys [(16, laws_szKeys.con)] [] [] [] []
noncomputable abbrev laws_szHead.kt (x0 : THead) (x1 : Int) : V.Kt Int := V.ktOf laws_szHead.E laws_szHead.con Try.f15 (V.fl0 x0 x1)
theorem laws_szHead.eq (x0 : THead) (x1 : Int) : V.evBody laws_szHead.E laws_szHead.con Try.f15 (V.fl0 x0 x1) = laws_szHead x0 x1 := by kernel_rfl
theorem laws_szHead.ok : V.Valid Try.prog 15 laws_szHead.con :=
  V.body_ok (V.env_ok V.mixed V.tysOk (V.tab_cons laws_szKeys.ok V.tab_nil)) Try.func15 (by kernel_rfl) (by kernel_rfl) (by kernel_rfl) (fun x y h => (show V.evBody laws_szHead.E laws_szHead.con Try.f15 x = _ from laws_szHead.eq (V.p0_0 x) (V.p0_1 x)).trans h)
noncomputable abbrev laws_szSigS.con : V.Con := ⟨(.cons (.sl (.cons (.int .i64) (.cons (.int .i64) .nil))) (.cons (.int .i64) .nil)), (.cons (.int .i64) .nil), fun (x : List TSig × Int) => laws_szSigS x.1 x.2, [], [(false, 1), (false, 1)], [(false, 1)], [false], []⟩
noncomputable abbrev laws_szSigS.E : V.Env := V.mkE V.tys [] [] [] [] []
noncomputable abbrev laws_szSigS.kt (x0 : List TSig) (x1 : Int) : V.Kt Int := V.ktOf laws_szSigS.E laws_szSigS.con Try.f160 ((x0, x1) : List TSig × Int)
theorem laws_szSigS.eq (x0 : List TSig) (x1 : Int) : V.evBody laws_szSigS.E laws_szSigS.con Try.f160 ((x0, x1) : List TSig × Int) = laws_szSigS x0 x1 := by kernel_rfl
theorem laws_szSigS.ok : V.Valid Try.prog 160 laws_szSigS.con :=
  V.body_ok (V.env_ok V.mixed V.tysOk V.tab_nil) Try.func160 (by kernel_rfl) (by kernel_rfl) (by kernel_rfl) (fun x y h => (show V.evBody laws_szSigS.E laws_szSigS.con Try.f160 x = _ from laws_szSigS.eq x.1 x.2).trans h)
noncomputable abbrev laws_szSigned.con : V.Con := ⟨V.A1, (.cons (.int .i64) .nil), fun (x : V.D1) => laws_szSigned (V.p1_0 x) (V.p1_1 x), [], [(true, 17), (false, 1)], [(false, 1)], [false], []⟩
noncomputable abbrev laws_szSigned.E : V.Env := V.mkE V.tys [(15, laws_szHead.con), (160, laws_szSigS.con)] [] [] [] []
noncomputable abbrev laws_szSigned.kt (x0 : TSigned) (x1 : Int) : V.Kt Int := V.ktOf laws_szSigned.E laws_szSigned.con Try.f117 (V.fl1 x0 x1)
theorem laws_szSigned.eq (x0 : TSigned) (x1 : Int) : V.evBody laws_szSigned.E laws_szSigned.con Try.f117 (V.fl1 x0 x1) = laws_szSigned x0 x1 := by kernel_rfl
theorem laws_szSigned.ok : V.Valid Try.prog 117 laws_szSigned.con :=
  V.body_ok (V.env_ok V.mixed V.tysOk (V.tab_cons laws_szHead.ok (V.tab_cons laws_szSigS.ok V.tab_nil))) Try.func117 (by kernel_rfl) (by kernel_rfl) (by kernel_rfl) (fun x y h => (show V.evBody laws_szSigned.E laws_szSigned.con Try.f117 x = _ from laws_szSigned.eq (V.p1_0 x) (V.p1_1 x)).trans h)
noncomputable abbrev laws_szSignedS.con : V.Con := ⟨(.cons (.sl V.eSigned) (.cons (.int .i64) .nil)), (.cons (.int .i64) .nil), fun (x : List TSigned × Int) => laws_szSignedS x.1 x.2, [], [(false, 1), (false, 1)], [(false, 1)], [false], []⟩
noncomputable abbrev laws_szSignedS.E : V.Env := V.mkE V.tys [(117, laws_szSigned.con)] [(10, [0, 1, 5], [])] [] [] []
noncomputable abbrev laws_szSignedS.kt (x0 : List TSigned) (x1 : Int) : V.Kt Int := V.ktOf laws_szSignedS.E laws_szSignedS.con Try.f45 ((x0, x1) : List TSigned × Int)
noncomputable abbrev laws_szSignedS.s10 (x0 : List TSigned) (v10_1 : Int) (v10_2 : Int) : V.St := ⟨[(0, .v false [.val (.sl V.eSigned x0)]), (1, .v false [.val (.int .i64 v10_1)]), (5, .v false [.val (.int .i64 v10_2)])], []⟩
theorem laws_szSignedS.r10 (x0 : List TSigned) (x1 : Int) (R : V.St → Option Int) (v10_1 : Int) (v10_2 : Int) : V.loopF laws_szSignedS.E Try.f45.ntmps [1, 1, 1, 0, 1, 0] [] (V.codeOf Try.f45) (laws_szSignedS.kt x0 x1) R (laws_szSignedS.s10 x0 v10_1 v10_2) = laws_szSignedS.g10 x0 (fun v10_1 v10_2 => R (laws_szSignedS.s10 x0 v10_1 v10_2)) v10_1 v10_2 := by kernel_rfl
theorem laws_szSignedS.e10 (x0 : List TSigned) (x1 : Int) : ∀ (n : Nat) (v10_1 : Int) (v10_2 : Int), V.loopN (V.loopF laws_szSignedS.E Try.f45.ntmps [1, 1, 1, 0, 1, 0] [] (V.codeOf Try.f45) (laws_szSignedS.kt x0 x1)) n (laws_szSignedS.s10 x0 v10_1 v10_2) = laws_szSignedS.l10 x0 n v10_1 v10_2 := by
  intro n
  induction n with
  | zero => intros; rfl
  | succ n ih =>
    intro v10_1 v10_2
    show V.loopF laws_szSignedS.E Try.f45.ntmps [1, 1, 1, 0, 1, 0] [] (V.codeOf Try.f45) (laws_szSignedS.kt x0 x1) (V.loopN (V.loopF laws_szSignedS.E Try.f45.ntmps [1, 1, 1, 0, 1, 0] [] (V.codeOf Try.f45) (laws_szSignedS.kt x0 x1)) n) (laws_szSignedS.s10 x0 v10_1 v10_2) = _
    rw [laws_szSignedS.r10]
    simp only [ih]
    rfl
theorem laws_szSignedS.v (x0 : List TSigned) (x1 : Int) : V.evBody laws_szSignedS.E laws_szSignedS.con Try.f45 ((x0, x1) : List TSigned × Int) = laws_szSignedS.b x0 x1 (fun v10_1 v10_2 => V.loopN (V.loopF laws_szSignedS.E Try.f45.ntmps [1, 1, 1, 0, 1, 0] [] (V.codeOf Try.f45) (laws_szSignedS.kt x0 x1)) V.KK (laws_szSignedS.s10 x0 v10_1 v10_2)) := by kernel_rfl
theorem laws_szSignedS.eq (x0 : List TSigned) (x1 : Int) : V.evBody laws_szSignedS.E laws_szSignedS.con Try.f45 ((x0, x1) : List TSigned × Int) = laws_szSignedS x0 x1 := by
  rw [laws_szSignedS.v]
  simp only [laws_szSignedS.e10]
  rfl
theorem laws_szSignedS.ok : V.Valid Try.prog 45 laws_szSignedS.con :=
  V.body_ok (V.env_ok V.mixed V.tysOk (V.tab_cons laws_szSigned.ok V.tab_nil)) Try.func45 (by kernel_rfl) (by kernel_rfl) (by kernel_rfl) (fun x y h => (show V.evBody laws_szSignedS.E laws_szSignedS.con Try.f45 x = _ from laws_szSignedS.eq x.1 x.2).trans h)
noncomputable abbrev laws_szStringS.con : V.Con := ⟨(.cons (.sl (.cons .str .nil)) (.cons (.int .i64) .nil)), (.cons (.int .i64) .nil), fun (x : List ByteArray × Int) => laws_szStringS x.1 x.2, [], [(false, 1), (false, 1)], [(false, 1)], [false], []⟩
noncomputable abbrev laws_szStringS.E : V.Env := V.mkE V.tys [] [(10, [0, 1, 5], [])] [] [] []
noncomputable abbrev laws_szStringS.kt (x0 : List ByteArray) (x1 : Int) : V.Kt Int := V.ktOf laws_szStringS.E laws_szStringS.con Try.f156 ((x0, x1) : List ByteArray × Int)
noncomputable abbrev laws_szStringS.s10 (x0 : List ByteArray) (v10_1 : Int) (v10_2 : Int) : V.St := ⟨[(0, .v false [.val (.sl (.cons .str .nil) x0)]), (1, .v false [.val (.int .i64 v10_1)]), (5, .v false [.val (.int .i64 v10_2)])], []⟩
theorem laws_szStringS.r10 (x0 : List ByteArray) (x1 : Int) (R : V.St → Option Int) (v10_1 : Int) (v10_2 : Int) : V.loopF laws_szStringS.E Try.f156.ntmps [1, 1, 1, 0, 1, 0] [] (V.codeOf Try.f156) (laws_szStringS.kt x0 x1) R (laws_szStringS.s10 x0 v10_1 v10_2) = laws_szStringS.g10 x0 (fun v10_1 v10_2 => R (laws_szStringS.s10 x0 v10_1 v10_2)) v10_1 v10_2 := by kernel_rfl
theorem laws_szStringS.e10 (x0 : List ByteArray) (x1 : Int) : ∀ (n : Nat) (v10_1 : Int) (v10_2 : Int), V.loopN (V.loopF laws_szStringS.E Try.f156.ntmps [1, 1, 1, 0, 1, 0] [] (V.codeOf Try.f156) (laws_szStringS.kt x0 x1)) n (laws_szStringS.s10 x0 v10_1 v10_2) = laws_szStringS.l10 x0 n v10_1 v10_2 := by
  intro n
  induction n with
  | zero => intros; rfl
  | succ n ih =>
    intro v10_1 v10_2
    show V.loopF laws_szStringS.E Try.f156.ntmps [1, 1, 1, 0, 1, 0] [] (V.codeOf Try.f156) (laws_szStringS.kt x0 x1) (V.loopN (V.loopF laws_szStringS.E Try.f156.ntmps [1, 1, 1, 0, 1, 0] [] (V.codeOf Try.f156) (laws_szStringS.kt x0 x1)) n) (laws_szStringS.s10 x0 v10_1 v10_2) = _
    rw [laws_szStringS.r10]
    simp only [ih]
    rfl
theorem laws_szStringS.v (x0 : List ByteArray) (x1 : Int) : V.evBody laws_szStringS.E laws_szStringS.con Try.f156 ((x0, x1) : List ByteArray × Int) = laws_szStringS.b x0 x1 (fun v10_1 v10_2 => V.loopN (V.loopF laws_szStringS.E Try.f156.ntmps [1, 1, 1, 0, 1, 0] [] (V.codeOf Try.f156) (laws_szStringS.kt x0 x1)) V.KK (laws_szStringS.s10 x0 v10_1 v10_2)) := by kernel_rfl
theorem laws_szStringS.eq (x0 : List ByteArray) (x1 : Int) : V.evBody laws_szStringS.E laws_szStringS.con Try.f156 ((x0, x1) : List ByteArray × Int) = laws_szStringS x0 x1 := by
  rw [laws_szStringS.v]
  simp only [laws_szStringS.e10]
  rfl
theorem laws_szStringS.ok : V.Valid Try.prog 156 laws_szStringS.con :=
  V.body_ok (V.env_ok V.mixed V.tysOk V.tab_nil) Try.func156 (by kernel_rfl) (by kernel_rfl) (by kernel_rfl) (fun x y h => (show V.evBody laws_szStringS.E laws_szStringS.con Try.f156 x = _ from laws_szStringS.eq x.1 x.2).trans h)
noncomputable abbrev laws_szEntry.con : V.Con := ⟨(.cons .str (.cons (.int .i64) (.cons (.int .i64) (.cons (.sl (.cons .str .nil)) (.cons (.int .i64) .nil))))), (.cons (.int .i64) .nil), fun (x : ByteArray × Int × Int × List ByteArray × Int) => laws_szEntry (x.1, x.2.1, x.2.2.1, x.2.2.2.1) x.2.2.2.2, [], [(true, 4), (false, 1)], [(false, 1)], [false], []⟩
noncomputable abbrev laws_szEntry.E : V.Env := V.mkE V.tys [(156, laws_szStringS.con)] [] [] [] []
noncomputable abbrev laws_szEntry.kt (x0 : TEntry) (x1 : Int) : V.Kt Int := V.ktOf laws_szEntry.E laws_szEntry.con Try.f103 ((x0.1, x0.2.1, x0.2.2.1, x0.2.2.2, x1) : ByteArray × Int × Int × List ByteArray × Int)
theorem laws_szEntry.eq (x0 : TEntry) (x1 : Int) : V.evBody laws_szEntry.E laws_szEntry.con Try.f103 ((x0.1, x0.2.1, x0.2.2.1, x0.2.2.2, x1) : ByteArray × Int × Int × List ByteArray × Int) = laws_szEntry x0 x1 := by kernel_rfl
theorem laws_szEntry.ok : V.Valid Try.prog 103 laws_szEntry.con :=
  V.body_ok (V.env_ok V.mixed V.tysOk (V.tab_cons laws_szStringS.ok V.tab_nil)) Try.func103 (by kernel_rfl) (by kernel_rfl) (by kernel_rfl) (fun x y h => (show V.evBody laws_szEntry.E laws_szEntry.con Try.f103 x = _ from laws_szEntry.eq (x.1, x.2.1, x.2.2.1, x.2.2.2.1) x.2.2.2.2).trans h)
noncomputable abbrev laws_szProof.con : V.Con := ⟨(.cons (.int .i64) (.cons (.sl (.cons (.int .i64) .nil)) (.cons (.int .i64) .nil))), (.cons (.int .i64) .nil), fun (x : Int × List Int × Int) => laws_szProof (x.1, x.2.1) x.2.2, [], [(true, 2), (false, 1)], [(false, 1)], [false], []⟩
noncomputable abbrev laws_szProof.E : V.Env := V.mkE V.tys [(72, laws_szIntS.con)] [] [] [] []
noncomputable abbrev laws_szProof.kt (x0 : TProof) (x1 : Int) : V.Kt Int := V.ktOf laws_szProof.E laws_szProof.con Try.f104 ((x0.1, x0.2, x1) : Int × List Int × Int)
theorem laws_szProof.eq (x0 : TProof) (x1 : Int) : V.evBody laws_szProof.E laws_szProof.con Try.f104 ((x0.1, x0.2, x1) : Int × List Int × Int) = laws_szProof x0 x1 := by kernel_rfl
theorem laws_szProof.ok : V.Valid Try.prog 104 laws_szProof.con :=
  V.body_ok (V.env_ok V.mixed V.tysOk (V.tab_cons laws_szIntS.ok V.tab_nil)) Try.func104 (by kernel_rfl) (by kernel_rfl) (by kernel_rfl) (fun x y h => (show V.evBody laws_szProof.E laws_szProof.con Try.f104 x = _ from laws_szProof.eq (x.1, x.2.1) x.2.2).trans h)
noncomputable abbrev laws_szGap.con : V.Con := ⟨V.A2, (.cons (.int .i64) .nil), fun (x : V.D2) => laws_szGap (V.p2_0 x) (V.p2_1 x), [], [(true, 13), (false, 1)], [(false, 1)], [false], []⟩
noncomputable abbrev laws_szGap.E : V.Env := V.mkE V.tys [(103, laws_szEntry.con), (104, laws_szProof.con)] [] [] [] []
noncomputable abbrev laws_szGap.kt (x0 : TGap) (x1 : Int) : V.Kt Int := V.ktOf laws_szGap.E laws_szGap.con Try.f105 (V.fl2 x0 x1)
theorem laws_szGap.eq (x0 : TGap) (x1 : Int) : V.evBody laws_szGap.E laws_szGap.con Try.f105 (V.fl2 x0 x1) = laws_szGap x0 x1 := by kernel_rfl
theorem laws_szGap.ok : V.Valid Try.prog 105 laws_szGap.con :=
  V.body_ok (V.env_ok V.mixed V.tysOk (V.tab_cons laws_szEntry.ok (V.tab_cons laws_szProof.ok V.tab_nil))) Try.func105 (by kernel_rfl) (by kernel_rfl) (by kernel_rfl) (fun x y h => (show V.evBody laws_szGap.E laws_szGap.con Try.f105 x = _ from laws_szGap.eq (V.p2_0 x) (V.p2_1 x)).trans h)
noncomputable abbrev laws_szAnswer.con : V.Con := ⟨V.A3, (.cons (.int .i64) .nil), fun (x : V.D3) => laws_szAnswer (V.p3_0 x) (V.p3_1 x), [], [(true, 21), (false, 1)], [(false, 1)], [false], []⟩
noncomputable abbrev laws_szAnswer.E : V.Env := V.mkE V.tys [(45, laws_szSignedS.con), (103, laws_szEntry.con), (104, laws_szProof.con), (105, laws_szGap.con)] [] [] [] []
noncomputable abbrev laws_szAnswer.kt (x0 : TAnswer) (x1 : Int) : V.Kt Int := V.ktOf laws_szAnswer.E laws_szAnswer.con Try.f40 (V.fl3 x0 x1)
theorem laws_szAnswer.eq (x0 : TAnswer) (x1 : Int) : V.evBody laws_szAnswer.E laws_szAnswer.con Try.f40 (V.fl3 x0 x1) = laws_szAnswer x0 x1 := by kernel_rfl
theorem laws_szAnswer.ok : V.Valid Try.prog 40 laws_szAnswer.con :=
  V.body_ok (V.env_ok V.mixed V.tysOk (V.tab_cons laws_szSignedS.ok (V.tab_cons laws_szEntry.ok (V.tab_cons laws_szProof.ok (V.tab_cons laws_szGap.ok V.tab_nil))))) Try.func40 (by kernel_rfl) (by kernel_rfl) (by kernel_rfl) (fun x y h => (show V.evBody laws_szAnswer.E laws_szAnswer.con Try.f40 x = _ from laws_szAnswer.eq (V.p3_0 x) (V.p3_1 x)).trans h)
noncomputable abbrev laws_toIntS.con : V.Con := ⟨(.cons (.sl (.cons (.int .i64) .nil)) .nil), (.cons (.sl (.cons (.int .i64) .nil)) .nil), fun (x : List Int) => laws_toIntS x, [], [(false, 1)], [(false, 1)], [true], []⟩
noncomputable abbrev laws_toIntS.E : V.Env := V.mkE V.tys [] [(6, [0, 3, 4], [])] [] [] []
noncomputable abbrev laws_toIntS.kt (x0 : List Int) : V.Kt (List Int) := V.ktOf laws_toIntS.E laws_toIntS.con Try.f76 ((x0) : List Int)
noncomputable abbrev laws_toIntS.s6 (x0 : List Int) (v6_1 : Int) (v6_2 : List Int) : V.St := ⟨[(0, .v false [.val (.sl (.cons (.int .i64) .nil) x0)]), (3, .v false [.ref 64000038400192]), (4, .v false [.val (.int .i64 v6_1)])], [(64000038400192, .row (.cons (.int .i64) .nil) true v6_2)]⟩
theorem laws_toIntS.r6 (x0 : List Int) (R : V.St → Option (List Int)) (v6_1 : Int) (v6_2 : List Int) : V.loopF laws_toIntS.E Try.f76.ntmps [1, 1, 0, 1, 0] [] (V.codeOf Try.f76) (laws_toIntS.kt x0) R (laws_toIntS.s6 x0 v6_1 v6_2) = laws_toIntS.g6 x0 (fun v6_1 v6_2 => R (laws_toIntS.s6 x0 v6_1 v6_2)) v6_1 v6_2 := by kernel_rfl
theorem laws_toIntS.e6 (x0 : List Int) : ∀ (n : Nat) (v6_1 : Int) (v6_2 : List Int), V.loopN (V.loopF laws_toIntS.E Try.f76.ntmps [1, 1, 0, 1, 0] [] (V.codeOf Try.f76) (laws_toIntS.kt x0)) n (laws_toIntS.s6 x0 v6_1 v6_2) = laws_toIntS.l6 x0 n v6_1 v6_2 := by
  intro n
  induction n with
  | zero => intros; rfl
  | succ n ih =>
    intro v6_1 v6_2
    show V.loopF laws_toIntS.E Try.f76.ntmps [1, 1, 0, 1, 0] [] (V.codeOf Try.f76) (laws_toIntS.kt x0) (V.loopN (V.loopF laws_toIntS.E Try.f76.ntmps [1, 1, 0, 1, 0] [] (V.codeOf Try.f76) (laws_toIntS.kt x0)) n) (laws_toIntS.s6 x0 v6_1 v6_2) = _
    rw [laws_toIntS.r6]
    simp only [ih]
    rfl
theorem laws_toIntS.v (x0 : List Int) : V.evBody laws_toIntS.E laws_toIntS.con Try.f76 ((x0) : List Int) = laws_toIntS.b x0 (fun v6_1 v6_2 => V.loopN (V.loopF laws_toIntS.E Try.f76.ntmps [1, 1, 0, 1, 0] [] (V.codeOf Try.f76) (laws_toIntS.kt x0)) V.KK (laws_toIntS.s6 x0 v6_1 v6_2)) := by kernel_rfl
theorem laws_toIntS.eq (x0 : List Int) : V.evBody laws_toIntS.E laws_toIntS.con Try.f76 ((x0) : List Int) = laws_toIntS x0 := by
  rw [laws_toIntS.v]
  simp only [laws_toIntS.e6]
  rfl
theorem laws_toIntS.ok : V.Valid Try.prog 76 laws_toIntS.con :=
  V.body_ok (V.env_ok V.mixed V.tysOk V.tab_nil) Try.func76 (by kernel_rfl) (by kernel_rfl) (by kernel_rfl) (fun x y h => (show V.evBody laws_toIntS.E laws_toIntS.con Try.f76 x = _ from laws_toIntS.eq x).trans h)
noncomputable abbrev laws_toKeys.con : V.Con := ⟨(.cons (.sl (.cons (.int .i64) .nil)) (.cons (.int .i64) .nil)), (.cons (.sl (.cons (.int .i64) .nil)) (.cons (.int .i64) .nil)), fun (x : List Int × Int) => laws_toKeys x, [], [(true, 2)], [(true, 2)], [true, false], []⟩
noncomputable abbrev laws_toKeys.E : V.Env := V.mkE V.tys [(76, laws_toIntS.con)] [] [] [] []
noncomputable abbrev laws_toKeys.kt (x0 : TKeys) : V.Kt TKeys := V.ktOf laws_toKeys.E laws_toKeys.con Try.f19 ((x0.1, x0.2) : List Int × Int)
theorem laws_toKeys.eq (x0 : TKeys) : V.evBody laws_toKeys.E laws_toKeys.con Try.f19 ((x0.1, x0.2) : List Int × Int) = laws_toKeys x0 := by kernel_rfl
theorem laws_toKeys.ok : V.Valid Try.prog 19 laws_toKeys.con :=
  V.body_ok (V.env_ok V.mixed V.tysOk (V.tab_cons laws_toIntS.ok V.tab_nil)) Try.func19 (by kernel_rfl) (by kernel_rfl) (by kernel_rfl) (fun x y h => (show V.evBody laws_toKeys.E laws_toKeys.con Try.f19 x = _ from laws_toKeys.eq x).trans h)
noncomputable abbrev laws_toHead.con : V.Con := ⟨V.A4, V.eHead, fun (x : V.D4) => laws_toHead (V.p4_0 x), [], [(true, 16)], [(true, 16)], [false, false, false, false, false, false, false, false, true, false, true, false, false, true, false, false], []⟩
noncomputable abbrev laws_toHead.E : V.Env := V.mkE V.tys [(19, laws_toKeys.con)] [] [] [] []
noncomputable abbrev laws_toHead.kt (x0 : THead) : V.Kt THead := V.ktOf laws_toHead.E laws_toHead.con Try.f18 (V.fl4 x0)
theorem laws_toHead.eq (x0 : THead) : V.evBody laws_toHead.E laws_toHead.con Try.f18 (V.fl4 x0) = laws_toHead x0 := by kernel_rfl
theorem laws_toHead.ok : V.Valid Try.prog 18 laws_toHead.con :=
  V.body_ok (V.env_ok V.mixed V.tysOk (V.tab_cons laws_toKeys.ok V.tab_nil)) Try.func18 (by kernel_rfl) (by kernel_rfl) (by kernel_rfl) (fun x y h => (show V.evBody laws_toHead.E laws_toHead.con Try.f18 x = _ from laws_toHead.eq (V.p4_0 x)).trans h)
noncomputable abbrev laws_toSig.con : V.Con := ⟨(.cons (.int .i64) (.cons (.int .i64) .nil)), (.cons (.int .i64) (.cons (.int .i64) .nil)), fun (x : Int × Int) => laws_toSig x, [], [(true, 2)], [(true, 2)], [false, false], []⟩
noncomputable abbrev laws_toSig.E : V.Env := V.mkE V.tys [] [] [] [] []
noncomputable abbrev laws_toSig.kt (x0 : TSig) : V.Kt TSig := V.ktOf laws_toSig.E laws_toSig.con Try.f190 ((x0.1, x0.2) : Int × Int)
theorem laws_toSig.eq (x0 : TSig) : V.evBody laws_toSig.E laws_toSig.con Try.f190 ((x0.1, x0.2) : Int × Int) = laws_toSig x0 := by kernel_rfl
theorem laws_toSig.ok : V.Valid Try.prog 190 laws_toSig.con :=
  V.body_ok (V.env_ok V.mixed V.tysOk V.tab_nil) Try.func190 (by kernel_rfl) (by kernel_rfl) (by kernel_rfl) (fun x y h => (show V.evBody laws_toSig.E laws_toSig.con Try.f190 x = _ from laws_toSig.eq x).trans h)
noncomputable abbrev laws_toSigS.con : V.Con := ⟨(.cons (.sl (.cons (.int .i64) (.cons (.int .i64) .nil))) .nil), (.cons (.sl (.cons (.int .i64) (.cons (.int .i64) .nil))) .nil), fun (x : List TSig) => laws_toSigS x, [], [(false, 1)], [(false, 1)], [true], []⟩
noncomputable abbrev laws_toSigS.E : V.Env := V.mkE V.tys [(190, laws_toSig.con)] [(6, [0, 3, 4], [])] [] [] []
noncomputable abbrev laws_toSigS.kt (x0 : List TSig) : V.Kt (List TSig) := V.ktOf laws_toSigS.E laws_toSigS.con Try.f161 ((x0) : List TSig)
noncomputable abbrev laws_toSigS.s6 (x0 : List TSig) (v6_1 : Int) (v6_2 : List TSig) : V.St := ⟨[(0, .v false [.val (.sl (.cons (.int .i64) (.cons (.int .i64) .nil)) x0)]), (3, .v false [.ref 64000038400192]), (4, .v false [.val (.int .i64 v6_1)])], [(64000038400192, .row (.cons (.int .i64) (.cons (.int .i64) .nil)) true v6_2)]⟩
theorem laws_toSigS.r6 (x0 : List TSig) (R : V.St → Option (List TSig)) (v6_1 : Int) (v6_2 : List TSig) : V.loopF laws_toSigS.E Try.f161.ntmps [1, 1, 0, 1, 0] [] (V.codeOf Try.f161) (laws_toSigS.kt x0) R (laws_toSigS.s6 x0 v6_1 v6_2) = laws_toSigS.g6 x0 (fun v6_1 v6_2 => R (laws_toSigS.s6 x0 v6_1 v6_2)) v6_1 v6_2 := by kernel_rfl
theorem laws_toSigS.e6 (x0 : List TSig) : ∀ (n : Nat) (v6_1 : Int) (v6_2 : List TSig), V.loopN (V.loopF laws_toSigS.E Try.f161.ntmps [1, 1, 0, 1, 0] [] (V.codeOf Try.f161) (laws_toSigS.kt x0)) n (laws_toSigS.s6 x0 v6_1 v6_2) = laws_toSigS.l6 x0 n v6_1 v6_2 := by
  intro n
  induction n with
  | zero => intros; rfl
  | succ n ih =>
    intro v6_1 v6_2
    show V.loopF laws_toSigS.E Try.f161.ntmps [1, 1, 0, 1, 0] [] (V.codeOf Try.f161) (laws_toSigS.kt x0) (V.loopN (V.loopF laws_toSigS.E Try.f161.ntmps [1, 1, 0, 1, 0] [] (V.codeOf Try.f161) (laws_toSigS.kt x0)) n) (laws_toSigS.s6 x0 v6_1 v6_2) = _
    rw [laws_toSigS.r6]
    simp only [ih]
    rfl
theorem laws_toSigS.v (x0 : List TSig) : V.evBody laws_toSigS.E laws_toSigS.con Try.f161 ((x0) : List TSig) = laws_toSigS.b x0 (fun v6_1 v6_2 => V.loopN (V.loopF laws_toSigS.E Try.f161.ntmps [1, 1, 0, 1, 0] [] (V.codeOf Try.f161) (laws_toSigS.kt x0)) V.KK (laws_toSigS.s6 x0 v6_1 v6_2)) := by kernel_rfl
theorem laws_toSigS.eq (x0 : List TSig) : V.evBody laws_toSigS.E laws_toSigS.con Try.f161 ((x0) : List TSig) = laws_toSigS x0 := by
  rw [laws_toSigS.v]
  simp only [laws_toSigS.e6]
  rfl
theorem laws_toSigS.ok : V.Valid Try.prog 161 laws_toSigS.con :=
  V.body_ok (V.env_ok V.mixed V.tysOk (V.tab_cons laws_toSig.ok V.tab_nil)) Try.func161 (by kernel_rfl) (by kernel_rfl) (by kernel_rfl) (fun x y h => (show V.evBody laws_toSigS.E laws_toSigS.con Try.f161 x = _ from laws_toSigS.eq x).trans h)
noncomputable abbrev laws_toSigned.con : V.Con := ⟨V.A5, V.eSigned, fun (x : V.D5) => laws_toSigned (V.p5_0 x), [], [(true, 17)], [(true, 17)], [false, false, false, false, false, false, false, false, true, false, true, false, false, true, false, false, true], []⟩
noncomputable abbrev laws_toSigned.E : V.Env := V.mkE V.tys [(18, laws_toHead.con), (161, laws_toSigS.con)] [] [] [] []
noncomputable abbrev laws_toSigned.kt (x0 : TSigned) : V.Kt TSigned := V.ktOf laws_toSigned.E laws_toSigned.con Try.f120 (V.fl5 x0)
theorem laws_toSigned.eq (x0 : TSigned) : V.evBody laws_toSigned.E laws_toSigned.con Try.f120 (V.fl5 x0) = laws_toSigned x0 := by kernel_rfl
theorem laws_toSigned.ok : V.Valid Try.prog 120 laws_toSigned.con :=
  V.body_ok (V.env_ok V.mixed V.tysOk (V.tab_cons laws_toHead.ok (V.tab_cons laws_toSigS.ok V.tab_nil))) Try.func120 (by kernel_rfl) (by kernel_rfl) (by kernel_rfl) (fun x y h => (show V.evBody laws_toSigned.E laws_toSigned.con Try.f120 x = _ from laws_toSigned.eq (V.p5_0 x)).trans h)
noncomputable abbrev laws_toSignedS.con : V.Con := ⟨(.cons (.sl V.eSigned) .nil), (.cons (.sl V.eSigned) .nil), fun (x : List TSigned) => laws_toSignedS x, [], [(false, 1)], [(false, 1)], [true], []⟩
noncomputable abbrev laws_toSignedS.E : V.Env := V.mkE V.tys [(120, laws_toSigned.con)] [(6, [0, 3, 4], [])] [] [] []
noncomputable abbrev laws_toSignedS.kt (x0 : List TSigned) : V.Kt (List TSigned) := V.ktOf laws_toSignedS.E laws_toSignedS.con Try.f47 ((x0) : List TSigned)
noncomputable abbrev laws_toSignedS.s6 (x0 : List TSigned) (v6_1 : Int) (v6_2 : List TSigned) : V.St := ⟨[(0, .v false [.val (.sl V.eSigned x0)]), (3, .v false [.ref 64000038400192]), (4, .v false [.val (.int .i64 v6_1)])], [(64000038400192, .row V.eSigned true v6_2)]⟩
theorem laws_toSignedS.r6 (x0 : List TSigned) (R : V.St → Option (List TSigned)) (v6_1 : Int) (v6_2 : List TSigned) : V.loopF laws_toSignedS.E Try.f47.ntmps [1, 1, 0, 1, 0] [] (V.codeOf Try.f47) (laws_toSignedS.kt x0) R (laws_toSignedS.s6 x0 v6_1 v6_2) = laws_toSignedS.g6 x0 (fun v6_1 v6_2 => R (laws_toSignedS.s6 x0 v6_1 v6_2)) v6_1 v6_2 := by kernel_rfl
theorem laws_toSignedS.e6 (x0 : List TSigned) : ∀ (n : Nat) (v6_1 : Int) (v6_2 : List TSigned), V.loopN (V.loopF laws_toSignedS.E Try.f47.ntmps [1, 1, 0, 1, 0] [] (V.codeOf Try.f47) (laws_toSignedS.kt x0)) n (laws_toSignedS.s6 x0 v6_1 v6_2) = laws_toSignedS.l6 x0 n v6_1 v6_2 := by
  intro n
  induction n with
  | zero => intros; rfl
  | succ n ih =>
    intro v6_1 v6_2
    show V.loopF laws_toSignedS.E Try.f47.ntmps [1, 1, 0, 1, 0] [] (V.codeOf Try.f47) (laws_toSignedS.kt x0) (V.loopN (V.loopF laws_toSignedS.E Try.f47.ntmps [1, 1, 0, 1, 0] [] (V.codeOf Try.f47) (laws_toSignedS.kt x0)) n) (laws_toSignedS.s6 x0 v6_1 v6_2) = _
    rw [laws_toSignedS.r6]
    simp only [ih]
    rfl
theorem laws_toSignedS.v (x0 : List TSigned) : V.evBody laws_toSignedS.E laws_toSignedS.con Try.f47 ((x0) : List TSigned) = laws_toSignedS.b x0 (fun v6_1 v6_2 => V.loopN (V.loopF laws_toSignedS.E Try.f47.ntmps [1, 1, 0, 1, 0] [] (V.codeOf Try.f47) (laws_toSignedS.kt x0)) V.KK (laws_toSignedS.s6 x0 v6_1 v6_2)) := by kernel_rfl
theorem laws_toSignedS.eq (x0 : List TSigned) : V.evBody laws_toSignedS.E laws_toSignedS.con Try.f47 ((x0) : List TSigned) = laws_toSignedS x0 := by
  rw [laws_toSignedS.v]
  simp only [laws_toSignedS.e6]
  rfl
theorem laws_toSignedS.ok : V.Valid Try.prog 47 laws_toSignedS.con :=
  V.body_ok (V.env_ok V.mixed V.tysOk (V.tab_cons laws_toSigned.ok V.tab_nil)) Try.func47 (by kernel_rfl) (by kernel_rfl) (by kernel_rfl) (fun x y h => (show V.evBody laws_toSignedS.E laws_toSignedS.con Try.f47 x = _ from laws_toSignedS.eq x).trans h)
noncomputable abbrev laws_toStringS.con : V.Con := ⟨(.cons (.sl (.cons .str .nil)) .nil), (.cons (.sl (.cons .str .nil)) .nil), fun (x : List ByteArray) => laws_toStringS x, [], [(false, 1)], [(false, 1)], [true], []⟩
noncomputable abbrev laws_toStringS.E : V.Env := V.mkE V.tys [] [(6, [0, 3, 4], [])] [] [] []
noncomputable abbrev laws_toStringS.kt (x0 : List ByteArray) : V.Kt (List ByteArray) := V.ktOf laws_toStringS.E laws_toStringS.con Try.f158 ((x0) : List ByteArray)
noncomputable abbrev laws_toStringS.s6 (x0 : List ByteArray) (v6_1 : Int) (v6_2 : List ByteArray) : V.St := ⟨[(0, .v false [.val (.sl (.cons .str .nil) x0)]), (3, .v false [.ref 64000038400192]), (4, .v false [.val (.int .i64 v6_1)])], [(64000038400192, .row (.cons .str .nil) true v6_2)]⟩
theorem laws_toStringS.r6 (x0 : List ByteArray) (R : V.St → Option (List ByteArray)) (v6_1 : Int) (v6_2 : List ByteArray) : V.loopF laws_toStringS.E Try.f158.ntmps [1, 1, 0, 1, 0] [] (V.codeOf Try.f158) (laws_toStringS.kt x0) R (laws_toStringS.s6 x0 v6_1 v6_2) = laws_toStringS.g6 x0 (fun v6_1 v6_2 => R (laws_toStringS.s6 x0 v6_1 v6_2)) v6_1 v6_2 := by kernel_rfl
theorem laws_toStringS.e6 (x0 : List ByteArray) : ∀ (n : Nat) (v6_1 : Int) (v6_2 : List ByteArray), V.loopN (V.loopF laws_toStringS.E Try.f158.ntmps [1, 1, 0, 1, 0] [] (V.codeOf Try.f158) (laws_toStringS.kt x0)) n (laws_toStringS.s6 x0 v6_1 v6_2) = laws_toStringS.l6 x0 n v6_1 v6_2 := by
  intro n
  induction n with
  | zero => intros; rfl
  | succ n ih =>
    intro v6_1 v6_2
    show V.loopF laws_toStringS.E Try.f158.ntmps [1, 1, 0, 1, 0] [] (V.codeOf Try.f158) (laws_toStringS.kt x0) (V.loopN (V.loopF laws_toStringS.E Try.f158.ntmps [1, 1, 0, 1, 0] [] (V.codeOf Try.f158) (laws_toStringS.kt x0)) n) (laws_toStringS.s6 x0 v6_1 v6_2) = _
    rw [laws_toStringS.r6]
    simp only [ih]
    rfl
theorem laws_toStringS.v (x0 : List ByteArray) : V.evBody laws_toStringS.E laws_toStringS.con Try.f158 ((x0) : List ByteArray) = laws_toStringS.b x0 (fun v6_1 v6_2 => V.loopN (V.loopF laws_toStringS.E Try.f158.ntmps [1, 1, 0, 1, 0] [] (V.codeOf Try.f158) (laws_toStringS.kt x0)) V.KK (laws_toStringS.s6 x0 v6_1 v6_2)) := by kernel_rfl
theorem laws_toStringS.eq (x0 : List ByteArray) : V.evBody laws_toStringS.E laws_toStringS.con Try.f158 ((x0) : List ByteArray) = laws_toStringS x0 := by
  rw [laws_toStringS.v]
  simp only [laws_toStringS.e6]
  rfl
theorem laws_toStringS.ok : V.Valid Try.prog 158 laws_toStringS.con :=
  V.body_ok (V.env_ok V.mixed V.tysOk V.tab_nil) Try.func158 (by kernel_rfl) (by kernel_rfl) (by kernel_rfl) (fun x y h => (show V.evBody laws_toStringS.E laws_toStringS.con Try.f158 x = _ from laws_toStringS.eq x).trans h)
noncomputable abbrev laws_toEntry.con : V.Con := ⟨V.eEntry, V.eEntry, fun (x : ByteArray × Int × Int × List ByteArray) => laws_toEntry x, [], [(true, 4)], [(true, 4)], [false, false, false, true], []⟩
noncomputable abbrev laws_toEntry.E : V.Env := V.mkE V.tys [(158, laws_toStringS.con)] [] [] [] []
noncomputable abbrev laws_toEntry.kt (x0 : TEntry) : V.Kt TEntry := V.ktOf laws_toEntry.E laws_toEntry.con Try.f109 ((x0.1, x0.2.1, x0.2.2.1, x0.2.2.2) : ByteArray × Int × Int × List ByteArray)
theorem laws_toEntry.eq (x0 : TEntry) : V.evBody laws_toEntry.E laws_toEntry.con Try.f109 ((x0.1, x0.2.1, x0.2.2.1, x0.2.2.2) : ByteArray × Int × Int × List ByteArray) = laws_toEntry x0 := by kernel_rfl
theorem laws_toEntry.ok : V.Valid Try.prog 109 laws_toEntry.con :=
  V.body_ok (V.env_ok V.mixed V.tysOk (V.tab_cons laws_toStringS.ok V.tab_nil)) Try.func109 (by kernel_rfl) (by kernel_rfl) (by kernel_rfl) (fun x y h => (show V.evBody laws_toEntry.E laws_toEntry.con Try.f109 x = _ from laws_toEntry.eq x).trans h)
noncomputable abbrev laws_toProof.con : V.Con := ⟨(.cons (.int .i64) (.cons (.sl (.cons (.int .i64) .nil)) .nil)), (.cons (.int .i64) (.cons (.sl (.cons (.int .i64) .nil)) .nil)), fun (x : Int × List Int) => laws_toProof x, [], [(true, 2)], [(true, 2)], [false, true], []⟩
noncomputable abbrev laws_toProof.E : V.Env := V.mkE V.tys [(76, laws_toIntS.con)] [] [] [] []
noncomputable abbrev laws_toProof.kt (x0 : TProof) : V.Kt TProof := V.ktOf laws_toProof.E laws_toProof.con Try.f110 ((x0.1, x0.2) : Int × List Int)
theorem laws_toProof.eq (x0 : TProof) : V.evBody laws_toProof.E laws_toProof.con Try.f110 ((x0.1, x0.2) : Int × List Int) = laws_toProof x0 := by kernel_rfl
theorem laws_toProof.ok : V.Valid Try.prog 110 laws_toProof.con :=
  V.body_ok (V.env_ok V.mixed V.tysOk (V.tab_cons laws_toIntS.ok V.tab_nil)) Try.func110 (by kernel_rfl) (by kernel_rfl) (by kernel_rfl) (fun x y h => (show V.evBody laws_toProof.E laws_toProof.con Try.f110 x = _ from laws_toProof.eq x).trans h)
noncomputable abbrev laws_toGap.con : V.Con := ⟨V.A6, V.eGap, fun (x : V.D6) => laws_toGap (V.p6_0 x), [], [(true, 13)], [(true, 13)], [false, false, false, false, true, false, false, false, true, false, true, false, true], []⟩
noncomputable abbrev laws_toGap.E : V.Env := V.mkE V.tys [(109, laws_toEntry.con), (110, laws_toProof.con)] [] [] [] []
noncomputable abbrev laws_toGap.kt (x0 : TGap) : V.Kt TGap := V.ktOf laws_toGap.E laws_toGap.con Try.f111 (V.fl6 x0)
theorem laws_toGap.eq (x0 : TGap) : V.evBody laws_toGap.E laws_toGap.con Try.f111 (V.fl6 x0) = laws_toGap x0 := by kernel_rfl
theorem laws_toGap.ok : V.Valid Try.prog 111 laws_toGap.con :=
  V.body_ok (V.env_ok V.mixed V.tysOk (V.tab_cons laws_toEntry.ok (V.tab_cons laws_toProof.ok V.tab_nil))) Try.func111 (by kernel_rfl) (by kernel_rfl) (by kernel_rfl) (fun x y h => (show V.evBody laws_toGap.E laws_toGap.con Try.f111 x = _ from laws_toGap.eq (V.p6_0 x)).trans h)
noncomputable abbrev laws_toAnswer.con : V.Con := ⟨V.A7, V.eAnswer, fun (x : V.D7) => laws_toAnswer (V.p7_0 x), [], [(true, 21)], [(true, 21)], [true, false, false, false, false, true, false, true, false, false, false, false, true, false, false, false, true, false, true, false, true], []⟩
noncomputable abbrev laws_toAnswer.E : V.Env := V.mkE V.tys [(47, laws_toSignedS.con), (109, laws_toEntry.con), (110, laws_toProof.con), (111, laws_toGap.con)] [] [] [] []
noncomputable abbrev laws_toAnswer.kt (x0 : TAnswer) : V.Kt TAnswer := V.ktOf laws_toAnswer.E laws_toAnswer.con Try.f42 (V.fl7 x0)
theorem laws_toAnswer.eq (x0 : TAnswer) : V.evBody laws_toAnswer.E laws_toAnswer.con Try.f42 (V.fl7 x0) = laws_toAnswer x0 := by kernel_rfl
theorem laws_toAnswer.ok : V.Valid Try.prog 42 laws_toAnswer.con :=
  V.body_ok (V.env_ok V.mixed V.tysOk (V.tab_cons laws_toSignedS.ok (V.tab_cons laws_toEntry.ok (V.tab_cons laws_toProof.ok (V.tab_cons laws_toGap.ok V.tab_nil))))) Try.func42 (by kernel_rfl) (by kernel_rfl) (by kernel_rfl) (fun x y h => (show V.evBody laws_toAnswer.E laws_toAnswer.con Try.f42 x = _ from laws_toAnswer.eq (V.p7_0 x)).trans h)
noncomputable abbrev spec_SamePath.con : V.Con := ⟨(.cons (.sl (.cons .str .nil)) (.cons (.sl (.cons .str .nil)) .nil)), (.cons .bool .nil), fun (x : List ByteArray × List ByteArray) => spec_SamePath x.1 x.2, [], [(false, 1), (false, 1)], [(false, 1)], [false], []⟩
noncomputable abbrev spec_SamePath.E : V.Env := V.mkE V.tys [] [(8, [0, 1, 5], [])] [(6, 8)] [] []
noncomputable abbrev spec_SamePath.kt (x0 : List ByteArray) (x1 : List ByteArray) : V.Kt Bool := V.ktOf spec_SamePath.E spec_SamePath.con Try.f157 ((x0, x1) : List ByteArray × List ByteArray)
noncomputable abbrev spec_SamePath.s8 (x0 : List ByteArray) (x1 : List ByteArray) (v8_2 : Int) : V.St := ⟨[(0, .v false [.val (.sl (.cons .str .nil) x0)]), (1, .v false [.val (.sl (.cons .str .nil) x1)]), (5, .v false [.val (.int .i64 v8_2)])], []⟩
theorem spec_SamePath.r8 (x0 : List ByteArray) (x1 : List ByteArray) (R : V.St → Option Bool) (v8_2 : Int) : V.loopF spec_SamePath.E Try.f157.ntmps [1, 1, 0, 1, 0] [] (V.codeOf Try.f157) (spec_SamePath.kt x0 x1) R (spec_SamePath.s8 x0 x1 v8_2) = spec_SamePath.g8 x0 x1 (fun v8_2 => R (spec_SamePath.s8 x0 x1 v8_2)) v8_2 := by kernel_rfl
theorem spec_SamePath.e8 (x0 : List ByteArray) (x1 : List ByteArray) : ∀ (n : Nat) (v8_2 : Int), V.loopN (V.loopF spec_SamePath.E Try.f157.ntmps [1, 1, 0, 1, 0] [] (V.codeOf Try.f157) (spec_SamePath.kt x0 x1)) n (spec_SamePath.s8 x0 x1 v8_2) = spec_SamePath.l8 x0 x1 n v8_2 := by
  intro n
  induction n with
  | zero => intros; rfl
  | succ n ih =>
    intro v8_2
    show V.loopF spec_SamePath.E Try.f157.ntmps [1, 1, 0, 1, 0] [] (V.codeOf Try.f157) (spec_SamePath.kt x0 x1) (V.loopN (V.loopF spec_SamePath.E Try.f157.ntmps [1, 1, 0, 1, 0] [] (V.codeOf Try.f157) (spec_SamePath.kt x0 x1)) n) (spec_SamePath.s8 x0 x1 v8_2) = _
    rw [spec_SamePath.r8]
    simp only [ih]
    rfl
theorem spec_SamePath.v (x0 : List ByteArray) (x1 : List ByteArray) : V.evBody spec_SamePath.E spec_SamePath.con Try.f157 ((x0, x1) : List ByteArray × List ByteArray) = spec_SamePath.b x0 x1 (fun v8_2 => V.loopN (V.loopF spec_SamePath.E Try.f157.ntmps [1, 1, 0, 1, 0] [] (V.codeOf Try.f157) (spec_SamePath.kt x0 x1)) V.KK (spec_SamePath.s8 x0 x1 v8_2)) := by kernel_rfl
theorem spec_SamePath.eq (x0 : List ByteArray) (x1 : List ByteArray) : V.evBody spec_SamePath.E spec_SamePath.con Try.f157 ((x0, x1) : List ByteArray × List ByteArray) = spec_SamePath x0 x1 := by
  rw [spec_SamePath.v]
  simp only [spec_SamePath.e8]
  rfl
theorem spec_SamePath.ok : V.Valid Try.prog 157 spec_SamePath.con :=
  V.body_ok (V.env_ok V.mixed V.tysOk V.tab_nil) Try.func157 (by kernel_rfl) (by kernel_rfl) (by kernel_rfl) (fun x y h => (show V.evBody spec_SamePath.E spec_SamePath.con Try.f157 x = _ from spec_SamePath.eq x.1 x.2).trans h)
noncomputable abbrev spec_EqualEntries.con : V.Con := ⟨(.cons .str (.cons (.int .i64) (.cons (.int .i64) (.cons (.sl (.cons .str .nil)) (.cons .str (.cons (.int .i64) (.cons (.int .i64) (.cons (.sl (.cons .str .nil)) .nil)))))))), (.cons .bool .nil), fun (x : ByteArray × Int × Int × List ByteArray × ByteArray × Int × Int × List ByteArray) => spec_EqualEntries (x.1, x.2.1, x.2.2.1, x.2.2.2.1) x.2.2.2.2, [], [(true, 4), (true, 4)], [(false, 1)], [false], []⟩
noncomputable abbrev spec_EqualEntries.E : V.Env := V.mkE V.tys [(157, spec_SamePath.con)] [] [] [] []
noncomputable abbrev spec_EqualEntries.kt (x0 : TEntry) (x1 : TEntry) : V.Kt Bool := V.ktOf spec_EqualEntries.E spec_EqualEntries.con Try.f106 ((x0.1, x0.2.1, x0.2.2.1, x0.2.2.2, x1.1, x1.2.1, x1.2.2.1, x1.2.2.2) : ByteArray × Int × Int × List ByteArray × ByteArray × Int × Int × List ByteArray)
theorem spec_EqualEntries.eq (x0 : TEntry) (x1 : TEntry) : V.evBody spec_EqualEntries.E spec_EqualEntries.con Try.f106 ((x0.1, x0.2.1, x0.2.2.1, x0.2.2.2, x1.1, x1.2.1, x1.2.2.1, x1.2.2.2) : ByteArray × Int × Int × List ByteArray × ByteArray × Int × Int × List ByteArray) = spec_EqualEntries x0 x1 := by kernel_rfl
theorem spec_EqualEntries.ok : V.Valid Try.prog 106 spec_EqualEntries.con :=
  V.body_ok (V.env_ok V.mixed V.tysOk (V.tab_cons spec_SamePath.ok V.tab_nil)) Try.func106 (by kernel_rfl) (by kernel_rfl) (by kernel_rfl) (fun x y h => (show V.evBody spec_EqualEntries.E spec_EqualEntries.con Try.f106 x = _ from spec_EqualEntries.eq (x.1, x.2.1, x.2.2.1, x.2.2.2.1) x.2.2.2.2).trans h)
noncomputable abbrev spec_SameEntries.con : V.Con := ⟨(.cons (.sl V.eEntry) (.cons (.sl V.eEntry) .nil)), (.cons .bool .nil), fun (x : List TEntry × List TEntry) => spec_SameEntries x.1 x.2, [], [(false, 1), (false, 1)], [(false, 1)], [false], []⟩
noncomputable abbrev spec_SameEntries.E : V.Env := V.mkE V.tys [(106, spec_EqualEntries.con)] [(8, [0, 1, 5], [])] [(6, 8)] [] []
noncomputable abbrev spec_SameEntries.kt (x0 : List TEntry) (x1 : List TEntry) : V.Kt Bool := V.ktOf spec_SameEntries.E spec_SameEntries.con Try.f150 ((x0, x1) : List TEntry × List TEntry)
noncomputable abbrev spec_SameEntries.s8 (x0 : List TEntry) (x1 : List TEntry) (v8_2 : Int) : V.St := ⟨[(0, .v false [.val (.sl V.eEntry x0)]), (1, .v false [.val (.sl V.eEntry x1)]), (5, .v false [.val (.int .i64 v8_2)])], []⟩
theorem spec_SameEntries.r8 (x0 : List TEntry) (x1 : List TEntry) (R : V.St → Option Bool) (v8_2 : Int) : V.loopF spec_SameEntries.E Try.f150.ntmps [1, 1, 0, 1, 0] [] (V.codeOf Try.f150) (spec_SameEntries.kt x0 x1) R (spec_SameEntries.s8 x0 x1 v8_2) = spec_SameEntries.g8 x0 x1 (fun v8_2 => R (spec_SameEntries.s8 x0 x1 v8_2)) v8_2 := by kernel_rfl
theorem spec_SameEntries.e8 (x0 : List TEntry) (x1 : List TEntry) : ∀ (n : Nat) (v8_2 : Int), V.loopN (V.loopF spec_SameEntries.E Try.f150.ntmps [1, 1, 0, 1, 0] [] (V.codeOf Try.f150) (spec_SameEntries.kt x0 x1)) n (spec_SameEntries.s8 x0 x1 v8_2) = spec_SameEntries.l8 x0 x1 n v8_2 := by
  intro n
  induction n with
  | zero => intros; rfl
  | succ n ih =>
    intro v8_2
    show V.loopF spec_SameEntries.E Try.f150.ntmps [1, 1, 0, 1, 0] [] (V.codeOf Try.f150) (spec_SameEntries.kt x0 x1) (V.loopN (V.loopF spec_SameEntries.E Try.f150.ntmps [1, 1, 0, 1, 0] [] (V.codeOf Try.f150) (spec_SameEntries.kt x0 x1)) n) (spec_SameEntries.s8 x0 x1 v8_2) = _
    rw [spec_SameEntries.r8]
    simp only [ih]
    rfl
theorem spec_SameEntries.v (x0 : List TEntry) (x1 : List TEntry) : V.evBody spec_SameEntries.E spec_SameEntries.con Try.f150 ((x0, x1) : List TEntry × List TEntry) = spec_SameEntries.b x0 x1 (fun v8_2 => V.loopN (V.loopF spec_SameEntries.E Try.f150.ntmps [1, 1, 0, 1, 0] [] (V.codeOf Try.f150) (spec_SameEntries.kt x0 x1)) V.KK (spec_SameEntries.s8 x0 x1 v8_2)) := by kernel_rfl
theorem spec_SameEntries.eq (x0 : List TEntry) (x1 : List TEntry) : V.evBody spec_SameEntries.E spec_SameEntries.con Try.f150 ((x0, x1) : List TEntry × List TEntry) = spec_SameEntries x0 x1 := by
  rw [spec_SameEntries.v]
  simp only [spec_SameEntries.e8]
  rfl
theorem spec_SameEntries.ok : V.Valid Try.prog 150 spec_SameEntries.con :=
  V.body_ok (V.env_ok V.mixed V.tysOk (V.tab_cons spec_EqualEntries.ok V.tab_nil)) Try.func150 (by kernel_rfl) (by kernel_rfl) (by kernel_rfl) (fun x y h => (show V.evBody spec_SameEntries.E spec_SameEntries.con Try.f150 x = _ from spec_SameEntries.eq x.1 x.2).trans h)
noncomputable abbrev spec_KeysInts.con : V.Con := ⟨(.cons (.sl (.cons (.int .i64) .nil)) (.cons (.int .i64) .nil)), (.cons (.sl (.cons (.int .i64) .nil)) .nil), fun (x : List Int × Int) => spec_KeysInts x, [], [(true, 2)], [(false, 1)], [true], []⟩
noncomputable abbrev spec_KeysInts.E : V.Env := V.mkE V.tys [] [] [] [] []
noncomputable abbrev spec_KeysInts.kt (x0 : TKeys) : V.Kt (List Int) := V.ktOf spec_KeysInts.E spec_KeysInts.con Try.f192 ((x0.1, x0.2) : List Int × Int)
theorem spec_KeysInts.eq (x0 : TKeys) : V.evBody spec_KeysInts.E spec_KeysInts.con Try.f192 ((x0.1, x0.2) : List Int × Int) = spec_KeysInts x0 := by kernel_rfl
theorem spec_KeysInts.ok : V.Valid Try.prog 192 spec_KeysInts.con :=
  V.body_ok (V.env_ok V.mixed V.tysOk V.tab_nil) Try.func192 (by kernel_rfl) (by kernel_rfl) (by kernel_rfl) (fun x y h => (show V.evBody spec_KeysInts.E spec_KeysInts.con Try.f192 x = _ from spec_KeysInts.eq x).trans h)
noncomputable abbrev spec_HeadInts.con : V.Con := ⟨V.A4, (.cons (.sl (.cons (.int .i64) .nil)) .nil), fun (x : V.D4) => spec_HeadInts (V.p4_0 x), [], [(true, 16)], [(false, 1)], [true], []⟩
noncomputable abbrev spec_HeadInts.E : V.Env := V.mkE V.tys [(192, spec_KeysInts.con)] [] [] [] []
noncomputable abbrev spec_HeadInts.kt (x0 : THead) : V.Kt (List Int) := V.ktOf spec_HeadInts.E spec_HeadInts.con Try.f163 (V.fl4 x0)
theorem spec_HeadInts.eq (x0 : THead) : V.evBody spec_HeadInts.E spec_HeadInts.con Try.f163 (V.fl4 x0) = spec_HeadInts x0 := by kernel_rfl
theorem spec_HeadInts.ok : V.Valid Try.prog 163 spec_HeadInts.con :=
  V.body_ok (V.env_ok V.mixed V.tysOk (V.tab_cons spec_KeysInts.ok V.tab_nil)) Try.func163 (by kernel_rfl) (by kernel_rfl) (by kernel_rfl) (fun x y h => (show V.evBody spec_HeadInts.E spec_HeadInts.con Try.f163 x = _ from spec_HeadInts.eq (V.p4_0 x)).trans h)
noncomputable abbrev spec_EqualInts.con : V.Con := ⟨(.cons (.sl (.cons (.int .i64) .nil)) (.cons (.sl (.cons (.int .i64) .nil)) .nil)), (.cons .bool .nil), fun (x : List Int × List Int) => spec_EqualInts x.1 x.2, [], [(false, 1), (false, 1)], [(false, 1)], [false], []⟩
noncomputable abbrev spec_EqualInts.E : V.Env := V.mkE V.tys [] [(8, [0, 1, 5], [])] [(6, 8)] [] []
noncomputable abbrev spec_EqualInts.kt (x0 : List Int) (x1 : List Int) : V.Kt Bool := V.ktOf spec_EqualInts.E spec_EqualInts.con Try.f132 ((x0, x1) : List Int × List Int)
noncomputable abbrev spec_EqualInts.s8 (x0 : List Int) (x1 : List Int) (v8_2 : Int) : V.St := ⟨[(0, .v false [.val (.sl (.cons (.int .i64) .nil) x0)]), (1, .v false [.val (.sl (.cons (.int .i64) .nil) x1)]), (5, .v false [.val (.int .i64 v8_2)])], []⟩
theorem spec_EqualInts.r8 (x0 : List Int) (x1 : List Int) (R : V.St → Option Bool) (v8_2 : Int) : V.loopF spec_EqualInts.E Try.f132.ntmps [1, 1, 0, 1, 0] [] (V.codeOf Try.f132) (spec_EqualInts.kt x0 x1) R (spec_EqualInts.s8 x0 x1 v8_2) = spec_EqualInts.g8 x0 x1 (fun v8_2 => R (spec_EqualInts.s8 x0 x1 v8_2)) v8_2 := by kernel_rfl
theorem spec_EqualInts.e8 (x0 : List Int) (x1 : List Int) : ∀ (n : Nat) (v8_2 : Int), V.loopN (V.loopF spec_EqualInts.E Try.f132.ntmps [1, 1, 0, 1, 0] [] (V.codeOf Try.f132) (spec_EqualInts.kt x0 x1)) n (spec_EqualInts.s8 x0 x1 v8_2) = spec_EqualInts.l8 x0 x1 n v8_2 := by
  intro n
  induction n with
  | zero => intros; rfl
  | succ n ih =>
    intro v8_2
    show V.loopF spec_EqualInts.E Try.f132.ntmps [1, 1, 0, 1, 0] [] (V.codeOf Try.f132) (spec_EqualInts.kt x0 x1) (V.loopN (V.loopF spec_EqualInts.E Try.f132.ntmps [1, 1, 0, 1, 0] [] (V.codeOf Try.f132) (spec_EqualInts.kt x0 x1)) n) (spec_EqualInts.s8 x0 x1 v8_2) = _
    rw [spec_EqualInts.r8]
    simp only [ih]
    rfl
theorem spec_EqualInts.v (x0 : List Int) (x1 : List Int) : V.evBody spec_EqualInts.E spec_EqualInts.con Try.f132 ((x0, x1) : List Int × List Int) = spec_EqualInts.b x0 x1 (fun v8_2 => V.loopN (V.loopF spec_EqualInts.E Try.f132.ntmps [1, 1, 0, 1, 0] [] (V.codeOf Try.f132) (spec_EqualInts.kt x0 x1)) V.KK (spec_EqualInts.s8 x0 x1 v8_2)) := by kernel_rfl
theorem spec_EqualInts.eq (x0 : List Int) (x1 : List Int) : V.evBody spec_EqualInts.E spec_EqualInts.con Try.f132 ((x0, x1) : List Int × List Int) = spec_EqualInts x0 x1 := by
  rw [spec_EqualInts.v]
  simp only [spec_EqualInts.e8]
  rfl
theorem spec_EqualInts.ok : V.Valid Try.prog 132 spec_EqualInts.con :=
  V.body_ok (V.env_ok V.mixed V.tysOk V.tab_nil) Try.func132 (by kernel_rfl) (by kernel_rfl) (by kernel_rfl) (fun x y h => (show V.evBody spec_EqualInts.E spec_EqualInts.con Try.f132 x = _ from spec_EqualInts.eq x.1 x.2).trans h)
noncomputable abbrev spec_EqualHeads.con : V.Con := ⟨V.A8, (.cons .bool .nil), fun (x : V.D8) => spec_EqualHeads (V.p8_0 x) (V.p8_1 x), [], [(true, 16), (true, 16)], [(false, 1)], [false], []⟩
noncomputable abbrev spec_EqualHeads.E : V.Env := V.mkE V.tys [(132, spec_EqualInts.con), (163, spec_HeadInts.con)] [] [(1, 10)] [] []
noncomputable abbrev spec_EqualHeads.kt (x0 : THead) (x1 : THead) : V.Kt Bool := V.ktOf spec_EqualHeads.E spec_EqualHeads.con Try.f124 (V.fl8 x0 x1)
theorem spec_EqualHeads.eq (x0 : THead) (x1 : THead) : V.evBody spec_EqualHeads.E spec_EqualHeads.con Try.f124 (V.fl8 x0 x1) = spec_EqualHeads x0 x1 := by kernel_rfl
theorem spec_EqualHeads.ok : V.Valid Try.prog 124 spec_EqualHeads.con :=
  V.body_ok (V.env_ok V.mixed V.tysOk (V.tab_cons spec_EqualInts.ok (V.tab_cons spec_HeadInts.ok V.tab_nil))) Try.func124 (by kernel_rfl) (by kernel_rfl) (by kernel_rfl) (fun x y h => (show V.evBody spec_EqualHeads.E spec_EqualHeads.con Try.f124 x = _ from spec_EqualHeads.eq (V.p8_0 x) (V.p8_1 x)).trans h)
noncomputable abbrev spec_EqualSigned.con : V.Con := ⟨V.A9, (.cons .bool .nil), fun (x : V.D9) => spec_EqualSigned (V.p9_0 x) (V.p9_1 x), [], [(true, 17), (true, 17)], [(false, 1)], [false], []⟩
noncomputable abbrev spec_EqualSigned.E : V.Env := V.mkE V.tys [(124, spec_EqualHeads.con)] [(7, [2, 3], []), (8, [2, 3, 5], [])] [(6, 10)] [] []
noncomputable abbrev spec_EqualSigned.kt (x0 : TSigned) (x1 : TSigned) : V.Kt Bool := V.ktOf spec_EqualSigned.E spec_EqualSigned.con Try.f125 (V.fl9 x0 x1)
noncomputable abbrev spec_EqualSigned.s8 (x0 : TSigned) (x1 : TSigned) (v8_0 : Int) : V.St := ⟨[(2, .v false [.ptr 64000 0]), (3, .v false [.ptr 64064 0]), (5, .v false [.val (.int .i64 v8_0)])], [(64000, .box [.val (.int .i64 x0.1), .val (.int .i64 x0.2.1), .val (.int .i64 x0.2.2.1), .val (.int .i64 x0.2.2.2.1), .val (.int .i64 x0.2.2.2.2.1), .val (.int .i64 x0.2.2.2.2.2.1), .val (.int .i64 x0.2.2.2.2.2.2.1), .val (.int .i64 x0.2.2.2.2.2.2.2.1), .val (.sl (.cons (.int .i64) .nil) x0.2.2.2.2.2.2.2.2.1), .val (.int .i64 x0.2.2.2.2.2.2.2.2.2.1), .val (.sl (.cons (.int .i64) .nil) x0.2.2.2.2.2.2.2.2.2.2.1), .val (.int .i64 x0.2.2.2.2.2.2.2.2.2.2.2.1), .val (.int .i64 x0.2.2.2.2.2.2.2.2.2.2.2.2.1), .val (.sl (.cons (.int .i64) .nil) x0.2.2.2.2.2.2.2.2.2.2.2.2.2.1), .val (.int .i64 x0.2.2.2.2.2.2.2.2.2.2.2.2.2.2.1), .val (.bool x0.2.2.2.2.2.2.2.2.2.2.2.2.2.2.2.1), .val (.sl (.cons (.int .i64) (.cons (.int .i64) .nil)) x0.2.2.2.2.2.2.2.2.2.2.2.2.2.2.2.2)]), (64064, .box [.val (.int .i64 x1.1), .val (.int .i64 x1.2.1), .val (.int .i64 x1.2.2.1), .val (.int .i64 x1.2.2.2.1), .val (.int .i64 x1.2.2.2.2.1), .val (.int .i64 x1.2.2.2.2.2.1), .val (.int .i64 x1.2.2.2.2.2.2.1), .val (.int .i64 x1.2.2.2.2.2.2.2.1), .val (.sl (.cons (.int .i64) .nil) x1.2.2.2.2.2.2.2.2.1), .val (.int .i64 x1.2.2.2.2.2.2.2.2.2.1), .val (.sl (.cons (.int .i64) .nil) x1.2.2.2.2.2.2.2.2.2.2.1), .val (.int .i64 x1.2.2.2.2.2.2.2.2.2.2.2.1), .val (.int .i64 x1.2.2.2.2.2.2.2.2.2.2.2.2.1), .val (.sl (.cons (.int .i64) .nil) x1.2.2.2.2.2.2.2.2.2.2.2.2.2.1), .val (.int .i64 x1.2.2.2.2.2.2.2.2.2.2.2.2.2.2.1), .val (.bool x1.2.2.2.2.2.2.2.2.2.2.2.2.2.2.2.1), .val (.sl (.cons (.int .i64) (.cons (.int .i64) .nil)) x1.2.2.2.2.2.2.2.2.2.2.2.2.2.2.2.2)])]⟩
noncomputable abbrev spec_EqualSigned.s7 (x0 : TSigned) (x1 : TSigned) : V.St := ⟨[(2, .v false [.ptr 64000 0]), (3, .v false [.ptr 64064 0])], [(64000, .box [.val (.int .i64 x0.1), .val (.int .i64 x0.2.1), .val (.int .i64 x0.2.2.1), .val (.int .i64 x0.2.2.2.1), .val (.int .i64 x0.2.2.2.2.1), .val (.int .i64 x0.2.2.2.2.2.1), .val (.int .i64 x0.2.2.2.2.2.2.1), .val (.int .i64 x0.2.2.2.2.2.2.2.1), .val (.sl (.cons (.int .i64) .nil) x0.2.2.2.2.2.2.2.2.1), .val (.int .i64 x0.2.2.2.2.2.2.2.2.2.1), .val (.sl (.cons (.int .i64) .nil) x0.2.2.2.2.2.2.2.2.2.2.1), .val (.int .i64 x0.2.2.2.2.2.2.2.2.2.2.2.1), .val (.int .i64 x0.2.2.2.2.2.2.2.2.2.2.2.2.1), .val (.sl (.cons (.int .i64) .nil) x0.2.2.2.2.2.2.2.2.2.2.2.2.2.1), .val (.int .i64 x0.2.2.2.2.2.2.2.2.2.2.2.2.2.2.1), .val (.bool x0.2.2.2.2.2.2.2.2.2.2.2.2.2.2.2.1), .val (.sl (.cons (.int .i64) (.cons (.int .i64) .nil)) x0.2.2.2.2.2.2.2.2.2.2.2.2.2.2.2.2)]), (64064, .box [.val (.int .i64 x1.1), .val (.int .i64 x1.2.1), .val (.int .i64 x1.2.2.1), .val (.int .i64 x1.2.2.2.1), .val (.int .i64 x1.2.2.2.2.1), .val (.int .i64 x1.2.2.2.2.2.1), .val (.int .i64 x1.2.2.2.2.2.2.1), .val (.int .i64 x1.2.2.2.2.2.2.2.1), .val (.sl (.cons (.int .i64) .nil) x1.2.2.2.2.2.2.2.2.1), .val (.int .i64 x1.2.2.2.2.2.2.2.2.2.1), .val (.sl (.cons (.int .i64) .nil) x1.2.2.2.2.2.2.2.2.2.2.1), .val (.int .i64 x1.2.2.2.2.2.2.2.2.2.2.2.1), .val (.int .i64 x1.2.2.2.2.2.2.2.2.2.2.2.2.1), .val (.sl (.cons (.int .i64) .nil) x1.2.2.2.2.2.2.2.2.2.2.2.2.2.1), .val (.int .i64 x1.2.2.2.2.2.2.2.2.2.2.2.2.2.2.1), .val (.bool x1.2.2.2.2.2.2.2.2.2.2.2.2.2.2.2.1), .val (.sl (.cons (.int .i64) (.cons (.int .i64) .nil)) x1.2.2.2.2.2.2.2.2.2.2.2.2.2.2.2.2)])]⟩
theorem spec_EqualSigned.r8 (x0 : TSigned) (x1 : TSigned) (R : V.St → Option Bool) (v8_0 : Int) : V.loopF spec_EqualSigned.E Try.f125.ntmps [1, 1, 0, 1, 0] [] (V.codeOf Try.f125) (spec_EqualSigned.kt x0 x1) R (spec_EqualSigned.s8 x0 x1 v8_0) = spec_EqualSigned.g8 x0 x1 (fun v8_0 => R (spec_EqualSigned.s8 x0 x1 v8_0)) v8_0 := by kernel_rfl
theorem spec_EqualSigned.e8 (x0 : TSigned) (x1 : TSigned) : ∀ (n : Nat) (v8_0 : Int), V.loopN (V.loopF spec_EqualSigned.E Try.f125.ntmps [1, 1, 0, 1, 0] [] (V.codeOf Try.f125) (spec_EqualSigned.kt x0 x1)) n (spec_EqualSigned.s8 x0 x1 v8_0) = spec_EqualSigned.l8 x0 x1 n v8_0 := by
  intro n
  induction n with
  | zero => intros; rfl
  | succ n ih =>
    intro v8_0
    show V.loopF spec_EqualSigned.E Try.f125.ntmps [1, 1, 0, 1, 0] [] (V.codeOf Try.f125) (spec_EqualSigned.kt x0 x1) (V.loopN (V.loopF spec_EqualSigned.E Try.f125.ntmps [1, 1, 0, 1, 0] [] (V.codeOf Try.f125) (spec_EqualSigned.kt x0 x1)) n) (spec_EqualSigned.s8 x0 x1 v8_0) = _
    rw [spec_EqualSigned.r8]
    simp only [ih]
    rfl
theorem spec_EqualSigned.r7 (x0 : TSigned) (x1 : TSigned) : V.joinF spec_EqualSigned.E Try.f125.ntmps [1] [] (V.codeOf Try.f125) (spec_EqualSigned.kt x0 x1) (spec_EqualSigned.s7 x0 x1) = spec_EqualSigned.g7 x0 x1 (fun v8_0 => V.loopN (V.loopF spec_EqualSigned.E Try.f125.ntmps [1, 1, 0, 1, 0] [] (V.codeOf Try.f125) (spec_EqualSigned.kt x0 x1)) V.KK (spec_EqualSigned.s8 x0 x1 v8_0)) := by kernel_rfl
theorem spec_EqualSigned.e7 (x0 : TSigned) (x1 : TSigned) : V.joinF spec_EqualSigned.E Try.f125.ntmps [1] [] (V.codeOf Try.f125) (spec_EqualSigned.kt x0 x1) (spec_EqualSigned.s7 x0 x1) = spec_EqualSigned.l7 x0 x1 := by
  rw [spec_EqualSigned.r7]
  simp only [spec_EqualSigned.e8]
  rfl
theorem spec_EqualSigned.v (x0 : TSigned) (x1 : TSigned) : V.evBody spec_EqualSigned.E spec_EqualSigned.con Try.f125 (V.fl9 x0 x1) = spec_EqualSigned.b x0 x1 (V.joinF spec_EqualSigned.E Try.f125.ntmps [1] [] (V.codeOf Try.f125) (spec_EqualSigned.kt x0 x1) (spec_EqualSigned.s7 x0 x1)) := by kernel_rfl
theorem spec_EqualSigned.eq (x0 : TSigned) (x1 : TSigned) : V.evBody spec_EqualSigned.E spec_EqualSigned.con Try.f125 (V.fl9 x0 x1) = spec_EqualSigned x0 x1 := by
  rw [spec_EqualSigned.v]
  simp only [spec_EqualSigned.e7]
  rfl
theorem spec_EqualSigned.ok : V.Valid Try.prog 125 spec_EqualSigned.con :=
  V.body_ok (V.env_ok V.mixed V.tysOk (V.tab_cons spec_EqualHeads.ok V.tab_nil)) Try.func125 (by kernel_rfl) (by kernel_rfl) (by kernel_rfl) (fun x y h => (show V.evBody spec_EqualSigned.E spec_EqualSigned.con Try.f125 x = _ from spec_EqualSigned.eq (V.p9_0 x) (V.p9_1 x)).trans h)
noncomputable abbrev spec_EqualZones.con : V.Con := ⟨(.cons (.sl V.eSigned) (.cons (.sl V.eEntry) (.cons (.sl V.eSigned) (.cons (.sl V.eEntry) .nil)))), (.cons .bool .nil), fun (x : List TSigned × List TEntry × List TSigned × List TEntry) => spec_EqualZones (x.1, x.2.1) x.2.2, [], [(true, 2), (true, 2)], [(false, 1)], [false], []⟩
noncomputable abbrev spec_EqualZones.E : V.Env := V.mkE V.tys [(125, spec_EqualSigned.con), (150, spec_SameEntries.con)] [(7, [2, 3], []), (8, [2, 3, 5], [])] [(6, 10)] [] []
noncomputable abbrev spec_EqualZones.kt (x0 : TZone) (x1 : TZone) : V.Kt Bool := V.ktOf spec_EqualZones.E spec_EqualZones.con Try.f88 ((x0.1, x0.2, x1.1, x1.2) : List TSigned × List TEntry × List TSigned × List TEntry)
noncomputable abbrev spec_EqualZones.s8 (x0 : TZone) (x1 : TZone) (v8_0 : Int) : V.St := ⟨[(2, .v false [.ptr 64000 0]), (3, .v false [.ptr 64064 0]), (5, .v false [.val (.int .i64 v8_0)])], [(64000, .box [.val (.sl V.eSigned x0.1), .val (.sl V.eEntry x0.2)]), (64064, .box [.val (.sl V.eSigned x1.1), .val (.sl V.eEntry x1.2)])]⟩
noncomputable abbrev spec_EqualZones.s7 (x0 : TZone) (x1 : TZone) : V.St := ⟨[(2, .v false [.ptr 64000 0]), (3, .v false [.ptr 64064 0])], [(64000, .box [.val (.sl V.eSigned x0.1), .val (.sl V.eEntry x0.2)]), (64064, .box [.val (.sl V.eSigned x1.1), .val (.sl V.eEntry x1.2)])]⟩
theorem spec_EqualZones.r8 (x0 : TZone) (x1 : TZone) (R : V.St → Option Bool) (v8_0 : Int) : V.loopF spec_EqualZones.E Try.f88.ntmps [1, 1, 0, 1, 0] [] (V.codeOf Try.f88) (spec_EqualZones.kt x0 x1) R (spec_EqualZones.s8 x0 x1 v8_0) = spec_EqualZones.g8 x0 x1 (fun v8_0 => R (spec_EqualZones.s8 x0 x1 v8_0)) v8_0 := by kernel_rfl
theorem spec_EqualZones.e8 (x0 : TZone) (x1 : TZone) : ∀ (n : Nat) (v8_0 : Int), V.loopN (V.loopF spec_EqualZones.E Try.f88.ntmps [1, 1, 0, 1, 0] [] (V.codeOf Try.f88) (spec_EqualZones.kt x0 x1)) n (spec_EqualZones.s8 x0 x1 v8_0) = spec_EqualZones.l8 x0 x1 n v8_0 := by
  intro n
  induction n with
  | zero => intros; rfl
  | succ n ih =>
    intro v8_0
    show V.loopF spec_EqualZones.E Try.f88.ntmps [1, 1, 0, 1, 0] [] (V.codeOf Try.f88) (spec_EqualZones.kt x0 x1) (V.loopN (V.loopF spec_EqualZones.E Try.f88.ntmps [1, 1, 0, 1, 0] [] (V.codeOf Try.f88) (spec_EqualZones.kt x0 x1)) n) (spec_EqualZones.s8 x0 x1 v8_0) = _
    rw [spec_EqualZones.r8]
    simp only [ih]
    rfl
theorem spec_EqualZones.r7 (x0 : TZone) (x1 : TZone) : V.joinF spec_EqualZones.E Try.f88.ntmps [1] [] (V.codeOf Try.f88) (spec_EqualZones.kt x0 x1) (spec_EqualZones.s7 x0 x1) = spec_EqualZones.g7 x0 x1 (fun v8_0 => V.loopN (V.loopF spec_EqualZones.E Try.f88.ntmps [1, 1, 0, 1, 0] [] (V.codeOf Try.f88) (spec_EqualZones.kt x0 x1)) V.KK (spec_EqualZones.s8 x0 x1 v8_0)) := by kernel_rfl
theorem spec_EqualZones.e7 (x0 : TZone) (x1 : TZone) : V.joinF spec_EqualZones.E Try.f88.ntmps [1] [] (V.codeOf Try.f88) (spec_EqualZones.kt x0 x1) (spec_EqualZones.s7 x0 x1) = spec_EqualZones.l7 x0 x1 := by
  rw [spec_EqualZones.r7]
  simp only [spec_EqualZones.e8]
  rfl
theorem spec_EqualZones.v (x0 : TZone) (x1 : TZone) : V.evBody spec_EqualZones.E spec_EqualZones.con Try.f88 ((x0.1, x0.2, x1.1, x1.2) : List TSigned × List TEntry × List TSigned × List TEntry) = spec_EqualZones.b x0 x1 (V.joinF spec_EqualZones.E Try.f88.ntmps [1] [] (V.codeOf Try.f88) (spec_EqualZones.kt x0 x1) (spec_EqualZones.s7 x0 x1)) := by kernel_rfl
theorem spec_EqualZones.eq (x0 : TZone) (x1 : TZone) : V.evBody spec_EqualZones.E spec_EqualZones.con Try.f88 ((x0.1, x0.2, x1.1, x1.2) : List TSigned × List TEntry × List TSigned × List TEntry) = spec_EqualZones x0 x1 := by
  rw [spec_EqualZones.v]
  simp only [spec_EqualZones.e7]
  rfl
theorem spec_EqualZones.ok : V.Valid Try.prog 88 spec_EqualZones.con :=
  V.body_ok (V.env_ok V.mixed V.tysOk (V.tab_cons spec_EqualSigned.ok (V.tab_cons spec_SameEntries.ok V.tab_nil))) Try.func88 (by kernel_rfl) (by kernel_rfl) (by kernel_rfl) (fun x y h => (show V.evBody spec_EqualZones.E spec_EqualZones.con Try.f88 x = _ from spec_EqualZones.eq (x.1, x.2.1) x.2.2).trans h)
noncomputable abbrev spec_EqualProofs.con : V.Con := ⟨(.cons (.int .i64) (.cons (.sl (.cons (.int .i64) .nil)) (.cons (.int .i64) (.cons (.sl (.cons (.int .i64) .nil)) .nil)))), (.cons .bool .nil), fun (x : Int × List Int × Int × List Int) => spec_EqualProofs (x.1, x.2.1) x.2.2, [], [(true, 2), (true, 2)], [(false, 1)], [false], []⟩
noncomputable abbrev spec_EqualProofs.E : V.Env := V.mkE V.tys [(132, spec_EqualInts.con)] [] [] [] []
noncomputable abbrev spec_EqualProofs.kt (x0 : TProof) (x1 : TProof) : V.Kt Bool := V.ktOf spec_EqualProofs.E spec_EqualProofs.con Try.f107 ((x0.1, x0.2, x1.1, x1.2) : Int × List Int × Int × List Int)
theorem spec_EqualProofs.eq (x0 : TProof) (x1 : TProof) : V.evBody spec_EqualProofs.E spec_EqualProofs.con Try.f107 ((x0.1, x0.2, x1.1, x1.2) : Int × List Int × Int × List Int) = spec_EqualProofs x0 x1 := by kernel_rfl
theorem spec_EqualProofs.ok : V.Valid Try.prog 107 spec_EqualProofs.con :=
  V.body_ok (V.env_ok V.mixed V.tysOk (V.tab_cons spec_EqualInts.ok V.tab_nil)) Try.func107 (by kernel_rfl) (by kernel_rfl) (by kernel_rfl) (fun x y h => (show V.evBody spec_EqualProofs.E spec_EqualProofs.con Try.f107 x = _ from spec_EqualProofs.eq (x.1, x.2.1) x.2.2).trans h)
noncomputable abbrev spec_EqualGaps.con : V.Con := ⟨V.A10, (.cons .bool .nil), fun (x : V.D10) => spec_EqualGaps (V.p10_0 x) (V.p10_1 x), [], [(true, 13), (true, 13)], [(false, 1)], [false], []⟩
noncomputable abbrev spec_EqualGaps.E : V.Env := V.mkE V.tys [(106, spec_EqualEntries.con), (107, spec_EqualProofs.con)] [] [] [] []
noncomputable abbrev spec_EqualGaps.kt (x0 : TGap) (x1 : TGap) : V.Kt Bool := V.ktOf spec_EqualGaps.E spec_EqualGaps.con Try.f108 (V.fl10 x0 x1)
theorem spec_EqualGaps.eq (x0 : TGap) (x1 : TGap) : V.evBody spec_EqualGaps.E spec_EqualGaps.con Try.f108 (V.fl10 x0 x1) = spec_EqualGaps x0 x1 := by kernel_rfl
theorem spec_EqualGaps.ok : V.Valid Try.prog 108 spec_EqualGaps.con :=
  V.body_ok (V.env_ok V.mixed V.tysOk (V.tab_cons spec_EqualEntries.ok (V.tab_cons spec_EqualProofs.ok V.tab_nil))) Try.func108 (by kernel_rfl) (by kernel_rfl) (by kernel_rfl) (fun x y h => (show V.evBody spec_EqualGaps.E spec_EqualGaps.con Try.f108 x = _ from spec_EqualGaps.eq (V.p10_0 x) (V.p10_1 x)).trans h)
noncomputable abbrev spec_EqualAnswers.con : V.Con := ⟨V.A11, (.cons .bool .nil), fun (x : V.D11) => spec_EqualAnswers (V.p11_0 x) (V.p11_1 x), [], [(true, 21), (true, 21)], [(false, 1)], [false], []⟩
noncomputable abbrev spec_EqualAnswers.E : V.Env := V.mkE V.tys [(88, spec_EqualZones.con), (106, spec_EqualEntries.con), (107, spec_EqualProofs.con), (108, spec_EqualGaps.con)] [] [] [] []
noncomputable abbrev spec_EqualAnswers.kt (x0 : TAnswer) (x1 : TAnswer) : V.Kt Bool := V.ktOf spec_EqualAnswers.E spec_EqualAnswers.con Try.f41 (V.fl11 x0 x1)
theorem spec_EqualAnswers.eq (x0 : TAnswer) (x1 : TAnswer) : V.evBody spec_EqualAnswers.E spec_EqualAnswers.con Try.f41 (V.fl11 x0 x1) = spec_EqualAnswers x0 x1 := by kernel_rfl
theorem spec_EqualAnswers.ok : V.Valid Try.prog 41 spec_EqualAnswers.con :=
  V.body_ok (V.env_ok V.mixed V.tysOk (V.tab_cons spec_EqualZones.ok (V.tab_cons spec_EqualEntries.ok (V.tab_cons spec_EqualProofs.ok (V.tab_cons spec_EqualGaps.ok V.tab_nil))))) Try.func41 (by kernel_rfl) (by kernel_rfl) (by kernel_rfl) (fun x y h => (show V.evBody spec_EqualAnswers.E spec_EqualAnswers.con Try.f41 x = _ from spec_EqualAnswers.eq (V.p11_0 x) (V.p11_1 x)).trans h)
noncomputable abbrev slices_Equal_int.con : V.Con := ⟨(.cons (.sl (.cons (.int .i64) .nil)) (.cons (.sl (.cons (.int .i64) .nil)) .nil)), (.cons .bool .nil), fun (x : List Int × List Int) => slices_Equal_int x.1 x.2, [], [(false, 1), (false, 1)], [(false, 1)], [false], []⟩
noncomputable abbrev slices_Equal_int.E : V.Env := V.mkE V.tys [] [(8, [0, 1, 12, 13], [])] [(6, 8)] [] []
noncomputable abbrev slices_Equal_int.kt (x0 : List Int) (x1 : List Int) : V.Kt Bool := V.ktOf slices_Equal_int.E slices_Equal_int.con Try.f133 ((x0, x1) : List Int × List Int)
noncomputable abbrev slices_Equal_int.s8 (x0 : List Int) (x1 : List Int) (v8_2 : Int) (v8_3 : Int) : V.St := ⟨[(0, .v false [.val (.sl (.cons (.int .i64) .nil) x0)]), (1, .v false [.val (.sl (.cons (.int .i64) .nil) x1)]), (12, .v false [.val (.int .i64 v8_2)]), (13, .v false [.val (.int .i64 v8_3)])], []⟩
theorem slices_Equal_int.r8 (x0 : List Int) (x1 : List Int) (R : V.St → Option Bool) (v8_2 : Int) (v8_3 : Int) : V.loopF slices_Equal_int.E Try.f133.ntmps [1, 1, 0, 1, 0] [] (V.codeOf Try.f133) (slices_Equal_int.kt x0 x1) R (slices_Equal_int.s8 x0 x1 v8_2 v8_3) = slices_Equal_int.g8 x0 x1 (fun v8_2 v8_3 => R (slices_Equal_int.s8 x0 x1 v8_2 v8_3)) v8_2 v8_3 := by kernel_rfl
theorem slices_Equal_int.e8 (x0 : List Int) (x1 : List Int) : ∀ (n : Nat) (v8_2 : Int) (v8_3 : Int), V.loopN (V.loopF slices_Equal_int.E Try.f133.ntmps [1, 1, 0, 1, 0] [] (V.codeOf Try.f133) (slices_Equal_int.kt x0 x1)) n (slices_Equal_int.s8 x0 x1 v8_2 v8_3) = slices_Equal_int.l8 x0 x1 n v8_2 v8_3 := by
  intro n
  induction n with
  | zero => intros; rfl
  | succ n ih =>
    intro v8_2 v8_3
    show V.loopF slices_Equal_int.E Try.f133.ntmps [1, 1, 0, 1, 0] [] (V.codeOf Try.f133) (slices_Equal_int.kt x0 x1) (V.loopN (V.loopF slices_Equal_int.E Try.f133.ntmps [1, 1, 0, 1, 0] [] (V.codeOf Try.f133) (slices_Equal_int.kt x0 x1)) n) (slices_Equal_int.s8 x0 x1 v8_2 v8_3) = _
    rw [slices_Equal_int.r8]
    simp only [ih]
    rfl
theorem slices_Equal_int.v (x0 : List Int) (x1 : List Int) : V.evBody slices_Equal_int.E slices_Equal_int.con Try.f133 ((x0, x1) : List Int × List Int) = slices_Equal_int.b x0 x1 (fun v8_2 v8_3 => V.loopN (V.loopF slices_Equal_int.E Try.f133.ntmps [1, 1, 0, 1, 0] [] (V.codeOf Try.f133) (slices_Equal_int.kt x0 x1)) V.KK (slices_Equal_int.s8 x0 x1 v8_2 v8_3)) := by kernel_rfl
theorem slices_Equal_int.eq (x0 : List Int) (x1 : List Int) : V.evBody slices_Equal_int.E slices_Equal_int.con Try.f133 ((x0, x1) : List Int × List Int) = slices_Equal_int x0 x1 := by
  rw [slices_Equal_int.v]
  simp only [slices_Equal_int.e8]
  rfl
theorem slices_Equal_int.ok : V.Valid Try.prog 133 slices_Equal_int.con :=
  V.body_ok (V.env_ok V.mixed V.tysOk V.tab_nil) Try.func133 (by kernel_rfl) (by kernel_rfl) (by kernel_rfl) (fun x y h => (show V.evBody slices_Equal_int.E slices_Equal_int.con Try.f133 x = _ from slices_Equal_int.eq x.1 x.2).trans h)
noncomputable abbrev impl_EqualKeys.con : V.Con := ⟨(.cons (.sl (.cons (.int .i64) .nil)) (.cons (.int .i64) (.cons (.sl (.cons (.int .i64) .nil)) (.cons (.int .i64) .nil)))), (.cons .bool .nil), fun (x : List Int × Int × List Int × Int) => impl_EqualKeys (x.1, x.2.1) x.2.2, [], [(true, 2), (true, 2)], [(false, 1)], [false], []⟩
noncomputable abbrev impl_EqualKeys.E : V.Env := V.mkE V.tys [(133, slices_Equal_int.con)] [] [] [] []
noncomputable abbrev impl_EqualKeys.kt (x0 : TKeys) (x1 : TKeys) : V.Kt Bool := V.ktOf impl_EqualKeys.E impl_EqualKeys.con Try.f167 ((x0.1, x0.2, x1.1, x1.2) : List Int × Int × List Int × Int)
theorem impl_EqualKeys.eq (x0 : TKeys) (x1 : TKeys) : V.evBody impl_EqualKeys.E impl_EqualKeys.con Try.f167 ((x0.1, x0.2, x1.1, x1.2) : List Int × Int × List Int × Int) = impl_EqualKeys x0 x1 := by kernel_rfl
theorem impl_EqualKeys.ok : V.Valid Try.prog 167 impl_EqualKeys.con :=
  V.body_ok (V.env_ok V.mixed V.tysOk (V.tab_cons slices_Equal_int.ok V.tab_nil)) Try.func167 (by kernel_rfl) (by kernel_rfl) (by kernel_rfl) (fun x y h => (show V.evBody impl_EqualKeys.E impl_EqualKeys.con Try.f167 x = _ from impl_EqualKeys.eq (x.1, x.2.1) x.2.2).trans h)
noncomputable abbrev impl_KeysInts.con : V.Con := ⟨(.cons (.sl (.cons (.int .i64) .nil)) (.cons (.int .i64) .nil)), (.cons (.sl (.cons (.int .i64) .nil)) .nil), fun (x : List Int × Int) => impl_KeysInts x, [], [(true, 2)], [(false, 1)], [true], []⟩
noncomputable abbrev impl_KeysInts.E : V.Env := V.mkE V.tys [] [] [] [] []
noncomputable abbrev impl_KeysInts.kt (x0 : TKeys) : V.Kt (List Int) := V.ktOf impl_KeysInts.E impl_KeysInts.con Try.f198 ((x0.1, x0.2) : List Int × Int)
theorem impl_KeysInts.eq (x0 : TKeys) : V.evBody impl_KeysInts.E impl_KeysInts.con Try.f198 ((x0.1, x0.2) : List Int × Int) = impl_KeysInts x0 := by kernel_rfl
theorem impl_KeysInts.ok : V.Valid Try.prog 198 impl_KeysInts.con :=
  V.body_ok (V.env_ok V.mixed V.tysOk V.tab_nil) Try.func198 (by kernel_rfl) (by kernel_rfl) (by kernel_rfl) (fun x y h => (show V.evBody impl_KeysInts.E impl_KeysInts.con Try.f198 x = _ from impl_KeysInts.eq x).trans h)
noncomputable abbrev impl_bit.con : V.Con := ⟨(.cons .bool .nil), (.cons (.int .i64) .nil), fun (x : Bool) => impl_bit x, [], [(false, 1)], [(false, 1)], [false], []⟩
noncomputable abbrev impl_bit.E : V.Env := V.mkE V.tys [] [] [] [] []
noncomputable abbrev impl_bit.kt (x0 : Bool) : V.Kt Int := V.ktOf impl_bit.E impl_bit.con Try.f199 ((x0) : Bool)
theorem impl_bit.eq (x0 : Bool) : V.evBody impl_bit.E impl_bit.con Try.f199 ((x0) : Bool) = impl_bit x0 := by kernel_rfl
theorem impl_bit.ok : V.Valid Try.prog 199 impl_bit.con :=
  V.body_ok (V.env_ok V.mixed V.tysOk V.tab_nil) Try.func199 (by kernel_rfl) (by kernel_rfl) (by kernel_rfl) (fun x y h => (show V.evBody impl_bit.E impl_bit.con Try.f199 x = _ from impl_bit.eq x).trans h)
noncomputable abbrev slices_Grow_int.con : V.Con := ⟨(.cons (.sl (.cons (.int .i64) .nil)) (.cons (.int .i64) .nil)), (.cons (.sl (.cons (.int .i64) .nil)) .nil), fun (x : List Int × Int) => slices_Grow_int x.1 x.2, [], [(false, 1), (false, 1)], [(false, 1)], [true], [0]⟩
noncomputable abbrev slices_Grow_int.E : V.Env := V.mkE V.tys [] [(7, [0, 1], [])] [] [] []
noncomputable abbrev slices_Grow_int.kt (x0 : List Int) (x1 : Int) : V.Kt (List Int) := V.ktOf slices_Grow_int.E slices_Grow_int.con Try.f212 ((x0, x1) : List Int × Int)
noncomputable abbrev slices_Grow_int.s7 (x1 : Int) : V.St := ⟨[(0, .v false [.nil0]), (1, .v false [.val (.int .i64 x1)])], []⟩
theorem slices_Grow_int.r7 (x0 : List Int) (x1 : Int) : V.joinF slices_Grow_int.E Try.f212.ntmps [1] [] (V.codeOf Try.f212) (slices_Grow_int.kt x0 x1) (slices_Grow_int.s7 x1) = slices_Grow_int.g7 x1 := by kernel_rfl
theorem slices_Grow_int.e7 (x0 : List Int) (x1 : Int) : V.joinF slices_Grow_int.E Try.f212.ntmps [1] [] (V.codeOf Try.f212) (slices_Grow_int.kt x0 x1) (slices_Grow_int.s7 x1) = slices_Grow_int.l7 x1 := by
  rw [slices_Grow_int.r7]
  rfl
theorem slices_Grow_int.v (x0 : List Int) (x1 : Int) : V.evBody slices_Grow_int.E slices_Grow_int.con Try.f212 ((x0, x1) : List Int × Int) = slices_Grow_int.b x0 x1 (V.joinF slices_Grow_int.E Try.f212.ntmps [1] [] (V.codeOf Try.f212) (slices_Grow_int.kt x0 x1) (slices_Grow_int.s7 x1)) := by kernel_rfl
theorem slices_Grow_int.eq (x0 : List Int) (x1 : Int) : V.evBody slices_Grow_int.E slices_Grow_int.con Try.f212 ((x0, x1) : List Int × Int) = slices_Grow_int x0 x1 := by
  rw [slices_Grow_int.v]
  simp only [slices_Grow_int.e7]
  rfl
theorem slices_Grow_int.ok : V.Valid Try.prog 212 slices_Grow_int.con :=
  V.body_ok (V.env_ok V.mixed V.tysOk V.tab_nil) Try.func212 (by kernel_rfl) (by kernel_rfl) (by kernel_rfl) (fun x y h => (show V.evBody slices_Grow_int.E slices_Grow_int.con Try.f212 x = _ from slices_Grow_int.eq x.1 x.2).trans h)
noncomputable abbrev slices_Concat_int.con : V.Con := ⟨(.cons (.sl (.cons (.sl (.cons (.int .i64) .nil)) .nil)) .nil), (.cons (.sl (.cons (.int .i64) .nil)) .nil), fun (x : List (List Int)) => slices_Concat_int x, [], [(false, 1)], [(false, 1)], [true], []⟩
noncomputable abbrev slices_Concat_int.E : V.Env := V.mkE V.tys [(212, slices_Grow_int.con)] [(6, [0, 3, 9, 10, 11], []), (22, [6, 25, 26, 27], [])] [] [] []
noncomputable abbrev slices_Concat_int.kt (x0 : List (List Int)) : V.Kt (List Int) := V.ktOf slices_Concat_int.E slices_Concat_int.con Try.f197 ((x0) : List (List Int))
noncomputable abbrev slices_Concat_int.s22 (x0 : List (List Int)) (v22_1 : Int) (v22_2 : Int) (v22_3 : List Int) : V.St := ⟨[(6, .v false [.ref 64000140800384]), (25, .v false [.val (.sl (.cons (.sl (.cons (.int .i64) .nil)) .nil) x0)]), (26, .v false [.val (.int .i64 v22_1)]), (27, .v false [.val (.int .i64 v22_2)])], [(64000140800384, .row (.cons (.int .i64) .nil) true v22_3)]⟩
noncomputable abbrev slices_Concat_int.s6 (x0 : List (List Int)) (v6_1 : Int) (v6_3 : Int) (v6_4 : Int) : V.St := ⟨[(0, .v false [.val (.sl (.cons (.sl (.cons (.int .i64) .nil)) .nil) x0)]), (3, .v false [.val (.int .i64 v6_1)]), (9, .v false [.val (.sl (.cons (.sl (.cons (.int .i64) .nil)) .nil) x0)]), (10, .v false [.val (.int .i64 v6_3)]), (11, .v false [.val (.int .i64 v6_4)])], []⟩
theorem slices_Concat_int.r22 (x0 : List (List Int)) (R : V.St → Option (List Int)) (v22_1 : Int) (v22_2 : Int) (v22_3 : List Int) : V.loopF slices_Concat_int.E Try.f197.ntmps [1, 1, 1, 1, 0, 1, 0] [] (V.codeOf Try.f197) (slices_Concat_int.kt x0) R (slices_Concat_int.s22 x0 v22_1 v22_2 v22_3) = slices_Concat_int.g22 x0 (fun v22_1 v22_2 v22_3 => R (slices_Concat_int.s22 x0 v22_1 v22_2 v22_3)) v22_1 v22_2 v22_3 := by kernel_rfl
theorem slices_Concat_int.e22 (x0 : List (List Int)) : ∀ (n : Nat) (v22_1 : Int) (v22_2 : Int) (v22_3 : List Int), V.loopN (V.loopF slices_Concat_int.E Try.f197.ntmps [1, 1, 1, 1, 0, 1, 0] [] (V.codeOf Try.f197) (slices_Concat_int.kt x0)) n (slices_Concat_int.s22 x0 v22_1 v22_2 v22_3) = slices_Concat_int.l22 x0 n v22_1 v22_2 v22_3 := by
  intro n
  induction n with
  | zero => intros; rfl
  | succ n ih =>
    intro v22_1 v22_2 v22_3
    show V.loopF slices_Concat_int.E Try.f197.ntmps [1, 1, 1, 1, 0, 1, 0] [] (V.codeOf Try.f197) (slices_Concat_int.kt x0) (V.loopN (V.loopF slices_Concat_int.E Try.f197.ntmps [1, 1, 1, 1, 0, 1, 0] [] (V.codeOf Try.f197) (slices_Concat_int.kt x0)) n) (slices_Concat_int.s22 x0 v22_1 v22_2 v22_3) = _
    rw [slices_Concat_int.r22]
    simp only [ih]
    rfl
theorem slices_Concat_int.r6 (x0 : List (List Int)) (R : V.St → Option (List Int)) (v6_1 : Int) (v6_3 : Int) (v6_4 : Int) : V.loopF slices_Concat_int.E Try.f197.ntmps [1, 1, 0, 1, 0] [] (V.codeOf Try.f197) (slices_Concat_int.kt x0) R (slices_Concat_int.s6 x0 v6_1 v6_3 v6_4) = slices_Concat_int.g6 x0 (fun v6_1 v6_3 v6_4 => R (slices_Concat_int.s6 x0 v6_1 v6_3 v6_4)) (fun v22_1 v22_2 v22_3 => V.loopN (V.loopF slices_Concat_int.E Try.f197.ntmps [1, 1, 1, 1, 0, 1, 0] [] (V.codeOf Try.f197) (slices_Concat_int.kt x0)) V.KK (slices_Concat_int.s22 x0 v22_1 v22_2 v22_3)) v6_1 v6_3 v6_4 := by kernel_rfl
theorem slices_Concat_int.e6 (x0 : List (List Int)) : ∀ (n : Nat) (v6_1 : Int) (v6_3 : Int) (v6_4 : Int), V.loopN (V.loopF slices_Concat_int.E Try.f197.ntmps [1, 1, 0, 1, 0] [] (V.codeOf Try.f197) (slices_Concat_int.kt x0)) n (slices_Concat_int.s6 x0 v6_1 v6_3 v6_4) = slices_Concat_int.l6 x0 n v6_1 v6_3 v6_4 := by
  intro n
  induction n with
  | zero => intros; rfl
  | succ n ih =>
    intro v6_1 v6_3 v6_4
    show V.loopF slices_Concat_int.E Try.f197.ntmps [1, 1, 0, 1, 0] [] (V.codeOf Try.f197) (slices_Concat_int.kt x0) (V.loopN (V.loopF slices_Concat_int.E Try.f197.ntmps [1, 1, 0, 1, 0] [] (V.codeOf Try.f197) (slices_Concat_int.kt x0)) n) (slices_Concat_int.s6 x0 v6_1 v6_3 v6_4) = _
    rw [slices_Concat_int.r6]
    simp only [slices_Concat_int.e22, ih]
    rfl
theorem slices_Concat_int.v (x0 : List (List Int)) : V.evBody slices_Concat_int.E slices_Concat_int.con Try.f197 ((x0) : List (List Int)) = slices_Concat_int.b x0 (fun v6_1 v6_3 v6_4 => V.loopN (V.loopF slices_Concat_int.E Try.f197.ntmps [1, 1, 0, 1, 0] [] (V.codeOf Try.f197) (slices_Concat_int.kt x0)) V.KK (slices_Concat_int.s6 x0 v6_1 v6_3 v6_4)) := by kernel_rfl
theorem slices_Concat_int.eq (x0 : List (List Int)) : V.evBody slices_Concat_int.E slices_Concat_int.con Try.f197 ((x0) : List (List Int)) = slices_Concat_int x0 := by
  rw [slices_Concat_int.v]
  simp only [slices_Concat_int.e6]
  rfl
theorem slices_Concat_int.ok : V.Valid Try.prog 197 slices_Concat_int.con :=
  V.body_ok (V.env_ok V.mixed V.tysOk (V.tab_cons slices_Grow_int.ok V.tab_nil)) Try.func197 (by kernel_rfl) (by kernel_rfl) (by kernel_rfl) (fun x y h => (show V.evBody slices_Concat_int.E slices_Concat_int.con Try.f197 x = _ from slices_Concat_int.eq x).trans h)
noncomputable abbrev impl_HeadInts.con : V.Con := ⟨V.A4, (.cons (.sl (.cons (.int .i64) .nil)) .nil), fun (x : V.D4) => impl_HeadInts (V.p4_0 x), [], [(true, 16)], [(false, 1)], [true], []⟩
noncomputable abbrev impl_HeadInts.E : V.Env := V.mkE V.tys [(197, slices_Concat_int.con), (198, impl_KeysInts.con), (199, impl_bit.con)] [] [(1, 33)] [] []
noncomputable abbrev impl_HeadInts.kt (x0 : THead) : V.Kt (List Int) := V.ktOf impl_HeadInts.E impl_HeadInts.con Try.f168 (V.fl4 x0)
theorem impl_HeadInts.eq (x0 : THead) : V.evBody impl_HeadInts.E impl_HeadInts.con Try.f168 (V.fl4 x0) = impl_HeadInts x0 := by kernel_rfl
theorem impl_HeadInts.ok : V.Valid Try.prog 168 impl_HeadInts.con :=
  V.body_ok (V.env_ok V.mixed V.tysOk (V.tab_cons slices_Concat_int.ok (V.tab_cons impl_KeysInts.ok (V.tab_cons impl_bit.ok V.tab_nil)))) Try.func168 (by kernel_rfl) (by kernel_rfl) (by kernel_rfl) (fun x y h => (show V.evBody impl_HeadInts.E impl_HeadInts.con Try.f168 x = _ from impl_HeadInts.eq (V.p4_0 x)).trans h)
noncomputable abbrev impl_EqualHeads.con : V.Con := ⟨V.A8, (.cons .bool .nil), fun (x : V.D8) => impl_EqualHeads (V.p8_0 x) (V.p8_1 x), [], [(true, 16), (true, 16)], [(false, 1)], [false], []⟩
noncomputable abbrev impl_EqualHeads.E : V.Env := V.mkE V.tys [(133, slices_Equal_int.con), (167, impl_EqualKeys.con), (168, impl_HeadInts.con)] [] [(1, 23)] [] []
noncomputable abbrev impl_EqualHeads.kt (x0 : THead) (x1 : THead) : V.Kt Bool := V.ktOf impl_EqualHeads.E impl_EqualHeads.con Try.f128 (V.fl8 x0 x1)
theorem impl_EqualHeads.eq (x0 : THead) (x1 : THead) : V.evBody impl_EqualHeads.E impl_EqualHeads.con Try.f128 (V.fl8 x0 x1) = impl_EqualHeads x0 x1 := by kernel_rfl
theorem impl_EqualHeads.ok : V.Valid Try.prog 128 impl_EqualHeads.con :=
  V.body_ok (V.env_ok V.mixed V.tysOk (V.tab_cons slices_Equal_int.ok (V.tab_cons impl_EqualKeys.ok (V.tab_cons impl_HeadInts.ok V.tab_nil)))) Try.func128 (by kernel_rfl) (by kernel_rfl) (by kernel_rfl) (fun x y h => (show V.evBody impl_EqualHeads.E impl_EqualHeads.con Try.f128 x = _ from impl_EqualHeads.eq (V.p8_0 x) (V.p8_1 x)).trans h)
noncomputable abbrev slices_Equal_impl_Sig.con : V.Con := ⟨(.cons (.sl (.cons (.int .i64) (.cons (.int .i64) .nil))) (.cons (.sl (.cons (.int .i64) (.cons (.int .i64) .nil))) .nil)), (.cons .bool .nil), fun (x : List TSig × List TSig) => slices_Equal_impl_Sig x.1 x.2, [], [(false, 1), (false, 1)], [(false, 1)], [false], []⟩
noncomputable abbrev slices_Equal_impl_Sig.E : V.Env := V.mkE V.tys [] [(8, [0, 1, 12, 13], [])] [(6, 8)] [] []
noncomputable abbrev slices_Equal_impl_Sig.kt (x0 : List TSig) (x1 : List TSig) : V.Kt Bool := V.ktOf slices_Equal_impl_Sig.E slices_Equal_impl_Sig.con Try.f169 ((x0, x1) : List TSig × List TSig)
noncomputable abbrev slices_Equal_impl_Sig.s8 (x0 : List TSig) (x1 : List TSig) (v8_2 : Int) (v8_3 : Int) : V.St := ⟨[(0, .v false [.val (.sl (.cons (.int .i64) (.cons (.int .i64) .nil)) x0)]), (1, .v false [.val (.sl (.cons (.int .i64) (.cons (.int .i64) .nil)) x1)]), (12, .v false [.val (.int .i64 v8_2)]), (13, .v false [.val (.int .i64 v8_3)])], []⟩
theorem slices_Equal_impl_Sig.r8 (x0 : List TSig) (x1 : List TSig) (R : V.St → Option Bool) (v8_2 : Int) (v8_3 : Int) : V.loopF slices_Equal_impl_Sig.E Try.f169.ntmps [1, 1, 0, 1, 0] [] (V.codeOf Try.f169) (slices_Equal_impl_Sig.kt x0 x1) R (slices_Equal_impl_Sig.s8 x0 x1 v8_2 v8_3) = slices_Equal_impl_Sig.g8 x0 x1 (fun v8_2 v8_3 => R (slices_Equal_impl_Sig.s8 x0 x1 v8_2 v8_3)) v8_2 v8_3 := by kernel_rfl
theorem slices_Equal_impl_Sig.e8 (x0 : List TSig) (x1 : List TSig) : ∀ (n : Nat) (v8_2 : Int) (v8_3 : Int), V.loopN (V.loopF slices_Equal_impl_Sig.E Try.f169.ntmps [1, 1, 0, 1, 0] [] (V.codeOf Try.f169) (slices_Equal_impl_Sig.kt x0 x1)) n (slices_Equal_impl_Sig.s8 x0 x1 v8_2 v8_3) = slices_Equal_impl_Sig.l8 x0 x1 n v8_2 v8_3 := by
  intro n
  induction n with
  | zero => intros; rfl
  | succ n ih =>
    intro v8_2 v8_3
    show V.loopF slices_Equal_impl_Sig.E Try.f169.ntmps [1, 1, 0, 1, 0] [] (V.codeOf Try.f169) (slices_Equal_impl_Sig.kt x0 x1) (V.loopN (V.loopF slices_Equal_impl_Sig.E Try.f169.ntmps [1, 1, 0, 1, 0] [] (V.codeOf Try.f169) (slices_Equal_impl_Sig.kt x0 x1)) n) (slices_Equal_impl_Sig.s8 x0 x1 v8_2 v8_3) = _
    rw [slices_Equal_impl_Sig.r8]
    simp only [ih]
    rfl
theorem slices_Equal_impl_Sig.v (x0 : List TSig) (x1 : List TSig) : V.evBody slices_Equal_impl_Sig.E slices_Equal_impl_Sig.con Try.f169 ((x0, x1) : List TSig × List TSig) = slices_Equal_impl_Sig.b x0 x1 (fun v8_2 v8_3 => V.loopN (V.loopF slices_Equal_impl_Sig.E Try.f169.ntmps [1, 1, 0, 1, 0] [] (V.codeOf Try.f169) (slices_Equal_impl_Sig.kt x0 x1)) V.KK (slices_Equal_impl_Sig.s8 x0 x1 v8_2 v8_3)) := by kernel_rfl
theorem slices_Equal_impl_Sig.eq (x0 : List TSig) (x1 : List TSig) : V.evBody slices_Equal_impl_Sig.E slices_Equal_impl_Sig.con Try.f169 ((x0, x1) : List TSig × List TSig) = slices_Equal_impl_Sig x0 x1 := by
  rw [slices_Equal_impl_Sig.v]
  simp only [slices_Equal_impl_Sig.e8]
  rfl
theorem slices_Equal_impl_Sig.ok : V.Valid Try.prog 169 slices_Equal_impl_Sig.con :=
  V.body_ok (V.env_ok V.mixed V.tysOk V.tab_nil) Try.func169 (by kernel_rfl) (by kernel_rfl) (by kernel_rfl) (fun x y h => (show V.evBody slices_Equal_impl_Sig.E slices_Equal_impl_Sig.con Try.f169 x = _ from slices_Equal_impl_Sig.eq x.1 x.2).trans h)
noncomputable abbrev impl_EqualSigned.con : V.Con := ⟨V.A9, (.cons .bool .nil), fun (x : V.D9) => impl_EqualSigned (V.p9_0 x) (V.p9_1 x), [], [(true, 17), (true, 17)], [(false, 1)], [false], []⟩
noncomputable abbrev impl_EqualSigned.E : V.Env := V.mkE V.tys [(128, impl_EqualHeads.con), (169, slices_Equal_impl_Sig.con)] [] [] [] []
noncomputable abbrev impl_EqualSigned.kt (x0 : TSigned) (x1 : TSigned) : V.Kt Bool := V.ktOf impl_EqualSigned.E impl_EqualSigned.con Try.f129 (V.fl9 x0 x1)
theorem impl_EqualSigned.eq (x0 : TSigned) (x1 : TSigned) : V.evBody impl_EqualSigned.E impl_EqualSigned.con Try.f129 (V.fl9 x0 x1) = impl_EqualSigned x0 x1 := by kernel_rfl
theorem impl_EqualSigned.ok : V.Valid Try.prog 129 impl_EqualSigned.con :=
  V.body_ok (V.env_ok V.mixed V.tysOk (V.tab_cons impl_EqualHeads.ok (V.tab_cons slices_Equal_impl_Sig.ok V.tab_nil))) Try.func129 (by kernel_rfl) (by kernel_rfl) (by kernel_rfl) (fun x y h => (show V.evBody impl_EqualSigned.E impl_EqualSigned.con Try.f129 x = _ from impl_EqualSigned.eq (V.p9_0 x) (V.p9_1 x)).trans h)
noncomputable abbrev slices_EqualFunc_impl_Signed.con : V.Con := ⟨(.cons (.sl V.eSigned) (.cons (.sl V.eSigned) (.cons (.fn 129 false .nil .nil) .nil))), (.cons .bool .nil), fun (x : List TSigned × List TSigned × (Unit) × (Unit)) => slices_EqualFunc_impl_Signed x.1 x.2.1 x.2.2, [], [(false, 1), (false, 1), (false, 1)], [(false, 1)], [false], []⟩
noncomputable abbrev slices_EqualFunc_impl_Signed.E : V.Env := V.mkE V.tys [(129, impl_EqualSigned.con)] [(8, [1, 2, 15, 16, 17], [])] [] [] []
noncomputable abbrev slices_EqualFunc_impl_Signed.kt (x0 : List TSigned) (x1 : List TSigned) (x2 : (Unit) × (Unit)) : V.Kt Bool := V.ktOf slices_EqualFunc_impl_Signed.E slices_EqualFunc_impl_Signed.con Try.f151 ((x0, x1, x2) : List TSigned × List TSigned × (Unit) × (Unit))
noncomputable abbrev slices_EqualFunc_impl_Signed.s8 (x0 : List TSigned) (x1 : List TSigned) (v8_2 : Int) (v8_3 : Int) : V.St := ⟨[(1, .v false [.val (.sl V.eSigned x1)]), (2, .v false [.val (.fn 129 false .nil .nil () ())]), (15, .v false [.val (.sl V.eSigned x0)]), (16, .v false [.val (.int .i64 v8_2)]), (17, .v false [.val (.int .i64 v8_3)])], []⟩
theorem slices_EqualFunc_impl_Signed.r8 (x0 : List TSigned) (x1 : List TSigned) (x2 : (Unit) × (Unit)) (R : V.St → Option Bool) (v8_2 : Int) (v8_3 : Int) : V.loopF slices_EqualFunc_impl_Signed.E Try.f151.ntmps [1, 1, 0, 1, 0] [] (V.codeOf Try.f151) (slices_EqualFunc_impl_Signed.kt x0 x1 x2) R (slices_EqualFunc_impl_Signed.s8 x0 x1 v8_2 v8_3) = slices_EqualFunc_impl_Signed.g8 x0 x1 (fun v8_2 v8_3 => R (slices_EqualFunc_impl_Signed.s8 x0 x1 v8_2 v8_3)) v8_2 v8_3 := by kernel_rfl
theorem slices_EqualFunc_impl_Signed.e8 (x0 : List TSigned) (x1 : List TSigned) (x2 : (Unit) × (Unit)) : ∀ (n : Nat) (v8_2 : Int) (v8_3 : Int), V.loopN (V.loopF slices_EqualFunc_impl_Signed.E Try.f151.ntmps [1, 1, 0, 1, 0] [] (V.codeOf Try.f151) (slices_EqualFunc_impl_Signed.kt x0 x1 x2)) n (slices_EqualFunc_impl_Signed.s8 x0 x1 v8_2 v8_3) = slices_EqualFunc_impl_Signed.l8 x0 x1 n v8_2 v8_3 := by
  intro n
  induction n with
  | zero => intros; rfl
  | succ n ih =>
    intro v8_2 v8_3
    show V.loopF slices_EqualFunc_impl_Signed.E Try.f151.ntmps [1, 1, 0, 1, 0] [] (V.codeOf Try.f151) (slices_EqualFunc_impl_Signed.kt x0 x1 x2) (V.loopN (V.loopF slices_EqualFunc_impl_Signed.E Try.f151.ntmps [1, 1, 0, 1, 0] [] (V.codeOf Try.f151) (slices_EqualFunc_impl_Signed.kt x0 x1 x2)) n) (slices_EqualFunc_impl_Signed.s8 x0 x1 v8_2 v8_3) = _
    rw [slices_EqualFunc_impl_Signed.r8]
    simp only [ih]
    rfl
theorem slices_EqualFunc_impl_Signed.v (x0 : List TSigned) (x1 : List TSigned) (x2 : (Unit) × (Unit)) : V.evBody slices_EqualFunc_impl_Signed.E slices_EqualFunc_impl_Signed.con Try.f151 ((x0, x1, x2) : List TSigned × List TSigned × (Unit) × (Unit)) = slices_EqualFunc_impl_Signed.b x0 x1 x2 (fun v8_2 v8_3 => V.loopN (V.loopF slices_EqualFunc_impl_Signed.E Try.f151.ntmps [1, 1, 0, 1, 0] [] (V.codeOf Try.f151) (slices_EqualFunc_impl_Signed.kt x0 x1 x2)) V.KK (slices_EqualFunc_impl_Signed.s8 x0 x1 v8_2 v8_3)) := by kernel_rfl
theorem slices_EqualFunc_impl_Signed.eq (x0 : List TSigned) (x1 : List TSigned) (x2 : (Unit) × (Unit)) : V.evBody slices_EqualFunc_impl_Signed.E slices_EqualFunc_impl_Signed.con Try.f151 ((x0, x1, x2) : List TSigned × List TSigned × (Unit) × (Unit)) = slices_EqualFunc_impl_Signed x0 x1 x2 := by
  rw [slices_EqualFunc_impl_Signed.v]
  simp only [slices_EqualFunc_impl_Signed.e8]
  rfl
theorem slices_EqualFunc_impl_Signed.ok : V.Valid Try.prog 151 slices_EqualFunc_impl_Signed.con :=
  V.body_ok (V.env_ok V.mixed V.tysOk (V.tab_cons impl_EqualSigned.ok V.tab_nil)) Try.func151 (by kernel_rfl) (by kernel_rfl) (by kernel_rfl) (fun x y h => (show V.evBody slices_EqualFunc_impl_Signed.E slices_EqualFunc_impl_Signed.con Try.f151 x = _ from slices_EqualFunc_impl_Signed.eq x.1 x.2.1 x.2.2).trans h)
noncomputable abbrev impl_sameChain.con : V.Con := ⟨(.cons (.sl V.eSigned) (.cons (.sl V.eSigned) .nil)), (.cons .bool .nil), fun (x : List TSigned × List TSigned) => impl_sameChain x.1 x.2, [], [(false, 1), (false, 1)], [(false, 1)], [false], []⟩
noncomputable abbrev impl_sameChain.E : V.Env := V.mkE V.tys [(151, slices_EqualFunc_impl_Signed.con)] [] [] [] []
noncomputable abbrev impl_sameChain.kt (x0 : List TSigned) (x1 : List TSigned) : V.Kt Bool := V.ktOf impl_sameChain.E impl_sameChain.con Try.f93 ((x0, x1) : List TSigned × List TSigned)
theorem impl_sameChain.eq (x0 : List TSigned) (x1 : List TSigned) : V.evBody impl_sameChain.E impl_sameChain.con Try.f93 ((x0, x1) : List TSigned × List TSigned) = impl_sameChain x0 x1 := by kernel_rfl
theorem impl_sameChain.ok : V.Valid Try.prog 93 impl_sameChain.con :=
  V.body_ok (V.env_ok V.mixed V.tysOk (V.tab_cons slices_EqualFunc_impl_Signed.ok V.tab_nil)) Try.func93 (by kernel_rfl) (by kernel_rfl) (by kernel_rfl) (fun x y h => (show V.evBody impl_sameChain.E impl_sameChain.con Try.f93 x = _ from impl_sameChain.eq x.1 x.2).trans h)
noncomputable abbrev slices_Equal_string.con : V.Con := ⟨(.cons (.sl (.cons .str .nil)) (.cons (.sl (.cons .str .nil)) .nil)), (.cons .bool .nil), fun (x : List ByteArray × List ByteArray) => slices_Equal_string x.1 x.2, [], [(false, 1), (false, 1)], [(false, 1)], [false], []⟩
noncomputable abbrev slices_Equal_string.E : V.Env := V.mkE V.tys [] [(8, [0, 1, 12, 13], [])] [(6, 8)] [] []
noncomputable abbrev slices_Equal_string.kt (x0 : List ByteArray) (x1 : List ByteArray) : V.Kt Bool := V.ktOf slices_Equal_string.E slices_Equal_string.con Try.f159 ((x0, x1) : List ByteArray × List ByteArray)
noncomputable abbrev slices_Equal_string.s8 (x0 : List ByteArray) (x1 : List ByteArray) (v8_2 : Int) (v8_3 : Int) : V.St := ⟨[(0, .v false [.val (.sl (.cons .str .nil) x0)]), (1, .v false [.val (.sl (.cons .str .nil) x1)]), (12, .v false [.val (.int .i64 v8_2)]), (13, .v false [.val (.int .i64 v8_3)])], []⟩
theorem slices_Equal_string.r8 (x0 : List ByteArray) (x1 : List ByteArray) (R : V.St → Option Bool) (v8_2 : Int) (v8_3 : Int) : V.loopF slices_Equal_string.E Try.f159.ntmps [1, 1, 0, 1, 0] [] (V.codeOf Try.f159) (slices_Equal_string.kt x0 x1) R (slices_Equal_string.s8 x0 x1 v8_2 v8_3) = slices_Equal_string.g8 x0 x1 (fun v8_2 v8_3 => R (slices_Equal_string.s8 x0 x1 v8_2 v8_3)) v8_2 v8_3 := by kernel_rfl
theorem slices_Equal_string.e8 (x0 : List ByteArray) (x1 : List ByteArray) : ∀ (n : Nat) (v8_2 : Int) (v8_3 : Int), V.loopN (V.loopF slices_Equal_string.E Try.f159.ntmps [1, 1, 0, 1, 0] [] (V.codeOf Try.f159) (slices_Equal_string.kt x0 x1)) n (slices_Equal_string.s8 x0 x1 v8_2 v8_3) = slices_Equal_string.l8 x0 x1 n v8_2 v8_3 := by
  intro n
  induction n with
  | zero => intros; rfl
  | succ n ih =>
    intro v8_2 v8_3
    show V.loopF slices_Equal_string.E Try.f159.ntmps [1, 1, 0, 1, 0] [] (V.codeOf Try.f159) (slices_Equal_string.kt x0 x1) (V.loopN (V.loopF slices_Equal_string.E Try.f159.ntmps [1, 1, 0, 1, 0] [] (V.codeOf Try.f159) (slices_Equal_string.kt x0 x1)) n) (slices_Equal_string.s8 x0 x1 v8_2 v8_3) = _
    rw [slices_Equal_string.r8]
    simp only [ih]
    rfl
theorem slices_Equal_string.v (x0 : List ByteArray) (x1 : List ByteArray) : V.evBody slices_Equal_string.E slices_Equal_string.con Try.f159 ((x0, x1) : List ByteArray × List ByteArray) = slices_Equal_string.b x0 x1 (fun v8_2 v8_3 => V.loopN (V.loopF slices_Equal_string.E Try.f159.ntmps [1, 1, 0, 1, 0] [] (V.codeOf Try.f159) (slices_Equal_string.kt x0 x1)) V.KK (slices_Equal_string.s8 x0 x1 v8_2 v8_3)) := by kernel_rfl
theorem slices_Equal_string.eq (x0 : List ByteArray) (x1 : List ByteArray) : V.evBody slices_Equal_string.E slices_Equal_string.con Try.f159 ((x0, x1) : List ByteArray × List ByteArray) = slices_Equal_string x0 x1 := by
  rw [slices_Equal_string.v]
  simp only [slices_Equal_string.e8]
  rfl
theorem slices_Equal_string.ok : V.Valid Try.prog 159 slices_Equal_string.con :=
  V.body_ok (V.env_ok V.mixed V.tysOk V.tab_nil) Try.func159 (by kernel_rfl) (by kernel_rfl) (by kernel_rfl) (fun x y h => (show V.evBody slices_Equal_string.E slices_Equal_string.con Try.f159 x = _ from slices_Equal_string.eq x.1 x.2).trans h)
noncomputable abbrev impl_EqualEntries.con : V.Con := ⟨(.cons .str (.cons (.int .i64) (.cons (.int .i64) (.cons (.sl (.cons .str .nil)) (.cons .str (.cons (.int .i64) (.cons (.int .i64) (.cons (.sl (.cons .str .nil)) .nil)))))))), (.cons .bool .nil), fun (x : ByteArray × Int × Int × List ByteArray × ByteArray × Int × Int × List ByteArray) => impl_EqualEntries (x.1, x.2.1, x.2.2.1, x.2.2.2.1) x.2.2.2.2, [], [(true, 4), (true, 4)], [(false, 1)], [false], []⟩
noncomputable abbrev impl_EqualEntries.E : V.Env := V.mkE V.tys [(159, slices_Equal_string.con)] [] [] [] []
noncomputable abbrev impl_EqualEntries.kt (x0 : TEntry) (x1 : TEntry) : V.Kt Bool := V.ktOf impl_EqualEntries.E impl_EqualEntries.con Try.f112 ((x0.1, x0.2.1, x0.2.2.1, x0.2.2.2, x1.1, x1.2.1, x1.2.2.1, x1.2.2.2) : ByteArray × Int × Int × List ByteArray × ByteArray × Int × Int × List ByteArray)
theorem impl_EqualEntries.eq (x0 : TEntry) (x1 : TEntry) : V.evBody impl_EqualEntries.E impl_EqualEntries.con Try.f112 ((x0.1, x0.2.1, x0.2.2.1, x0.2.2.2, x1.1, x1.2.1, x1.2.2.1, x1.2.2.2) : ByteArray × Int × Int × List ByteArray × ByteArray × Int × Int × List ByteArray) = impl_EqualEntries x0 x1 := by kernel_rfl
theorem impl_EqualEntries.ok : V.Valid Try.prog 112 impl_EqualEntries.con :=
  V.body_ok (V.env_ok V.mixed V.tysOk (V.tab_cons slices_Equal_string.ok V.tab_nil)) Try.func112 (by kernel_rfl) (by kernel_rfl) (by kernel_rfl) (fun x y h => (show V.evBody impl_EqualEntries.E impl_EqualEntries.con Try.f112 x = _ from impl_EqualEntries.eq (x.1, x.2.1, x.2.2.1, x.2.2.2.1) x.2.2.2.2).trans h)
noncomputable abbrev impl_EqualProofs.con : V.Con := ⟨(.cons (.int .i64) (.cons (.sl (.cons (.int .i64) .nil)) (.cons (.int .i64) (.cons (.sl (.cons (.int .i64) .nil)) .nil)))), (.cons .bool .nil), fun (x : Int × List Int × Int × List Int) => impl_EqualProofs (x.1, x.2.1) x.2.2, [], [(true, 2), (true, 2)], [(false, 1)], [false], []⟩
noncomputable abbrev impl_EqualProofs.E : V.Env := V.mkE V.tys [(133, slices_Equal_int.con)] [] [] [] []
noncomputable abbrev impl_EqualProofs.kt (x0 : TProof) (x1 : TProof) : V.Kt Bool := V.ktOf impl_EqualProofs.E impl_EqualProofs.con Try.f113 ((x0.1, x0.2, x1.1, x1.2) : Int × List Int × Int × List Int)
theorem impl_EqualProofs.eq (x0 : TProof) (x1 : TProof) : V.evBody impl_EqualProofs.E impl_EqualProofs.con Try.f113 ((x0.1, x0.2, x1.1, x1.2) : Int × List Int × Int × List Int) = impl_EqualProofs x0 x1 := by kernel_rfl
theorem impl_EqualProofs.ok : V.Valid Try.prog 113 impl_EqualProofs.con :=
  V.body_ok (V.env_ok V.mixed V.tysOk (V.tab_cons slices_Equal_int.ok V.tab_nil)) Try.func113 (by kernel_rfl) (by kernel_rfl) (by kernel_rfl) (fun x y h => (show V.evBody impl_EqualProofs.E impl_EqualProofs.con Try.f113 x = _ from impl_EqualProofs.eq (x.1, x.2.1) x.2.2).trans h)
noncomputable abbrev impl_EqualGaps.con : V.Con := ⟨V.A10, (.cons .bool .nil), fun (x : V.D10) => impl_EqualGaps (V.p10_0 x) (V.p10_1 x), [], [(true, 13), (true, 13)], [(false, 1)], [false], []⟩
noncomputable abbrev impl_EqualGaps.E : V.Env := V.mkE V.tys [(112, impl_EqualEntries.con), (113, impl_EqualProofs.con)] [] [] [] []
noncomputable abbrev impl_EqualGaps.kt (x0 : TGap) (x1 : TGap) : V.Kt Bool := V.ktOf impl_EqualGaps.E impl_EqualGaps.con Try.f114 (V.fl10 x0 x1)
theorem impl_EqualGaps.eq (x0 : TGap) (x1 : TGap) : V.evBody impl_EqualGaps.E impl_EqualGaps.con Try.f114 (V.fl10 x0 x1) = impl_EqualGaps x0 x1 := by kernel_rfl
theorem impl_EqualGaps.ok : V.Valid Try.prog 114 impl_EqualGaps.con :=
  V.body_ok (V.env_ok V.mixed V.tysOk (V.tab_cons impl_EqualEntries.ok (V.tab_cons impl_EqualProofs.ok V.tab_nil))) Try.func114 (by kernel_rfl) (by kernel_rfl) (by kernel_rfl) (fun x y h => (show V.evBody impl_EqualGaps.E impl_EqualGaps.con Try.f114 x = _ from impl_EqualGaps.eq (V.p10_0 x) (V.p10_1 x)).trans h)
noncomputable abbrev impl_EqualAnswers.con : V.Con := ⟨V.A11, (.cons .bool .nil), fun (x : V.D11) => impl_EqualAnswers (V.p11_0 x) (V.p11_1 x), [], [(true, 21), (true, 21)], [(false, 1)], [false], []⟩
noncomputable abbrev impl_EqualAnswers.E : V.Env := V.mkE V.tys [(93, impl_sameChain.con), (112, impl_EqualEntries.con), (113, impl_EqualProofs.con), (114, impl_EqualGaps.con)] [] [] [] []
noncomputable abbrev impl_EqualAnswers.kt (x0 : TAnswer) (x1 : TAnswer) : V.Kt Bool := V.ktOf impl_EqualAnswers.E impl_EqualAnswers.con Try.f43 (V.fl11 x0 x1)
theorem impl_EqualAnswers.eq (x0 : TAnswer) (x1 : TAnswer) : V.evBody impl_EqualAnswers.E impl_EqualAnswers.con Try.f43 (V.fl11 x0 x1) = impl_EqualAnswers x0 x1 := by kernel_rfl
theorem impl_EqualAnswers.ok : V.Valid Try.prog 43 impl_EqualAnswers.con :=
  V.body_ok (V.env_ok V.mixed V.tysOk (V.tab_cons impl_sameChain.ok (V.tab_cons impl_EqualEntries.ok (V.tab_cons impl_EqualProofs.ok (V.tab_cons impl_EqualGaps.ok V.tab_nil))))) Try.func43 (by kernel_rfl) (by kernel_rfl) (by kernel_rfl) (fun x y h => (show V.evBody impl_EqualAnswers.E impl_EqualAnswers.con Try.f43 x = _ from impl_EqualAnswers.eq (V.p11_0 x) (V.p11_1 x)).trans h)
noncomputable abbrev laws_eqIntS.con : V.Con := ⟨(.cons (.sl (.cons (.int .i64) .nil)) (.cons (.sl (.cons (.int .i64) .nil)) .nil)), (.cons .bool .nil), fun (x : List Int × List Int) => laws_eqIntS x.1 x.2, [], [(false, 1), (false, 1)], [(false, 1)], [false], []⟩
noncomputable abbrev laws_eqIntS.E : V.Env := V.mkE V.tys [] [(8, [0, 1, 5], [])] [(6, 8)] [] []
noncomputable abbrev laws_eqIntS.kt (x0 : List Int) (x1 : List Int) : V.Kt Bool := V.ktOf laws_eqIntS.E laws_eqIntS.con Try.f80 ((x0, x1) : List Int × List Int)
noncomputable abbrev laws_eqIntS.s8 (x0 : List Int) (x1 : List Int) (v8_2 : Int) : V.St := ⟨[(0, .v false [.val (.sl (.cons (.int .i64) .nil) x0)]), (1, .v false [.val (.sl (.cons (.int .i64) .nil) x1)]), (5, .v false [.val (.int .i64 v8_2)])], []⟩
theorem laws_eqIntS.r8 (x0 : List Int) (x1 : List Int) (R : V.St → Option Bool) (v8_2 : Int) : V.loopF laws_eqIntS.E Try.f80.ntmps [1, 1, 0, 1, 0] [] (V.codeOf Try.f80) (laws_eqIntS.kt x0 x1) R (laws_eqIntS.s8 x0 x1 v8_2) = laws_eqIntS.g8 x0 x1 (fun v8_2 => R (laws_eqIntS.s8 x0 x1 v8_2)) v8_2 := by kernel_rfl
theorem laws_eqIntS.e8 (x0 : List Int) (x1 : List Int) : ∀ (n : Nat) (v8_2 : Int), V.loopN (V.loopF laws_eqIntS.E Try.f80.ntmps [1, 1, 0, 1, 0] [] (V.codeOf Try.f80) (laws_eqIntS.kt x0 x1)) n (laws_eqIntS.s8 x0 x1 v8_2) = laws_eqIntS.l8 x0 x1 n v8_2 := by
  intro n
  induction n with
  | zero => intros; rfl
  | succ n ih =>
    intro v8_2
    show V.loopF laws_eqIntS.E Try.f80.ntmps [1, 1, 0, 1, 0] [] (V.codeOf Try.f80) (laws_eqIntS.kt x0 x1) (V.loopN (V.loopF laws_eqIntS.E Try.f80.ntmps [1, 1, 0, 1, 0] [] (V.codeOf Try.f80) (laws_eqIntS.kt x0 x1)) n) (laws_eqIntS.s8 x0 x1 v8_2) = _
    rw [laws_eqIntS.r8]
    simp only [ih]
    rfl
theorem laws_eqIntS.v (x0 : List Int) (x1 : List Int) : V.evBody laws_eqIntS.E laws_eqIntS.con Try.f80 ((x0, x1) : List Int × List Int) = laws_eqIntS.b x0 x1 (fun v8_2 => V.loopN (V.loopF laws_eqIntS.E Try.f80.ntmps [1, 1, 0, 1, 0] [] (V.codeOf Try.f80) (laws_eqIntS.kt x0 x1)) V.KK (laws_eqIntS.s8 x0 x1 v8_2)) := by kernel_rfl
theorem laws_eqIntS.eq (x0 : List Int) (x1 : List Int) : V.evBody laws_eqIntS.E laws_eqIntS.con Try.f80 ((x0, x1) : List Int × List Int) = laws_eqIntS x0 x1 := by
  rw [laws_eqIntS.v]
  simp only [laws_eqIntS.e8]
  rfl
theorem laws_eqIntS.ok : V.Valid Try.prog 80 laws_eqIntS.con :=
  V.body_ok (V.env_ok V.mixed V.tysOk V.tab_nil) Try.func80 (by kernel_rfl) (by kernel_rfl) (by kernel_rfl) (fun x y h => (show V.evBody laws_eqIntS.E laws_eqIntS.con Try.f80 x = _ from laws_eqIntS.eq x.1 x.2).trans h)
noncomputable abbrev laws_eqKeys.con : V.Con := ⟨(.cons (.sl (.cons (.int .i64) .nil)) (.cons (.int .i64) (.cons (.sl (.cons (.int .i64) .nil)) (.cons (.int .i64) .nil)))), (.cons .bool .nil), fun (x : List Int × Int × List Int × Int) => laws_eqKeys (x.1, x.2.1) x.2.2, [], [(true, 2), (true, 2)], [(false, 1)], [false], []⟩
noncomputable abbrev laws_eqKeys.E : V.Env := V.mkE V.tys [(80, laws_eqIntS.con)] [] [] [] []
noncomputable abbrev laws_eqKeys.kt (x0 : TKeys) (x1 : TKeys) : V.Kt Bool := V.ktOf laws_eqKeys.E laws_eqKeys.con Try.f22 ((x0.1, x0.2, x1.1, x1.2) : List Int × Int × List Int × Int)
theorem laws_eqKeys.eq (x0 : TKeys) (x1 : TKeys) : V.evBody laws_eqKeys.E laws_eqKeys.con Try.f22 ((x0.1, x0.2, x1.1, x1.2) : List Int × Int × List Int × Int) = laws_eqKeys x0 x1 := by kernel_rfl
theorem laws_eqKeys.ok : V.Valid Try.prog 22 laws_eqKeys.con :=
  V.body_ok (V.env_ok V.mixed V.tysOk (V.tab_cons laws_eqIntS.ok V.tab_nil)) Try.func22 (by kernel_rfl) (by kernel_rfl) (by kernel_rfl) (fun x y h => (show V.evBody laws_eqKeys.E laws_eqKeys.con Try.f22 x = _ from laws_eqKeys.eq (x.1, x.2.1) x.2.2).trans h)
noncomputable abbrev laws_eqHead.con : V.Con := ⟨V.A8, (.cons .bool .nil), fun (x : V.D8) => laws_eqHead (V.p8_0 x) (V.p8_1 x), [], [(true, 16), (true, 16)], [(false, 1)], [false], []⟩
noncomputable abbrev laws_eqHead.E : V.Env := V.mkE V.tys [(22, laws_eqKeys.con)] [] [] [] []
noncomputable abbrev laws_eqHead.kt (x0 : THead) (x1 : THead) : V.Kt Bool := V.ktOf laws_eqHead.E laws_eqHead.con Try.f21 (V.fl8 x0 x1)
theorem laws_eqHead.eq (x0 : THead) (x1 : THead) : V.evBody laws_eqHead.E laws_eqHead.con Try.f21 (V.fl8 x0 x1) = laws_eqHead x0 x1 := by kernel_rfl
theorem laws_eqHead.ok : V.Valid Try.prog 21 laws_eqHead.con :=
  V.body_ok (V.env_ok V.mixed V.tysOk (V.tab_cons laws_eqKeys.ok V.tab_nil)) Try.func21 (by kernel_rfl) (by kernel_rfl) (by kernel_rfl) (fun x y h => (show V.evBody laws_eqHead.E laws_eqHead.con Try.f21 x = _ from laws_eqHead.eq (V.p8_0 x) (V.p8_1 x)).trans h)
noncomputable abbrev laws_eqSig.con : V.Con := ⟨(.cons (.int .i64) (.cons (.int .i64) (.cons (.int .i64) (.cons (.int .i64) .nil)))), (.cons .bool .nil), fun (x : Int × Int × Int × Int) => laws_eqSig (x.1, x.2.1) x.2.2, [], [(true, 2), (true, 2)], [(false, 1)], [false], []⟩
noncomputable abbrev laws_eqSig.E : V.Env := V.mkE V.tys [] [] [] [] []
noncomputable abbrev laws_eqSig.kt (x0 : TSig) (x1 : TSig) : V.Kt Bool := V.ktOf laws_eqSig.E laws_eqSig.con Try.f191 ((x0.1, x0.2, x1.1, x1.2) : Int × Int × Int × Int)
theorem laws_eqSig.eq (x0 : TSig) (x1 : TSig) : V.evBody laws_eqSig.E laws_eqSig.con Try.f191 ((x0.1, x0.2, x1.1, x1.2) : Int × Int × Int × Int) = laws_eqSig x0 x1 := by kernel_rfl
theorem laws_eqSig.ok : V.Valid Try.prog 191 laws_eqSig.con :=
  V.body_ok (V.env_ok V.mixed V.tysOk V.tab_nil) Try.func191 (by kernel_rfl) (by kernel_rfl) (by kernel_rfl) (fun x y h => (show V.evBody laws_eqSig.E laws_eqSig.con Try.f191 x = _ from laws_eqSig.eq (x.1, x.2.1) x.2.2).trans h)
noncomputable abbrev laws_eqSigS.con : V.Con := ⟨(.cons (.sl (.cons (.int .i64) (.cons (.int .i64) .nil))) (.cons (.sl (.cons (.int .i64) (.cons (.int .i64) .nil))) .nil)), (.cons .bool .nil), fun (x : List TSig × List TSig) => laws_eqSigS x.1 x.2, [], [(false, 1), (false, 1)], [(false, 1)], [false], []⟩
noncomputable abbrev laws_eqSigS.E : V.Env := V.mkE V.tys [(191, laws_eqSig.con)] [(8, [0, 1, 5], [])] [(6, 8)] [] []
noncomputable abbrev laws_eqSigS.kt (x0 : List TSig) (x1 : List TSig) : V.Kt Bool := V.ktOf laws_eqSigS.E laws_eqSigS.con Try.f162 ((x0, x1) : List TSig × List TSig)
noncomputable abbrev laws_eqSigS.s8 (x0 : List TSig) (x1 : List TSig) (v8_2 : Int) : V.St := ⟨[(0, .v false [.val (.sl (.cons (.int .i64) (.cons (.int .i64) .nil)) x0)]), (1, .v false [.val (.sl (.cons (.int .i64) (.cons (.int .i64) .nil)) x1)]), (5, .v false [.val (.int .i64 v8_2)])], []⟩
theorem laws_eqSigS.r8 (x0 : List TSig) (x1 : List TSig) (R : V.St → Option Bool) (v8_2 : Int) : V.loopF laws_eqSigS.E Try.f162.ntmps [1, 1, 0, 1, 0] [] (V.codeOf Try.f162) (laws_eqSigS.kt x0 x1) R (laws_eqSigS.s8 x0 x1 v8_2) = laws_eqSigS.g8 x0 x1 (fun v8_2 => R (laws_eqSigS.s8 x0 x1 v8_2)) v8_2 := by kernel_rfl
theorem laws_eqSigS.e8 (x0 : List TSig) (x1 : List TSig) : ∀ (n : Nat) (v8_2 : Int), V.loopN (V.loopF laws_eqSigS.E Try.f162.ntmps [1, 1, 0, 1, 0] [] (V.codeOf Try.f162) (laws_eqSigS.kt x0 x1)) n (laws_eqSigS.s8 x0 x1 v8_2) = laws_eqSigS.l8 x0 x1 n v8_2 := by
  intro n
  induction n with
  | zero => intros; rfl
  | succ n ih =>
    intro v8_2
    show V.loopF laws_eqSigS.E Try.f162.ntmps [1, 1, 0, 1, 0] [] (V.codeOf Try.f162) (laws_eqSigS.kt x0 x1) (V.loopN (V.loopF laws_eqSigS.E Try.f162.ntmps [1, 1, 0, 1, 0] [] (V.codeOf Try.f162) (laws_eqSigS.kt x0 x1)) n) (laws_eqSigS.s8 x0 x1 v8_2) = _
    rw [laws_eqSigS.r8]
    simp only [ih]
    rfl
theorem laws_eqSigS.v (x0 : List TSig) (x1 : List TSig) : V.evBody laws_eqSigS.E laws_eqSigS.con Try.f162 ((x0, x1) : List TSig × List TSig) = laws_eqSigS.b x0 x1 (fun v8_2 => V.loopN (V.loopF laws_eqSigS.E Try.f162.ntmps [1, 1, 0, 1, 0] [] (V.codeOf Try.f162) (laws_eqSigS.kt x0 x1)) V.KK (laws_eqSigS.s8 x0 x1 v8_2)) := by kernel_rfl
theorem laws_eqSigS.eq (x0 : List TSig) (x1 : List TSig) : V.evBody laws_eqSigS.E laws_eqSigS.con Try.f162 ((x0, x1) : List TSig × List TSig) = laws_eqSigS x0 x1 := by
  rw [laws_eqSigS.v]
  simp only [laws_eqSigS.e8]
  rfl
theorem laws_eqSigS.ok : V.Valid Try.prog 162 laws_eqSigS.con :=
  V.body_ok (V.env_ok V.mixed V.tysOk (V.tab_cons laws_eqSig.ok V.tab_nil)) Try.func162 (by kernel_rfl) (by kernel_rfl) (by kernel_rfl) (fun x y h => (show V.evBody laws_eqSigS.E laws_eqSigS.con Try.f162 x = _ from laws_eqSigS.eq x.1 x.2).trans h)
noncomputable abbrev laws_eqSigned.con : V.Con := ⟨V.A9, (.cons .bool .nil), fun (x : V.D9) => laws_eqSigned (V.p9_0 x) (V.p9_1 x), [], [(true, 17), (true, 17)], [(false, 1)], [false], []⟩
noncomputable abbrev laws_eqSigned.E : V.Env := V.mkE V.tys [(21, laws_eqHead.con), (162, laws_eqSigS.con)] [] [] [] []
noncomputable abbrev laws_eqSigned.kt (x0 : TSigned) (x1 : TSigned) : V.Kt Bool := V.ktOf laws_eqSigned.E laws_eqSigned.con Try.f123 (V.fl9 x0 x1)
theorem laws_eqSigned.eq (x0 : TSigned) (x1 : TSigned) : V.evBody laws_eqSigned.E laws_eqSigned.con Try.f123 (V.fl9 x0 x1) = laws_eqSigned x0 x1 := by kernel_rfl
theorem laws_eqSigned.ok : V.Valid Try.prog 123 laws_eqSigned.con :=
  V.body_ok (V.env_ok V.mixed V.tysOk (V.tab_cons laws_eqHead.ok (V.tab_cons laws_eqSigS.ok V.tab_nil))) Try.func123 (by kernel_rfl) (by kernel_rfl) (by kernel_rfl) (fun x y h => (show V.evBody laws_eqSigned.E laws_eqSigned.con Try.f123 x = _ from laws_eqSigned.eq (V.p9_0 x) (V.p9_1 x)).trans h)
noncomputable abbrev laws_eqSignedS.con : V.Con := ⟨(.cons (.sl V.eSigned) (.cons (.sl V.eSigned) .nil)), (.cons .bool .nil), fun (x : List TSigned × List TSigned) => laws_eqSignedS x.1 x.2, [], [(false, 1), (false, 1)], [(false, 1)], [false], []⟩
noncomputable abbrev laws_eqSignedS.E : V.Env := V.mkE V.tys [(123, laws_eqSigned.con)] [(8, [0, 1, 5], [])] [(6, 8)] [] []
noncomputable abbrev laws_eqSignedS.kt (x0 : List TSigned) (x1 : List TSigned) : V.Kt Bool := V.ktOf laws_eqSignedS.E laws_eqSignedS.con Try.f49 ((x0, x1) : List TSigned × List TSigned)
noncomputable abbrev laws_eqSignedS.s8 (x0 : List TSigned) (x1 : List TSigned) (v8_2 : Int) : V.St := ⟨[(0, .v false [.val (.sl V.eSigned x0)]), (1, .v false [.val (.sl V.eSigned x1)]), (5, .v false [.val (.int .i64 v8_2)])], []⟩
theorem laws_eqSignedS.r8 (x0 : List TSigned) (x1 : List TSigned) (R : V.St → Option Bool) (v8_2 : Int) : V.loopF laws_eqSignedS.E Try.f49.ntmps [1, 1, 0, 1, 0] [] (V.codeOf Try.f49) (laws_eqSignedS.kt x0 x1) R (laws_eqSignedS.s8 x0 x1 v8_2) = laws_eqSignedS.g8 x0 x1 (fun v8_2 => R (laws_eqSignedS.s8 x0 x1 v8_2)) v8_2 := by kernel_rfl
theorem laws_eqSignedS.e8 (x0 : List TSigned) (x1 : List TSigned) : ∀ (n : Nat) (v8_2 : Int), V.loopN (V.loopF laws_eqSignedS.E Try.f49.ntmps [1, 1, 0, 1, 0] [] (V.codeOf Try.f49) (laws_eqSignedS.kt x0 x1)) n (laws_eqSignedS.s8 x0 x1 v8_2) = laws_eqSignedS.l8 x0 x1 n v8_2 := by
  intro n
  induction n with
  | zero => intros; rfl
  | succ n ih =>
    intro v8_2
    show V.loopF laws_eqSignedS.E Try.f49.ntmps [1, 1, 0, 1, 0] [] (V.codeOf Try.f49) (laws_eqSignedS.kt x0 x1) (V.loopN (V.loopF laws_eqSignedS.E Try.f49.ntmps [1, 1, 0, 1, 0] [] (V.codeOf Try.f49) (laws_eqSignedS.kt x0 x1)) n) (laws_eqSignedS.s8 x0 x1 v8_2) = _
    rw [laws_eqSignedS.r8]
    simp only [ih]
    rfl
theorem laws_eqSignedS.v (x0 : List TSigned) (x1 : List TSigned) : V.evBody laws_eqSignedS.E laws_eqSignedS.con Try.f49 ((x0, x1) : List TSigned × List TSigned) = laws_eqSignedS.b x0 x1 (fun v8_2 => V.loopN (V.loopF laws_eqSignedS.E Try.f49.ntmps [1, 1, 0, 1, 0] [] (V.codeOf Try.f49) (laws_eqSignedS.kt x0 x1)) V.KK (laws_eqSignedS.s8 x0 x1 v8_2)) := by kernel_rfl
theorem laws_eqSignedS.eq (x0 : List TSigned) (x1 : List TSigned) : V.evBody laws_eqSignedS.E laws_eqSignedS.con Try.f49 ((x0, x1) : List TSigned × List TSigned) = laws_eqSignedS x0 x1 := by
  rw [laws_eqSignedS.v]
  simp only [laws_eqSignedS.e8]
  rfl
theorem laws_eqSignedS.ok : V.Valid Try.prog 49 laws_eqSignedS.con :=
  V.body_ok (V.env_ok V.mixed V.tysOk (V.tab_cons laws_eqSigned.ok V.tab_nil)) Try.func49 (by kernel_rfl) (by kernel_rfl) (by kernel_rfl) (fun x y h => (show V.evBody laws_eqSignedS.E laws_eqSignedS.con Try.f49 x = _ from laws_eqSignedS.eq x.1 x.2).trans h)
noncomputable abbrev laws_eqStringS.con : V.Con := ⟨(.cons (.sl (.cons .str .nil)) (.cons (.sl (.cons .str .nil)) .nil)), (.cons .bool .nil), fun (x : List ByteArray × List ByteArray) => laws_eqStringS x.1 x.2, [], [(false, 1), (false, 1)], [(false, 1)], [false], []⟩
noncomputable abbrev laws_eqStringS.E : V.Env := V.mkE V.tys [] [(8, [0, 1, 5], [])] [(6, 8)] [] []
noncomputable abbrev laws_eqStringS.kt (x0 : List ByteArray) (x1 : List ByteArray) : V.Kt Bool := V.ktOf laws_eqStringS.E laws_eqStringS.con Try.f138 ((x0, x1) : List ByteArray × List ByteArray)
noncomputable abbrev laws_eqStringS.s8 (x0 : List ByteArray) (x1 : List ByteArray) (v8_2 : Int) : V.St := ⟨[(0, .v false [.val (.sl (.cons .str .nil) x0)]), (1, .v false [.val (.sl (.cons .str .nil) x1)]), (5, .v false [.val (.int .i64 v8_2)])], []⟩
theorem laws_eqStringS.r8 (x0 : List ByteArray) (x1 : List ByteArray) (R : V.St → Option Bool) (v8_2 : Int) : V.loopF laws_eqStringS.E Try.f138.ntmps [1, 1, 0, 1, 0] [] (V.codeOf Try.f138) (laws_eqStringS.kt x0 x1) R (laws_eqStringS.s8 x0 x1 v8_2) = laws_eqStringS.g8 x0 x1 (fun v8_2 => R (laws_eqStringS.s8 x0 x1 v8_2)) v8_2 := by kernel_rfl
theorem laws_eqStringS.e8 (x0 : List ByteArray) (x1 : List ByteArray) : ∀ (n : Nat) (v8_2 : Int), V.loopN (V.loopF laws_eqStringS.E Try.f138.ntmps [1, 1, 0, 1, 0] [] (V.codeOf Try.f138) (laws_eqStringS.kt x0 x1)) n (laws_eqStringS.s8 x0 x1 v8_2) = laws_eqStringS.l8 x0 x1 n v8_2 := by
  intro n
  induction n with
  | zero => intros; rfl
  | succ n ih =>
    intro v8_2
    show V.loopF laws_eqStringS.E Try.f138.ntmps [1, 1, 0, 1, 0] [] (V.codeOf Try.f138) (laws_eqStringS.kt x0 x1) (V.loopN (V.loopF laws_eqStringS.E Try.f138.ntmps [1, 1, 0, 1, 0] [] (V.codeOf Try.f138) (laws_eqStringS.kt x0 x1)) n) (laws_eqStringS.s8 x0 x1 v8_2) = _
    rw [laws_eqStringS.r8]
    simp only [ih]
    rfl
theorem laws_eqStringS.v (x0 : List ByteArray) (x1 : List ByteArray) : V.evBody laws_eqStringS.E laws_eqStringS.con Try.f138 ((x0, x1) : List ByteArray × List ByteArray) = laws_eqStringS.b x0 x1 (fun v8_2 => V.loopN (V.loopF laws_eqStringS.E Try.f138.ntmps [1, 1, 0, 1, 0] [] (V.codeOf Try.f138) (laws_eqStringS.kt x0 x1)) V.KK (laws_eqStringS.s8 x0 x1 v8_2)) := by kernel_rfl
theorem laws_eqStringS.eq (x0 : List ByteArray) (x1 : List ByteArray) : V.evBody laws_eqStringS.E laws_eqStringS.con Try.f138 ((x0, x1) : List ByteArray × List ByteArray) = laws_eqStringS x0 x1 := by
  rw [laws_eqStringS.v]
  simp only [laws_eqStringS.e8]
  rfl
theorem laws_eqStringS.ok : V.Valid Try.prog 138 laws_eqStringS.con :=
  V.body_ok (V.env_ok V.mixed V.tysOk V.tab_nil) Try.func138 (by kernel_rfl) (by kernel_rfl) (by kernel_rfl) (fun x y h => (show V.evBody laws_eqStringS.E laws_eqStringS.con Try.f138 x = _ from laws_eqStringS.eq x.1 x.2).trans h)
noncomputable abbrev laws_eqEntry.con : V.Con := ⟨(.cons .str (.cons (.int .i64) (.cons (.int .i64) (.cons (.sl (.cons .str .nil)) (.cons .str (.cons (.int .i64) (.cons (.int .i64) (.cons (.sl (.cons .str .nil)) .nil)))))))), (.cons .bool .nil), fun (x : ByteArray × Int × Int × List ByteArray × ByteArray × Int × Int × List ByteArray) => laws_eqEntry (x.1, x.2.1, x.2.2.1, x.2.2.2.1) x.2.2.2.2, [], [(true, 4), (true, 4)], [(false, 1)], [false], []⟩
noncomputable abbrev laws_eqEntry.E : V.Env := V.mkE V.tys [(138, laws_eqStringS.con)] [] [] [] []
noncomputable abbrev laws_eqEntry.kt (x0 : TEntry) (x1 : TEntry) : V.Kt Bool := V.ktOf laws_eqEntry.E laws_eqEntry.con Try.f68 ((x0.1, x0.2.1, x0.2.2.1, x0.2.2.2, x1.1, x1.2.1, x1.2.2.1, x1.2.2.2) : ByteArray × Int × Int × List ByteArray × ByteArray × Int × Int × List ByteArray)
theorem laws_eqEntry.eq (x0 : TEntry) (x1 : TEntry) : V.evBody laws_eqEntry.E laws_eqEntry.con Try.f68 ((x0.1, x0.2.1, x0.2.2.1, x0.2.2.2, x1.1, x1.2.1, x1.2.2.1, x1.2.2.2) : ByteArray × Int × Int × List ByteArray × ByteArray × Int × Int × List ByteArray) = laws_eqEntry x0 x1 := by kernel_rfl
theorem laws_eqEntry.ok : V.Valid Try.prog 68 laws_eqEntry.con :=
  V.body_ok (V.env_ok V.mixed V.tysOk (V.tab_cons laws_eqStringS.ok V.tab_nil)) Try.func68 (by kernel_rfl) (by kernel_rfl) (by kernel_rfl) (fun x y h => (show V.evBody laws_eqEntry.E laws_eqEntry.con Try.f68 x = _ from laws_eqEntry.eq (x.1, x.2.1, x.2.2.1, x.2.2.2.1) x.2.2.2.2).trans h)
noncomputable abbrev laws_eqProof.con : V.Con := ⟨(.cons (.int .i64) (.cons (.sl (.cons (.int .i64) .nil)) (.cons (.int .i64) (.cons (.sl (.cons (.int .i64) .nil)) .nil)))), (.cons .bool .nil), fun (x : Int × List Int × Int × List Int) => laws_eqProof (x.1, x.2.1) x.2.2, [], [(true, 2), (true, 2)], [(false, 1)], [false], []⟩
noncomputable abbrev laws_eqProof.E : V.Env := V.mkE V.tys [(80, laws_eqIntS.con)] [] [] [] []
noncomputable abbrev laws_eqProof.kt (x0 : TProof) (x1 : TProof) : V.Kt Bool := V.ktOf laws_eqProof.E laws_eqProof.con Try.f115 ((x0.1, x0.2, x1.1, x1.2) : Int × List Int × Int × List Int)
theorem laws_eqProof.eq (x0 : TProof) (x1 : TProof) : V.evBody laws_eqProof.E laws_eqProof.con Try.f115 ((x0.1, x0.2, x1.1, x1.2) : Int × List Int × Int × List Int) = laws_eqProof x0 x1 := by kernel_rfl
theorem laws_eqProof.ok : V.Valid Try.prog 115 laws_eqProof.con :=
  V.body_ok (V.env_ok V.mixed V.tysOk (V.tab_cons laws_eqIntS.ok V.tab_nil)) Try.func115 (by kernel_rfl) (by kernel_rfl) (by kernel_rfl) (fun x y h => (show V.evBody laws_eqProof.E laws_eqProof.con Try.f115 x = _ from laws_eqProof.eq (x.1, x.2.1) x.2.2).trans h)
noncomputable abbrev laws_eqGap.con : V.Con := ⟨V.A10, (.cons .bool .nil), fun (x : V.D10) => laws_eqGap (V.p10_0 x) (V.p10_1 x), [], [(true, 13), (true, 13)], [(false, 1)], [false], []⟩
noncomputable abbrev laws_eqGap.E : V.Env := V.mkE V.tys [(68, laws_eqEntry.con), (115, laws_eqProof.con)] [] [] [] []
noncomputable abbrev laws_eqGap.kt (x0 : TGap) (x1 : TGap) : V.Kt Bool := V.ktOf laws_eqGap.E laws_eqGap.con Try.f116 (V.fl10 x0 x1)
theorem laws_eqGap.eq (x0 : TGap) (x1 : TGap) : V.evBody laws_eqGap.E laws_eqGap.con Try.f116 (V.fl10 x0 x1) = laws_eqGap x0 x1 := by kernel_rfl
theorem laws_eqGap.ok : V.Valid Try.prog 116 laws_eqGap.con :=
  V.body_ok (V.env_ok V.mixed V.tysOk (V.tab_cons laws_eqEntry.ok (V.tab_cons laws_eqProof.ok V.tab_nil))) Try.func116 (by kernel_rfl) (by kernel_rfl) (by kernel_rfl) (fun x y h => (show V.evBody laws_eqGap.E laws_eqGap.con Try.f116 x = _ from laws_eqGap.eq (V.p10_0 x) (V.p10_1 x)).trans h)
noncomputable abbrev laws_eqAnswer.con : V.Con := ⟨V.A11, (.cons .bool .nil), fun (x : V.D11) => laws_eqAnswer (V.p11_0 x) (V.p11_1 x), [], [(true, 21), (true, 21)], [(false, 1)], [false], []⟩
noncomputable abbrev laws_eqAnswer.E : V.Env := V.mkE V.tys [(49, laws_eqSignedS.con), (68, laws_eqEntry.con), (115, laws_eqProof.con), (116, laws_eqGap.con)] [] [] [] []
noncomputable abbrev laws_eqAnswer.kt (x0 : TAnswer) (x1 : TAnswer) : V.Kt Bool := V.ktOf laws_eqAnswer.E laws_eqAnswer.con Try.f44 (V.fl11 x0 x1)
theorem laws_eqAnswer.eq (x0 : TAnswer) (x1 : TAnswer) : V.evBody laws_eqAnswer.E laws_eqAnswer.con Try.f44 (V.fl11 x0 x1) = laws_eqAnswer x0 x1 := by kernel_rfl
theorem laws_eqAnswer.ok : V.Valid Try.prog 44 laws_eqAnswer.con :=
  V.body_ok (V.env_ok V.mixed V.tysOk (V.tab_cons laws_eqSignedS.ok (V.tab_cons laws_eqEntry.ok (V.tab_cons laws_eqProof.ok (V.tab_cons laws_eqGap.ok V.tab_nil))))) Try.func44 (by kernel_rfl) (by kernel_rfl) (by kernel_rfl) (fun x y h => (show V.evBody laws_eqAnswer.E laws_eqAnswer.con Try.f44 x = _ from laws_eqAnswer.eq (V.p11_0 x) (V.p11_1 x)).trans h)
noncomputable abbrev laws_FnExactEqualAnswers.con : V.Con := ⟨V.A11, (.cons .bool .nil), fun (x : V.D11) => laws_FnExactEqualAnswers (V.p11_0 x) (V.p11_1 x), [], [(true, 21), (true, 21)], [(false, 1)], [false], []⟩
noncomputable abbrev laws_FnExactEqualAnswers.E : V.Env := V.mkE V.tys [(40, laws_szAnswer.con), (41, spec_EqualAnswers.con), (42, laws_toAnswer.con), (43, impl_EqualAnswers.con), (44, laws_eqAnswer.con)] [] [(8, 3), (14, 3), (16, 3)] [] []
noncomputable abbrev laws_FnExactEqualAnswers.kt (x0 : TAnswer) (x1 : TAnswer) : V.Kt Bool := V.ktOf laws_FnExactEqualAnswers.E laws_FnExactEqualAnswers.con Try.f8 (V.fl11 x0 x1)
theorem laws_FnExactEqualAnswers.eq (x0 : TAnswer) (x1 : TAnswer) : V.evBody laws_FnExactEqualAnswers.E laws_FnExactEqualAnswers.con Try.f8 (V.fl11 x0 x1) = laws_FnExactEqualAnswers x0 x1 := by kernel_rfl
theorem laws_FnExactEqualAnswers.ok : V.Valid Try.prog 8 laws_FnExactEqualAnswers.con :=
  V.body_ok (V.env_ok V.mixed V.tysOk (V.tab_cons laws_szAnswer.ok (V.tab_cons spec_EqualAnswers.ok (V.tab_cons laws_toAnswer.ok (V.tab_cons impl_EqualAnswers.ok (V.tab_cons laws_eqAnswer.ok V.tab_nil)))))) Try.func8 (by kernel_rfl) (by kernel_rfl) (by kernel_rfl) (fun x y h => (show V.evBody laws_FnExactEqualAnswers.E laws_FnExactEqualAnswers.con Try.f8 x = _ from laws_FnExactEqualAnswers.eq (V.p11_0 x) (V.p11_1 x)).trans h)
end Go.Proofs.Ytbdifkeoiodalaa
