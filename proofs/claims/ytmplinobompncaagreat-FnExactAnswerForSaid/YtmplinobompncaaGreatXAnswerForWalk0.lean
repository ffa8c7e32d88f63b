/- That the functions compute it. -/
import Derived.Test.YtmplinobompncaaGreatXAnswerForPure0
import Derived.Test.YtmplinobompncaaGreatProg
namespace Go.Proofs.YtmplinobompncaaGreat
set_option linter.unusedVariables false
set_option maxRecDepth 100000
namespace V
abbrev eSigned : ETy := (.cons (.int .i64) (.cons (.int .i64) (.cons (.int .i64) (.cons (.int .i64) (.cons (.int .i64) (.cons (.int .i64) (.cons (.int .i64) (.cons (.int .i64) (.cons (.sl (.cons (.int .i64) .nil)) (.cons (.int .i64) (.cons (.sl (.cons (.int .i64) .nil)) (.cons (.int .i64) (.cons (.int .i64) (.cons (.sl (.cons (.int .i64) .nil)) (.cons (.int .i64) (.cons .bool (.cons (.sl (.cons (.int .i64) (.cons (.int .i64) .nil))) .nil)))))))))))))))))
abbrev eAnswer : ETy := (.cons (.sl eSigned) (.cons .bool (.cons .str (.cons (.int .i64) (.cons (.int .i64) (.cons (.sl (.cons .str .nil)) (.cons (.int .i64) (.cons (.sl (.cons (.int .i64) .nil)) (.cons (.int .i64) (.cons .str (.cons (.int .i64) (.cons (.int .i64) (.cons (.sl (.cons .str .nil)) (.cons .str (.cons (.int .i64) (.cons (.int .i64) (.cons (.sl (.cons .str .nil)) (.cons (.int .i64) (.cons (.sl (.cons (.int .i64) .nil)) (.cons (.int .i64) (.cons (.sl (.cons (.int .i64) .nil)) .nil)))))))))))))))))))))
abbrev eEntry : ETy := (.cons .str (.cons (.int .i64) (.cons (.int .i64) (.cons (.sl (.cons .str .nil)) .nil))))
abbrev eGap : ETy := (.cons (.int .i64) (.cons .str (.cons (.int .i64) (.cons (.int .i64) (.cons (.sl (.cons .str .nil)) (.cons .str (.cons (.int .i64) (.cons (.int .i64) (.cons (.sl (.cons .str .nil)) (.cons (.int .i64) (.cons (.sl (.cons (.int .i64) .nil)) (.cons (.int .i64) (.cons (.sl (.cons (.int .i64) .nil)) .nil)))))))))))))
abbrev eHead : ETy := (.cons (.int .i64) (.cons (.int .i64) (.cons (.int .i64) (.cons (.int .i64) (.cons (.int .i64) (.cons (.int .i64) (.cons (.int .i64) (.cons (.int .i64) (.cons (.sl (.cons (.int .i64) .nil)) (.cons (.int .i64) (.cons (.sl (.cons (.int .i64) .nil)) (.cons (.int .i64) (.cons (.int .i64) (.cons (.sl (.cons (.int .i64) .nil)) (.cons (.int .i64) (.cons .bool .nil))))))))))))))))
abbrev eRGapBool : ETy := (.cons (.int .i64) (.cons .str (.cons (.int .i64) (.cons (.int .i64) (.cons (.sl (.cons .str .nil)) (.cons .str (.cons (.int .i64) (.cons (.int .i64) (.cons (.sl (.cons .str .nil)) (.cons (.int .i64) (.cons (.sl (.cons (.int .i64) .nil)) (.cons (.int .i64) (.cons (.sl (.cons (.int .i64) .nil)) (.cons .bool .nil))))))))))))))
abbrev eRHeadBool : ETy := (.cons (.int .i64) (.cons (.int .i64) (.cons (.int .i64) (.cons (.int .i64) (.cons (.int .i64) (.cons (.int .i64) (.cons (.int .i64) (.cons (.int .i64) (.cons (.sl (.cons (.int .i64) .nil)) (.cons (.int .i64) (.cons (.sl (.cons (.int .i64) .nil)) (.cons (.int .i64) (.cons (.int .i64) (.cons (.sl (.cons (.int .i64) .nil)) (.cons (.int .i64) (.cons .bool (.cons .bool .nil)))))))))))))))))
abbrev D0 : Type := Int × Int × Int × Int × Int × Int × Int × Int × List Int × Int × List Int × Int × Int × List Int × Int × Bool × Int
abbrev A0 : ETy := (.cons (.int .i64) (.cons (.int .i64) (.cons (.int .i64) (.cons (.int .i64) (.cons (.int .i64) (.cons (.int .i64) (.cons (.int .i64) (.cons (.int .i64) (.cons (.sl (.cons (.int .i64) .nil)) (.cons (.int .i64) (.cons (.sl (.cons (.int .i64) .nil)) (.cons (.int .i64) (.cons (.int .i64) (.cons (.sl (.cons (.int .i64) .nil)) (.cons (.int .i64) (.cons .bool (.cons (.int .i64) .nil)))))))))))))))))
abbrev fl0 (x0 : THead) (x1 : Int) : D0 := (x0.1, x0.2.1, x0.2.2.1, x0.2.2.2.1, x0.2.2.2.2.1, x0.2.2.2.2.2.1, x0.2.2.2.2.2.2.1, x0.2.2.2.2.2.2.2.1, x0.2.2.2.2.2.2.2.2.1, x0.2.2.2.2.2.2.2.2.2.1, x0.2.2.2.2.2.2.2.2.2.2.1, x0.2.2.2.2.2.2.2.2.2.2.2.1, x0.2.2.2.2.2.2.2.2.2.2.2.2.1, x0.2.2.2.2.2.2.2.2.2.2.2.2.2.1, x0.2.2.2.2.2.2.2.2.2.2.2.2.2.2.1, x0.2.2.2.2.2.2.2.2.2.2.2.2.2.2.2, x1)
abbrev p0_0 (x : D0) : THead := (x.1, x.2.1, x.2.2.1, x.2.2.2.1, x.2.2.2.2.1, x.2.2.2.2.2.1, x.2.2.2.2.2.2.1, x.2.2.2.2.2.2.2.1, x.2.2.2.2.2.2.2.2.1, x.2.2.2.2.2.2.2.2.2.1, x.2.2.2.2.2.2.2.2.2.2.1, x.2.2.2.2.2.2.2.2.2.2.2.1, x.2.2.2.2.2.2.2.2.2.2.2.2.1, x.2.2.2.2.2.2.2.2.2.2.2.2.2.1, x.2.2.2.2.2.2.2.2.2.2.2.2.2.2.1, x.2.2.2.2.2.2.2.2.2.2.2.2.2.2.2.1)
abbrev p0_1 (x : D0) : Int := x.2.2.2.2.2.2.2.2.2.2.2.2.2.2.2.2
abbrev D1 : Type := Int × Int × Int × Int × Int × Int × Int × Int × List Int × Int × List Int × Int × Int × List Int × Int × Bool × List TSig × Int
abbrev A1 : ETy := (.cons (.int .i64) (.cons (.int .i64) (.cons (.int .i64) (.cons (.int .i64) (.cons (.int .i64) (.cons (.int .i64) (.cons (.int .i64) (.cons (.int .i64) (.cons (.sl (.cons (.int .i64) .nil)) (.cons (.int .i64) (.cons (.sl (.cons (.int .i64) .nil)) (.cons (.int .i64) (.cons (.int .i64) (.cons (.sl (.cons (.int .i64) .nil)) (.cons (.int .i64) (.cons .bool (.cons (.sl (.cons (.int .i64) (.cons (.int .i64) .nil))) (.cons (.int .i64) .nil))))))))))))))))))
abbrev fl1 (x0 : TSigned) (x1 : Int) : D1 := (x0.1, x0.2.1, x0.2.2.1, x0.2.2.2.1, x0.2.2.2.2.1, x0.2.2.2.2.2.1, x0.2.2.2.2.2.2.1, x0.2.2.2.2.2.2.2.1, x0.2.2.2.2.2.2.2.2.1, x0.2.2.2.2.2.2.2.2.2.1, x0.2.2.2.2.2.2.2.2.2.2.1, x0.2.2.2.2.2.2.2.2.2.2.2.1, x0.2.2.2.2.2.2.2.2.2.2.2.2.1, x0.2.2.2.2.2.2.2.2.2.2.2.2.2.1, x0.2.2.2.2.2.2.2.2.2.2.2.2.2.2.1, x0.2.2.2.2.2.2.2.2.2.2.2.2.2.2.2.1, x0.2.2.2.2.2.2.2.2.2.2.2.2.2.2.2.2, x1)
abbrev p1_0 (x : D1) : TSigned := (x.1, x.2.1, x.2.2.1, x.2.2.2.1, x.2.2.2.2.1, x.2.2.2.2.2.1, x.2.2.2.2.2.2.1, x.2.2.2.2.2.2.2.1, x.2.2.2.2.2.2.2.2.1, x.2.2.2.2.2.2.2.2.2.1, x.2.2.2.2.2.2.2.2.2.2.1, x.2.2.2.2.2.2.2.2.2.2.2.1, x.2.2.2.2.2.2.2.2.2.2.2.2.1, x.2.2.2.2.2.2.2.2.2.2.2.2.2.1, x.2.2.2.2.2.2.2.2.2.2.2.2.2.2.1, x.2.2.2.2.2.2.2.2.2.2.2.2.2.2.2.1, x.2.2.2.2.2.2.2.2.2.2.2.2.2.2.2.2.1)
abbrev p1_1 (x : D1) : Int := x.2.2.2.2.2.2.2.2.2.2.2.2.2.2.2.2.2
abbrev D2 : Type := Int × Int × Int × Int × Int × Int × Int × Int × List Int × Int × List Int × Int × Int × List Int × Int × Bool
abbrev A2 : ETy := eHead
abbrev fl2 (x0 : THead) : D2 := (x0.1, x0.2.1, x0.2.2.1, x0.2.2.2.1, x0.2.2.2.2.1, x0.2.2.2.2.2.1, x0.2.2.2.2.2.2.1, x0.2.2.2.2.2.2.2.1, x0.2.2.2.2.2.2.2.2.1, x0.2.2.2.2.2.2.2.2.2.1, x0.2.2.2.2.2.2.2.2.2.2.1, x0.2.2.2.2.2.2.2.2.2.2.2.1, x0.2.2.2.2.2.2.2.2.2.2.2.2.1, x0.2.2.2.2.2.2.2.2.2.2.2.2.2.1, x0.2.2.2.2.2.2.2.2.2.2.2.2.2.2.1, x0.2.2.2.2.2.2.2.2.2.2.2.2.2.2.2)
abbrev p2_0 (x : D2) : THead := x
abbrev D3 : Type := Int × Int × Int × Int × Int × Int × Int × Int × List Int × Int × List Int × Int × Int × List Int × Int × Bool × List TSig
abbrev A3 : ETy := eSigned
abbrev fl3 (x0 : TSigned) : D3 := (x0.1, x0.2.1, x0.2.2.1, x0.2.2.2.1, x0.2.2.2.2.1, x0.2.2.2.2.2.1, x0.2.2.2.2.2.2.1, x0.2.2.2.2.2.2.2.1, x0.2.2.2.2.2.2.2.2.1, x0.2.2.2.2.2.2.2.2.2.1, x0.2.2.2.2.2.2.2.2.2.2.1, x0.2.2.2.2.2.2.2.2.2.2.2.1, x0.2.2.2.2.2.2.2.2.2.2.2.2.1, x0.2.2.2.2.2.2.2.2.2.2.2.2.2.1, x0.2.2.2.2.2.2.2.2.2.2.2.2.2.2.1, x0.2.2.2.2.2.2.2.2.2.2.2.2.2.2.2.1, x0.2.2.2.2.2.2.2.2.2.2.2.2.2.2.2.2)
abbrev p3_0 (x : D3) : TSigned := x
abbrev D4 : Type := Int × Int × Int × Int × Int × Int × Int × Int × List Int × Int × List Int × Int × Int × List Int × Int × Bool × Int × Int × Int × Int × Int × Int × Int × Int × List Int × Int × List Int × Int × Int × List Int × Int × Bool
abbrev A4 : ETy := (.cons (.int .i64) (.cons (.int .i64) (.cons (.int .i64) (.cons (.int .i64) (.cons (.int .i64) (.cons (.int .i64) (.cons (.int .i64) (.cons (.int .i64) (.cons (.sl (.cons (.int .i64) .nil)) (.cons (.int .i64) (.cons (.sl (.cons (.int .i64) .nil)) (.cons (.int .i64) (.cons (.int .i64) (.cons (.sl (.cons (.int .i64) .nil)) (.cons (.int .i64) (.cons .bool (.cons (.int .i64) (.cons (.int .i64) (.cons (.int .i64) (.cons (.int .i64) (.cons (.int .i64) (.cons (.int .i64) (.cons (.int .i64) (.cons (.int .i64) (.cons (.sl (.cons (.int .i64) .nil)) (.cons (.int .i64) (.cons (.sl (.cons (.int .i64) .nil)) (.cons (.int .i64) (.cons (.int .i64) (.cons (.sl (.cons (.int .i64) .nil)) (.cons (.int .i64) (.cons .bool .nil))))))))))))))))))))))))))))))))
abbrev fl4 (x0 : THead) (x1 : THead) : D4 := (x0.1, x0.2.1, x0.2.2.1, x0.2.2.2.1, x0.2.2.2.2.1, x0.2.2.2.2.2.1, x0.2.2.2.2.2.2.1, x0.2.2.2.2.2.2.2.1, x0.2.2.2.2.2.2.2.2.1, x0.2.2.2.2.2.2.2.2.2.1, x0.2.2.2.2.2.2.2.2.2.2.1, x0.2.2.2.2.2.2.2.2.2.2.2.1, x0.2.2.2.2.2.2.2.2.2.2.2.2.1, x0.2.2.2.2.2.2.2.2.2.2.2.2.2.1, x0.2.2.2.2.2.2.2.2.2.2.2.2.2.2.1, x0.2.2.2.2.2.2.2.2.2.2.2.2.2.2.2, x1.1, x1.2.1, x1.2.2.1, x1.2.2.2.1, x1.2.2.2.2.1, x1.2.2.2.2.2.1, x1.2.2.2.2.2.2.1, x1.2.2.2.2.2.2.2.1, x1.2.2.2.2.2.2.2.2.1, x1.2.2.2.2.2.2.2.2.2.1, x1.2.2.2.2.2.2.2.2.2.2.1, x1.2.2.2.2.2.2.2.2.2.2.2.1, x1.2.2.2.2.2.2.2.2.2.2.2.2.1, x1.2.2.2.2.2.2.2.2.2.2.2.2.2.1, x1.2.2.2.2.2.2.2.2.2.2.2.2.2.2.1, x1.2.2.2.2.2.2.2.2.2.2.2.2.2.2.2)
abbrev p4_0 (x : D4) : THead := (x.1, x.2.1, x.2.2.1, x.2.2.2.1, x.2.2.2.2.1, x.2.2.2.2.2.1, x.2.2.2.2.2.2.1, x.2.2.2.2.2.2.2.1, x.2.2.2.2.2.2.2.2.1, x.2.2.2.2.2.2.2.2.2.1, x.2.2.2.2.2.2.2.2.2.2.1, x.2.2.2.2.2.2.2.2.2.2.2.1, x.2.2.2.2.2.2.2.2.2.2.2.2.1, x.2.2.2.2.2.2.2.2.2.2.2.2.2.1, x.2.2.2.2.2.2.2.2.2.2.2.2.2.2.1, x.2.2.2.2.2.2.2.2.2.2.2.2.2.2.2.1)
abbrev p4_1 (x : D4) : THead := x.2.2.2.2.2.2.2.2.2.2.2.2.2.2.2.2
abbrev D5 : Type := Int × Int × Int × Int × Int × Int × Int × Int × List Int × Int × List Int × Int × Int × List Int × Int × Bool × Int × Int × Int × Int × Int × Int × Int × Int × List Int × Int × List Int × Int × Int × List Int × Int × Bool × List TSig
abbrev A5 : ETy := (.cons (.int .i64) (.cons (.int .i64) (.cons (.int .i64) (.cons (.int .i64) (.cons (.int .i64) (.cons (.int .i64) (.cons (.int .i64) (.cons (.int .i64) (.cons (.sl (.cons (.int .i64) .nil)) (.cons (.int .i64) (.cons (.sl (.cons (.int .i64) .nil)) (.cons (.int .i64) (.cons (.int .i64) (.cons (.sl (.cons (.int .i64) .nil)) (.cons (.int .i64) (.cons .bool (.cons (.int .i64) (.cons (.int .i64) (.cons (.int .i64) (.cons (.int .i64) (.cons (.int .i64) (.cons (.int .i64) (.cons (.int .i64) (.cons (.int .i64) (.cons (.sl (.cons (.int .i64) .nil)) (.cons (.int .i64) (.cons (.sl (.cons (.int .i64) .nil)) (.cons (.int .i64) (.cons (.int .i64) (.cons (.sl (.cons (.int .i64) .nil)) (.cons (.int .i64) (.cons .bool (.cons (.sl (.cons (.int .i64) (.cons (.int .i64) .nil))) .nil)))))))))))))))))))))))))))))))))
abbrev fl5 (x0 : THead) (x1 : TSigned) : D5 := (x0.1, x0.2.1, x0.2.2.1, x0.2.2.2.1, x0.2.2.2.2.1, x0.2.2.2.2.2.1, x0.2.2.2.2.2.2.1, x0.2.2.2.2.2.2.2.1, x0.2.2.2.2.2.2.2.2.1, x0.2.2.2.2.2.2.2.2.2.1, x0.2.2.2.2.2.2.2.2.2.2.1, x0.2.2.2.2.2.2.2.2.2.2.2.1, x0.2.2.2.2.2.2.2.2.2.2.2.2.1, x0.2.2.2.2.2.2.2.2.2.2.2.2.2.1, x0.2.2.2.2.2.2.2.2.2.2.2.2.2.2.1, x0.2.2.2.2.2.2.2.2.2.2.2.2.2.2.2, x1.1, x1.2.1, x1.2.2.1, x1.2.2.2.1, x1.2.2.2.2.1, x1.2.2.2.2.2.1, x1.2.2.2.2.2.2.1, x1.2.2.2.2.2.2.2.1, x1.2.2.2.2.2.2.2.2.1, x1.2.2.2.2.2.2.2.2.2.1, x1.2.2.2.2.2.2.2.2.2.2.1, x1.2.2.2.2.2.2.2.2.2.2.2.1, x1.2.2.2.2.2.2.2.2.2.2.2.2.1, x1.2.2.2.2.2.2.2.2.2.2.2.2.2.1, x1.2.2.2.2.2.2.2.2.2.2.2.2.2.2.1, x1.2.2.2.2.2.2.2.2.2.2.2.2.2.2.2.1, x1.2.2.2.2.2.2.2.2.2.2.2.2.2.2.2.2)
abbrev p5_0 (x : D5) : THead := (x.1, x.2.1, x.2.2.1, x.2.2.2.1, x.2.2.2.2.1, x.2.2.2.2.2.1, x.2.2.2.2.2.2.1, x.2.2.2.2.2.2.2.1, x.2.2.2.2.2.2.2.2.1, x.2.2.2.2.2.2.2.2.2.1, x.2.2.2.2.2.2.2.2.2.2.1, x.2.2.2.2.2.2.2.2.2.2.2.1, x.2.2.2.2.2.2.2.2.2.2.2.2.1, x.2.2.2.2.2.2.2.2.2.2.2.2.2.1, x.2.2.2.2.2.2.2.2.2.2.2.2.2.2.1, x.2.2.2.2.2.2.2.2.2.2.2.2.2.2.2.1)
abbrev p5_1 (x : D5) : TSigned := x.2.2.2.2.2.2.2.2.2.2.2.2.2.2.2.2
abbrev D6 : Type := Int × Int × Int × Int × Int × Int × Int × Int × List Int × Int × List Int × Int × Int × List Int × Int × Bool × List TSig × List Int × Int
abbrev A6 : ETy := (.cons (.int .i64) (.cons (.int .i64) (.cons (.int .i64) (.cons (.int .i64) (.cons (.int .i64) (.cons (.int .i64) (.cons (.int .i64) (.cons (.int .i64) (.cons (.sl (.cons (.int .i64) .nil)) (.cons (.int .i64) (.cons (.sl (.cons (.int .i64) .nil)) (.cons (.int .i64) (.cons (.int .i64) (.cons (.sl (.cons (.int .i64) .nil)) (.cons (.int .i64) (.cons .bool (.cons (.sl (.cons (.int .i64) (.cons (.int .i64) .nil))) (.cons (.sl (.cons (.int .i64) .nil)) (.cons (.int .i64) .nil)))))))))))))))))))
abbrev fl6 (x0 : TSigned) (x1 : TKeys) : D6 := (x0.1, x0.2.1, x0.2.2.1, x0.2.2.2.1, x0.2.2.2.2.1, x0.2.2.2.2.2.1, x0.2.2.2.2.2.2.1, x0.2.2.2.2.2.2.2.1, x0.2.2.2.2.2.2.2.2.1, x0.2.2.2.2.2.2.2.2.2.1, x0.2.2.2.2.2.2.2.2.2.2.1, x0.2.2.2.2.2.2.2.2.2.2.2.1, x0.2.2.2.2.2.2.2.2.2.2.2.2.1, x0.2.2.2.2.2.2.2.2.2.2.2.2.2.1, x0.2.2.2.2.2.2.2.2.2.2.2.2.2.2.1, x0.2.2.2.2.2.2.2.2.2.2.2.2.2.2.2.1, x0.2.2.2.2.2.2.2.2.2.2.2.2.2.2.2.2, x1.1, x1.2)
abbrev p6_0 (x : D6) : TSigned := (x.1, x.2.1, x.2.2.1, x.2.2.2.1, x.2.2.2.2.1, x.2.2.2.2.2.1, x.2.2.2.2.2.2.1, x.2.2.2.2.2.2.2.1, x.2.2.2.2.2.2.2.2.1, x.2.2.2.2.2.2.2.2.2.1, x.2.2.2.2.2.2.2.2.2.2.1, x.2.2.2.2.2.2.2.2.2.2.2.1, x.2.2.2.2.2.2.2.2.2.2.2.2.1, x.2.2.2.2.2.2.2.2.2.2.2.2.2.1, x.2.2.2.2.2.2.2.2.2.2.2.2.2.2.1, x.2.2.2.2.2.2.2.2.2.2.2.2.2.2.2.1, x.2.2.2.2.2.2.2.2.2.2.2.2.2.2.2.2.1)
abbrev p6_1 (x : D6) : TKeys := x.2.2.2.2.2.2.2.2.2.2.2.2.2.2.2.2.2
abbrev D7 : Type := Int × Int × Int × Int × Int × Int × Int × Int × List Int × Int × List Int × Int × Int × List Int × Int × Bool × List TSig × Int × Int × Int × Int × Int × Int × Int × Int × List Int × Int × List Int × Int × Int × List Int × Int × Bool × List TSig
abbrev A7 : ETy := (.cons (.int .i64) (.cons (.int .i64) (.cons (.int .i64) (.cons (.int .i64) (.cons (.int .i64) (.cons (.int .i64) (.cons (.int .i64) (.cons (.int .i64) (.cons (.sl (.cons (.int .i64) .nil)) (.cons (.int .i64) (.cons (.sl (.cons (.int .i64) .nil)) (.cons (.int .i64) (.cons (.int .i64) (.cons (.sl (.cons (.int .i64) .nil)) (.cons (.int .i64) (.cons .bool (.cons (.sl (.cons (.int .i64) (.cons (.int .i64) .nil))) (.cons (.int .i64) (.cons (.int .i64) (.cons (.int .i64) (.cons (.int .i64) (.cons (.int .i64) (.cons (.int .i64) (.cons (.int .i64) (.cons (.int .i64) (.cons (.sl (.cons (.int .i64) .nil)) (.cons (.int .i64) (.cons (.sl (.cons (.int .i64) .nil)) (.cons (.int .i64) (.cons (.int .i64) (.cons (.sl (.cons (.int .i64) .nil)) (.cons (.int .i64) (.cons .bool (.cons (.sl (.cons (.int .i64) (.cons (.int .i64) .nil))) .nil))))))))))))))))))))))))))))))))))
abbrev fl7 (x0 : TSigned) (x1 : TSigned) : D7 := (x0.1, x0.2.1, x0.2.2.1, x0.2.2.2.1, x0.2.2.2.2.1, x0.2.2.2.2.2.1, x0.2.2.2.2.2.2.1, x0.2.2.2.2.2.2.2.1, x0.2.2.2.2.2.2.2.2.1, x0.2.2.2.2.2.2.2.2.2.1, x0.2.2.2.2.2.2.2.2.2.2.1, x0.2.2.2.2.2.2.2.2.2.2.2.1, x0.2.2.2.2.2.2.2.2.2.2.2.2.1, x0.2.2.2.2.2.2.2.2.2.2.2.2.2.1, x0.2.2.2.2.2.2.2.2.2.2.2.2.2.2.1, x0.2.2.2.2.2.2.2.2.2.2.2.2.2.2.2.1, x0.2.2.2.2.2.2.2.2.2.2.2.2.2.2.2.2, x1.1, x1.2.1, x1.2.2.1, x1.2.2.2.1, x1.2.2.2.2.1, x1.2.2.2.2.2.1, x1.2.2.2.2.2.2.1, x1.2.2.2.2.2.2.2.1, x1.2.2.2.2.2.2.2.2.1, x1.2.2.2.2.2.2.2.2.2.1, x1.2.2.2.2.2.2.2.2.2.2.1, x1.2.2.2.2.2.2.2.2.2.2.2.1, x1.2.2.2.2.2.2.2.2.2.2.2.2.1, x1.2.2.2.2.2.2.2.2.2.2.2.2.2.1, x1.2.2.2.2.2.2.2.2.2.2.2.2.2.2.1, x1.2.2.2.2.2.2.2.2.2.2.2.2.2.2.2.1, x1.2.2.2.2.2.2.2.2.2.2.2.2.2.2.2.2)
abbrev p7_0 (x : D7) : TSigned := (x.1, x.2.1, x.2.2.1, x.2.2.2.1, x.2.2.2.2.1, x.2.2.2.2.2.1, x.2.2.2.2.2.2.1, x.2.2.2.2.2.2.2.1, x.2.2.2.2.2.2.2.2.1, x.2.2.2.2.2.2.2.2.2.1, x.2.2.2.2.2.2.2.2.2.2.1, x.2.2.2.2.2.2.2.2.2.2.2.1, x.2.2.2.2.2.2.2.2.2.2.2.2.1, x.2.2.2.2.2.2.2.2.2.2.2.2.2.1, x.2.2.2.2.2.2.2.2.2.2.2.2.2.2.1, x.2.2.2.2.2.2.2.2.2.2.2.2.2.2.2.1, x.2.2.2.2.2.2.2.2.2.2.2.2.2.2.2.2.1)
abbrev p7_1 (x : D7) : TSigned := x.2.2.2.2.2.2.2.2.2.2.2.2.2.2.2.2.2
abbrev D8 : Type := Int × ByteArray × Int × Int × List ByteArray × ByteArray × Int × Int × List ByteArray × Int × List Int × Int × List Int × Int × ByteArray × Int × Int × List ByteArray × ByteArray × Int × Int × List ByteArray × Int × List Int × Int × List Int
abbrev A8 : ETy := (.cons (.int .i64) (.cons .str (.cons (.int .i64) (.cons (.int .i64) (.cons (.sl (.cons .str .nil)) (.cons .str (.cons (.int .i64) (.cons (.int .i64) (.cons (.sl (.cons .str .nil)) (.cons (.int .i64) (.cons (.sl (.cons (.int .i64) .nil)) (.cons (.int .i64) (.cons (.sl (.cons (.int .i64) .nil)) (.cons (.int .i64) (.cons .str (.cons (.int .i64) (.cons (.int .i64) (.cons (.sl (.cons .str .nil)) (.cons .str (.cons (.int .i64) (.cons (.int .i64) (.cons (.sl (.cons .str .nil)) (.cons (.int .i64) (.cons (.sl (.cons (.int .i64) .nil)) (.cons (.int .i64) (.cons (.sl (.cons (.int .i64) .nil)) .nil))))))))))))))))))))))))))
abbrev fl8 (x0 : TGap) (x1 : TGap) : D8 := (x0.1, x0.2.1, x0.2.2.1, x0.2.2.2.1, x0.2.2.2.2.1, x0.2.2.2.2.2.1, x0.2.2.2.2.2.2.1, x0.2.2.2.2.2.2.2.1, x0.2.2.2.2.2.2.2.2.1, x0.2.2.2.2.2.2.2.2.2.1, x0.2.2.2.2.2.2.2.2.2.2.1, x0.2.2.2.2.2.2.2.2.2.2.2.1, x0.2.2.2.2.2.2.2.2.2.2.2.2, x1.1, x1.2.1, x1.2.2.1, x1.2.2.2.1, x1.2.2.2.2.1, x1.2.2.2.2.2.1, x1.2.2.2.2.2.2.1, x1.2.2.2.2.2.2.2.1, x1.2.2.2.2.2.2.2.2.1, x1.2.2.2.2.2.2.2.2.2.1, x1.2.2.2.2.2.2.2.2.2.2.1, x1.2.2.2.2.2.2.2.2.2.2.2.1, x1.2.2.2.2.2.2.2.2.2.2.2.2)
abbrev p8_0 (x : D8) : TGap := (x.1, x.2.1, x.2.2.1, x.2.2.2.1, x.2.2.2.2.1, x.2.2.2.2.2.1, x.2.2.2.2.2.2.1, x.2.2.2.2.2.2.2.1, x.2.2.2.2.2.2.2.2.1, x.2.2.2.2.2.2.2.2.2.1, x.2.2.2.2.2.2.2.2.2.2.1, x.2.2.2.2.2.2.2.2.2.2.2.1, x.2.2.2.2.2.2.2.2.2.2.2.2.1)
abbrev p8_1 (x : D8) : TGap := x.2.2.2.2.2.2.2.2.2.2.2.2.2
abbrev D9 : Type := List TSigned × Bool × ByteArray × Int × Int × List ByteArray × Int × List Int × Int × ByteArray × Int × Int × List ByteArray × ByteArray × Int × Int × List ByteArray × Int × List Int × Int × List Int × List TSigned × Bool × ByteArray × Int × Int × List ByteArray × Int × List Int × Int × ByteArray × Int × Int × List ByteArray × ByteArray × Int × Int × List ByteArray × Int × List Int × Int × List Int
abbrev A9 : ETy := (.cons (.sl eSigned) (.cons .bool (.cons .str (.cons (.int .i64) (.cons (.int .i64) (.cons (.sl (.cons .str .nil)) (.cons (.int .i64) (.cons (.sl (.cons (.int .i64) .nil)) (.cons (.int .i64) (.cons .str (.cons (.int .i64) (.cons (.int .i64) (.cons (.sl (.cons .str .nil)) (.cons .str (.cons (.int .i64) (.cons (.int .i64) (.cons (.sl (.cons .str .nil)) (.cons (.int .i64) (.cons (.sl (.cons (.int .i64) .nil)) (.cons (.int .i64) (.cons (.sl (.cons (.int .i64) .nil)) (.cons (.sl eSigned) (.cons .bool (.cons .str (.cons (.int .i64) (.cons (.int .i64) (.cons (.sl (.cons .str .nil)) (.cons (.int .i64) (.cons (.sl (.cons (.int .i64) .nil)) (.cons (.int .i64) (.cons .str (.cons (.int .i64) (.cons (.int .i64) (.cons (.sl (.cons .str .nil)) (.cons .str (.cons (.int .i64) (.cons (.int .i64) (.cons (.sl (.cons .str .nil)) (.cons (.int .i64) (.cons (.sl (.cons (.int .i64) .nil)) (.cons (.int .i64) (.cons (.sl (.cons (.int .i64) .nil)) .nil))))))))))))))))))))))))))))))))))))))))))
abbrev fl9 (x0 : TAnswer) (x1 : TAnswer) : D9 := (x0.1, x0.2.1, x0.2.2.1, x0.2.2.2.1, x0.2.2.2.2.1, x0.2.2.2.2.2.1, x0.2.2.2.2.2.2.1, x0.2.2.2.2.2.2.2.1, x0.2.2.2.2.2.2.2.2.1, x0.2.2.2.2.2.2.2.2.2.1, x0.2.2.2.2.2.2.2.2.2.2.1, x0.2.2.2.2.2.2.2.2.2.2.2.1, x0.2.2.2.2.2.2.2.2.2.2.2.2.1, x0.2.2.2.2.2.2.2.2.2.2.2.2.2.1, x0.2.2.2.2.2.2.2.2.2.2.2.2.2.2.1, x0.2.2.2.2.2.2.2.2.2.2.2.2.2.2.2.1, x0.2.2.2.2.2.2.2.2.2.2.2.2.2.2.2.2.1, x0.2.2.2.2.2.2.2.2.2.2.2.2.2.2.2.2.2.1, x0.2.2.2.2.2.2.2.2.2.2.2.2.2.2.2.2.2.2.1, x0.2.2.2.2.2.2.2.2.2.2.2.2.2.2.2.2.2.2.2.1, x0.2.2.2.2.2.2.2.2.2.2.2.2.2.2.2.2.2.2.2.2, x1.1, x1.2.1, x1.2.2.1, x1.2.2.2.1, x1.2.2.2.2.1, x1.2.2.2.2.2.1, x1.2.2.2.2.2.2.1, x1.2.2.2.2.2.2.2.1, x1.2.2.2.2.2.2.2.2.1, x1.2.2.2.2.2.2.2.2.2.1, x1.2.2.2.2.2.2.2.2.2.2.1, x1.2.2.2.2.2.2.2.2.2.2.2.1, x1.2.2.2.2.2.2.2.2.2.2.2.2.1, x1.2.2.2.2.2.2.2.2.2.2.2.2.2.1, x1.2.2.2.2.2.2.2.2.2.2.2.2.2.2.1, x1.2.2.2.2.2.2.2.2.2.2.2.2.2.2.2.1, x1.2.2.2.2.2.2.2.2.2.2.2.2.2.2.2.2.1, x1.2.2.2.2.2.2.2.2.2.2.2.2.2.2.2.2.2.1, x1.2.2.2.2.2.2.2.2.2.2.2.2.2.2.2.2.2.2.1, x1.2.2.2.2.2.2.2.2.2.2.2.2.2.2.2.2.2.2.2.1, x1.2.2.2.2.2.2.2.2.2.2.2.2.2.2.2.2.2.2.2.2)
abbrev p9_0 (x : D9) : TAnswer := (x.1, x.2.1, x.2.2.1, x.2.2.2.1, x.2.2.2.2.1, x.2.2.2.2.2.1, x.2.2.2.2.2.2.1, x.2.2.2.2.2.2.2.1, x.2.2.2.2.2.2.2.2.1, x.2.2.2.2.2.2.2.2.2.1, x.2.2.2.2.2.2.2.2.2.2.1, x.2.2.2.2.2.2.2.2.2.2.2.1, x.2.2.2.2.2.2.2.2.2.2.2.2.1, x.2.2.2.2.2.2.2.2.2.2.2.2.2.1, x.2.2.2.2.2.2.2.2.2.2.2.2.2.2.1, x.2.2.2.2.2.2.2.2.2.2.2.2.2.2.2.1, x.2.2.2.2.2.2.2.2.2.2.2.2.2.2.2.2.1, x.2.2.2.2.2.2.2.2.2.2.2.2.2.2.2.2.2.1, x.2.2.2.2.2.2.2.2.2.2.2.2.2.2.2.2.2.2.1, x.2.2.2.2.2.2.2.2.2.2.2.2.2.2.2.2.2.2.2.1, x.2.2.2.2.2.2.2.2.2.2.2.2.2.2.2.2.2.2.2.2.1)
abbrev p9_1 (x : D9) : TAnswer := x.2.2.2.2.2.2.2.2.2.2.2.2.2.2.2.2.2.2.2.2.2
abbrev D10 : Type := Int × ByteArray × Int × Int × List ByteArray × ByteArray × Int × Int × List ByteArray × Int × List Int × Int × List Int × Int
abbrev A10 : ETy := (.cons (.int .i64) (.cons .str (.cons (.int .i64) (.cons (.int .i64) (.cons (.sl (.cons .str .nil)) (.cons .str (.cons (.int .i64) (.cons (.int .i64) (.cons (.sl (.cons .str .nil)) (.cons (.int .i64) (.cons (.sl (.cons (.int .i64) .nil)) (.cons (.int .i64) (.cons (.sl (.cons (.int .i64) .nil)) (.cons (.int .i64) .nil))))))))))))))
abbrev fl10 (x0 : TGap) (x1 : Int) : D10 := (x0.1, x0.2.1, x0.2.2.1, x0.2.2.2.1, x0.2.2.2.2.1, x0.2.2.2.2.2.1, x0.2.2.2.2.2.2.1, x0.2.2.2.2.2.2.2.1, x0.2.2.2.2.2.2.2.2.1, x0.2.2.2.2.2.2.2.2.2.1, x0.2.2.2.2.2.2.2.2.2.2.1, x0.2.2.2.2.2.2.2.2.2.2.2.1, x0.2.2.2.2.2.2.2.2.2.2.2.2, x1)
abbrev p10_0 (x : D10) : TGap := (x.1, x.2.1, x.2.2.1, x.2.2.2.1, x.2.2.2.2.1, x.2.2.2.2.2.1, x.2.2.2.2.2.2.1, x.2.2.2.2.2.2.2.1, x.2.2.2.2.2.2.2.2.1, x.2.2.2.2.2.2.2.2.2.1, x.2.2.2.2.2.2.2.2.2.2.1, x.2.2.2.2.2.2.2.2.2.2.2.1, x.2.2.2.2.2.2.2.2.2.2.2.2.1)
abbrev p10_1 (x : D10) : Int := x.2.2.2.2.2.2.2.2.2.2.2.2.2
abbrev D11 : Type := List TSigned × Bool × ByteArray × Int × Int × List ByteArray × Int × List Int × Int × ByteArray × Int × Int × List ByteArray × ByteArray × Int × Int × List ByteArray × Int × List Int × Int × List Int × Int
abbrev A11 : ETy := (.cons (.sl eSigned) (.cons .bool (.cons .str (.cons (.int .i64) (.cons (.int .i64) (.cons (.sl (.cons .str .nil)) (.cons (.int .i64) (.cons (.sl (.cons (.int .i64) .nil)) (.cons (.int .i64) (.cons .str (.cons (.int .i64) (.cons (.int .i64) (.cons (.sl (.cons .str .nil)) (.cons .str (.cons (.int .i64) (.cons (.int .i64) (.cons (.sl (.cons .str .nil)) (.cons (.int .i64) (.cons (.sl (.cons (.int .i64) .nil)) (.cons (.int .i64) (.cons (.sl (.cons (.int .i64) .nil)) (.cons (.int .i64) .nil))))))))))))))))))))))
abbrev fl11 (x0 : TAnswer) (x1 : Int) : D11 := (x0.1, x0.2.1, x0.2.2.1, x0.2.2.2.1, x0.2.2.2.2.1, x0.2.2.2.2.2.1, x0.2.2.2.2.2.2.1, x0.2.2.2.2.2.2.2.1, x0.2.2.2.2.2.2.2.2.1, x0.2.2.2.2.2.2.2.2.2.1, x0.2.2.2.2.2.2.2.2.2.2.1, x0.2.2.2.2.2.2.2.2.2.2.2.1, x0.2.2.2.2.2.2.2.2.2.2.2.2.1, x0.2.2.2.2.2.2.2.2.2.2.2.2.2.1, x0.2.2.2.2.2.2.2.2.2.2.2.2.2.2.1, x0.2.2.2.2.2.2.2.2.2.2.2.2.2.2.2.1, x0.2.2.2.2.2.2.2.2.2.2.2.2.2.2.2.2.1, x0.2.2.2.2.2.2.2.2.2.2.2.2.2.2.2.2.2.1, x0.2.2.2.2.2.2.2.2.2.2.2.2.2.2.2.2.2.2.1, x0.2.2.2.2.2.2.2.2.2.2.2.2.2.2.2.2.2.2.2.1, x0.2.2.2.2.2.2.2.2.2.2.2.2.2.2.2.2.2.2.2.2, x1)
abbrev p11_0 (x : D11) : TAnswer := (x.1, x.2.1, x.2.2.1, x.2.2.2.1, x.2.2.2.2.1, x.2.2.2.2.2.1, x.2.2.2.2.2.2.1, x.2.2.2.2.2.2.2.1, x.2.2.2.2.2.2.2.2.1, x.2.2.2.2.2.2.2.2.2.1, x.2.2.2.2.2.2.2.2.2.2.1, x.2.2.2.2.2.2.2.2.2.2.2.1, x.2.2.2.2.2.2.2.2.2.2.2.2.1, x.2.2.2.2.2.2.2.2.2.2.2.2.2.1, x.2.2.2.2.2.2.2.2.2.2.2.2.2.2.1, x.2.2.2.2.2.2.2.2.2.2.2.2.2.2.2.1, x.2.2.2.2.2.2.2.2.2.2.2.2.2.2.2.2.1, x.2.2.2.2.2.2.2.2.2.2.2.2.2.2.2.2.2.1, x.2.2.2.2.2.2.2.2.2.2.2.2.2.2.2.2.2.2.1, x.2.2.2.2.2.2.2.2.2.2.2.2.2.2.2.2.2.2.2.1, x.2.2.2.2.2.2.2.2.2.2.2.2.2.2.2.2.2.2.2.2.1)
abbrev p11_1 (x : D11) : Int := x.2.2.2.2.2.2.2.2.2.2.2.2.2.2.2.2.2.2.2.2.2
abbrev tys : List (Nat × TI) := [(3, ⟨.int .i64, false, [.val (.int .i64 (0 : Int))], 8, [], (.cons (.int .i64) .nil)⟩),
  (4, ⟨.bool, false, [.val (.bool false)], 1, [], (.cons .bool .nil)⟩),
  (5, ⟨.int .u8, false, [.val (.int .u8 (0 : Int))], 1, [], (.cons (.int .u8) .nil)⟩),
  (9, ⟨.str, false, [.val (.str (⟨#[]⟩ : ByteArray))], 16, [], (.cons .str .nil)⟩),
  (26, ⟨.sl 66, false, [.nil0], 24, [], (.cons (.sl V.eSigned) .nil)⟩),
  (27, ⟨.sl 9, false, [.nil0], 24, [], (.cons (.sl (.cons .str .nil)) .nil)⟩),
  (29, ⟨.st, false, [.val (.str (⟨#[]⟩ : ByteArray)), .val (.int .i64 (0 : Int)), .val (.int .i64 (0 : Int)), .nil0], 56, [(0, 1, false), (1, 1, false), (2, 1, false), (3, 1, false)], V.eEntry⟩),
  (30, ⟨.sl 3, false, [.nil0], 24, [], (.cons (.sl (.cons (.int .i64) .nil)) .nil)⟩),
  (32, ⟨.st, false, [.val (.int .i64 (0 : Int)), .nil0], 32, [(0, 1, false), (1, 1, false)], (.cons (.int .i64) (.cons (.sl (.cons (.int .i64) .nil)) .nil))⟩),
  (34, ⟨.st, false, [.val (.int .i64 (0 : Int)), .val (.str (⟨#[]⟩ : ByteArray)), .val (.int .i64 (0 : Int)), .val (.int .i64 (0 : Int)), .nil0, .val (.str (⟨#[]⟩ : ByteArray)), .val (.int .i64 (0 : Int)), .val (.int .i64 (0 : Int)), .nil0, .val (.int .i64 (0 : Int)), .nil0, .val (.int .i64 (0 : Int)), .nil0], 184, [(0, 1, false), (1, 4, true), (5, 4, true), (9, 2, true), (11, 2, true)], V.eGap⟩),
  (36, ⟨.st, false, [.nil0, .val (.bool false), .val (.str (⟨#[]⟩ : ByteArray)), .val (.int .i64 (0 : Int)), .val (.int .i64 (0 : Int)), .nil0, .val (.int .i64 (0 : Int)), .nil0, .val (.int .i64 (0 : Int)), .val (.str (⟨#[]⟩ : ByteArray)), .val (.int .i64 (0 : Int)), .val (.int .i64 (0 : Int)), .nil0, .val (.str (⟨#[]⟩ : ByteArray)), .val (.int .i64 (0 : Int)), .val (.int .i64 (0 : Int)), .nil0, .val (.int .i64 (0 : Int)), .nil0, .val (.int .i64 (0 : Int)), .nil0], 304, [(0, 1, false), (1, 1, false), (2, 4, true), (6, 2, true), (8, 13, true)], V.eAnswer⟩),
  (58, ⟨.sl 5, false, [.nil0], 24, [], (.cons (.sl (.cons (.int .u8) .nil)) .nil)⟩),
  (61, ⟨.st, false, [.nil0, .val (.int .i64 (0 : Int))], 32, [(0, 1, false), (1, 1, false)], (.cons (.sl (.cons (.int .i64) .nil)) (.cons (.int .i64) .nil))⟩),
  (63, ⟨.st, false, [.val (.int .i64 (0 : Int)), .val (.int .i64 (0 : Int)), .val (.int .i64 (0 : Int)), .val (.int .i64 (0 : Int)), .val (.int .i64 (0 : Int)), .val (.int .i64 (0 : Int)), .val (.int .i64 (0 : Int)), .val (.int .i64 (0 : Int)), .nil0, .val (.int .i64 (0 : Int)), .nil0, .val (.int .i64 (0 : Int)), .val (.int .i64 (0 : Int)), .nil0, .val (.int .i64 (0 : Int)), .val (.bool false)], 176, [(0, 1, false), (1, 1, false), (2, 1, false), (3, 1, false), (4, 1, false), (5, 1, false), (6, 1, false), (7, 1, false), (8, 2, true), (10, 2, true), (12, 1, false), (13, 2, true), (15, 1, false)], V.eHead⟩),
  (64, ⟨.sl 88, false, [.nil0], 24, [], (.cons (.sl (.cons (.int .i64) (.cons (.int .i64) .nil))) .nil)⟩),
  (66, ⟨.st, false, [.val (.int .i64 (0 : Int)), .val (.int .i64 (0 : Int)), .val (.int .i64 (0 : Int)), .val (.int .i64 (0 : Int)), .val (.int .i64 (0 : Int)), .val (.int .i64 (0 : Int)), .val (.int .i64 (0 : Int)), .val (.int .i64 (0 : Int)), .nil0, .val (.int .i64 (0 : Int)), .nil0, .val (.int .i64 (0 : Int)), .val (.int .i64 (0 : Int)), .nil0, .val (.int .i64 (0 : Int)), .val (.bool false), .nil0], 200, [(0, 16, true), (16, 1, false)], V.eSigned⟩),
  (88, ⟨.st, true, [.val (.int .i64 (0 : Int)), .val (.int .i64 (0 : Int))], 16, [(0, 1, false), (1, 1, false)], (.cons (.int .i64) (.cons (.int .i64) .nil))⟩),
  (111, ⟨.sl 29, false, [.nil0], 24, [], (.cons (.sl V.eEntry) .nil)⟩),
  (126, ⟨.st, false, [.nil0, .val (.int .i64 (0 : Int))], 32, [(0, 1, false), (1, 1, false)], (.cons (.sl (.cons (.int .i64) .nil)) (.cons (.int .i64) .nil))⟩),
  (128, ⟨.st, false, [.val (.int .i64 (0 : Int)), .val (.int .i64 (0 : Int)), .val (.int .i64 (0 : Int)), .val (.int .i64 (0 : Int)), .val (.int .i64 (0 : Int)), .val (.int .i64 (0 : Int)), .val (.int .i64 (0 : Int)), .val (.int .i64 (0 : Int)), .nil0, .val (.int .i64 (0 : Int)), .nil0, .val (.int .i64 (0 : Int)), .val (.int .i64 (0 : Int)), .nil0, .val (.int .i64 (0 : Int)), .val (.bool false)], 176, [(0, 1, false), (1, 1, false), (2, 1, false), (3, 1, false), (4, 1, false), (5, 1, false), (6, 1, false), (7, 1, false), (8, 2, true), (10, 2, true), (12, 1, false), (13, 2, true), (15, 1, false)], V.eHead⟩),
  (129, ⟨.sl 343, false, [.nil0], 24, [], (.cons (.sl (.cons (.int .i64) (.cons (.int .i64) .nil))) .nil)⟩),
  (131, ⟨.st, false, [.val (.int .i64 (0 : Int)), .val (.int .i64 (0 : Int)), .val (.int .i64 (0 : Int)), .val (.int .i64 (0 : Int)), .val (.int .i64 (0 : Int)), .val (.int .i64 (0 : Int)), .val (.int .i64 (0 : Int)), .val (.int .i64 (0 : Int)), .nil0, .val (.int .i64 (0 : Int)), .nil0, .val (.int .i64 (0 : Int)), .val (.int .i64 (0 : Int)), .nil0, .val (.int .i64 (0 : Int)), .val (.bool false), .nil0], 200, [(0, 16, true), (16, 1, false)], V.eSigned⟩),
  (142, ⟨.st, false, [.nil0, .nil0], 48, [(0, 1, false), (1, 1, false)], (.cons (.sl V.eSigned) (.cons (.sl V.eEntry) .nil))⟩),
  (160, ⟨.sl 131, false, [.nil0], 24, [], (.cons (.sl V.eSigned) .nil)⟩),
  (161, ⟨.sl 266, false, [.nil0], 24, [], (.cons (.sl V.eEntry) .nil)⟩),
  (163, ⟨.st, false, [.nil0, .nil0], 48, [(0, 1, false), (1, 1, false)], (.cons (.sl V.eSigned) (.cons (.sl V.eEntry) .nil))⟩),
  (266, ⟨.st, false, [.val (.str (⟨#[]⟩ : ByteArray)), .val (.int .i64 (0 : Int)), .val (.int .i64 (0 : Int)), .nil0], 56, [(0, 1, false), (1, 1, false), (2, 1, false), (3, 1, false)], V.eEntry⟩),
  (333, ⟨.sl 30, false, [.nil0], 24, [], (.cons (.sl (.cons (.sl (.cons (.int .i64) .nil)) .nil)) .nil)⟩),
  (343, ⟨.st, true, [.val (.int .i64 (0 : Int)), .val (.int .i64 (0 : Int))], 16, [(0, 1, false), (1, 1, false)], (.cons (.int .i64) (.cons (.int .i64) .nil))⟩)]
theorem tysOk : tyAll Tryz.prog tys = true := by kernel_rfl
theorem mixed : Tryz.prog.follows .mixedOrders = true := by kernel_rfl
theorem cfl {α : Type} {a b c : α} (e : a = b) (h : a = c) : b = c := e.symm.trans h
theorem fo {g : Nat} {fn : Func} {con : Con} {tab : List (Nat × Con)} {heads : List (Nat × List Nat × Cv)} {pre : List (Nat × Nat)} {shallow : List Nat} {movs flts : List (Nat × List Nat)} (h : TabOk Tryz.prog tab) (hf : Tryz.prog.funcs[g]? = some fn) (hq : (!(fn.name == "runtime.NumGoroutine") && (!fn.body.isNone && conOk con fn.ntmps)) = true) (hev : ∀ x y, con.f x = some y → evBody (mkE tys tab heads pre shallow movs flts) con fn x = some y) : Valid Tryz.prog g con := by
  simp only [Bool.and_eq_true, Bool.not_eq_true'] at hq
  exact body_ok (env_ok mixed tysOk h) hf hq.1 hq.2.1 hq.2.2 hev
theorem fo2 {g : Nat} {fn : Func} {con : Con} {tab tab2 : List (Nat × Con)} {sites : List Nat} {heads : List (Nat × List Nat × Cv)} {pre : List (Nat × Nat)} {shallow : List Nat} {movs flts : List (Nat × List Nat)} (h : TabOk Tryz.prog tab) (h2 : TabOk Tryz.prog tab2) (hf : Tryz.prog.funcs[g]? = some fn) (hq : (!(fn.name == "runtime.NumGoroutine") && (!fn.body.isNone && conOk con fn.ntmps)) = true) (hev : ∀ x y, con.f x = some y → evBody (mkE2 tys tab sites tab2 heads pre shallow movs flts) con fn x = some y) : Valid Tryz.prog g con := by
  simp only [Bool.and_eq_true, Bool.not_eq_true'] at hq
  exact body_ok (env_ok2 mixed tysOk h h2) hf hq.1 hq.2.1 hq.2.2 hev
end V
noncomputable abbrev zq105.con : V.Con := ⟨(.cons (.sl (.cons (.int .i64) .nil)) (.cons (.int .i64) .nil)), (.cons (.int .i64) .nil), fun (x : List Int × Int) => zq105 x.1 x.2, [], [(false, 1), (false, 1)], [(false, 1)], [false], []⟩
noncomputable abbrev zq105.E : V.Env := V.mkE V.tys [] [] [] [] [] []
theorem zq105.eq (x0 : List Int) (x1 : Int) : V.evBody zq105.E zq105.con Tryz.f445 ((x0, x1) : List Int × Int) = zq105 x0 x1 := by kernel_rfl
theorem zq105.ok : V.Valid Tryz.prog 445 zq105.con :=
  V.fo V.tab_nil Tryz.func445 (by kernel_rfl) (fun x y h => (show V.evBody zq105.E zq105.con Tryz.f445 x = _ from zq105.eq x.1 x.2).trans (V.cfl (by kernel_rfl) h))
noncomputable abbrev zq106.con : V.Con := ⟨(.cons (.sl (.cons (.int .i64) .nil)) (.cons (.int .i64) (.cons (.int .i64) .nil))), (.cons (.int .i64) .nil), fun (x : List Int × Int × Int) => zq106 (x.1, x.2.1) x.2.2, [], [(true, 2), (false, 1)], [(false, 1)], [false], []⟩
noncomputable abbrev zq106.E : V.Env := V.mkE V.tys [(445, zq105.con)] [] [] [] [] []
theorem zq106.eq (x0 : TKeys) (x1 : Int) : V.evBody zq106.E zq106.con Tryz.f413 ((x0.1, x0.2, x1) : List Int × Int × Int) = zq106 x0 x1 := by kernel_rfl
theorem zq106.ok : V.Valid Tryz.prog 413 zq106.con :=
  V.fo (V.tab_cons zq105.ok V.tab_nil) Tryz.func413 (by kernel_rfl) (fun x y h => (show V.evBody zq106.E zq106.con Tryz.f413 x = _ from zq106.eq (x.1, x.2.1) x.2.2).trans (V.cfl (by kernel_rfl) h))
noncomputable abbrev zq104.con : V.Con := ⟨V.A0, (.cons (.int .i64) .nil), fun (x : V.D0) => zq104 (V.p0_0 x) (V.p0_1 x), [], [(true, 16), (false, 1)], [(false, 1)], [false], []⟩
noncomputable abbrev zq104.E : V.Env := V.mkE V.tys [(413, zq106.con)] [] [] [] [] []
noncomputable abbrev zq104.kt (x0 : THead) (x1 : Int) : V.Kt Int := V.ktOf zq104.E zq104.con Tryz.f353 (V.fl0 x0 x1)
noncomputable abbrev zq104.s (x0 : THead) (x1 : Int) : V.St := ⟨[(0, .v true [.val (.int .i64 x0.1), .val (.int .i64 x0.2.1), .val (.int .i64 x0.2.2.1), .val (.int .i64 x0.2.2.2.1), .val (.int .i64 x0.2.2.2.2.1), .val (.int .i64 x0.2.2.2.2.2.1), .val (.int .i64 x0.2.2.2.2.2.2.1), .val (.int .i64 x0.2.2.2.2.2.2.2.1), .val (.sl (.cons (.int .i64) .nil) x0.2.2.2.2.2.2.2.2.1), .val (.int .i64 x0.2.2.2.2.2.2.2.2.2.1), .val (.sl (.cons (.int .i64) .nil) x0.2.2.2.2.2.2.2.2.2.2.1), .val (.int .i64 x0.2.2.2.2.2.2.2.2.2.2.2.1), .val (.int .i64 x0.2.2.2.2.2.2.2.2.2.2.2.2.1), .val (.sl (.cons (.int .i64) .nil) x0.2.2.2.2.2.2.2.2.2.2.2.2.2.1), .val (.int .i64 x0.2.2.2.2.2.2.2.2.2.2.2.2.2.2.1), .val (.bool x0.2.2.2.2.2.2.2.2.2.2.2.2.2.2.2)]), (1, .v false [.val (.int .i64 x1)])], []⟩
theorem zq104.v0 (x0 : THead) (x1 : Int) : V.evBody zq104.E zq104.con Tryz.f353 (V.fl0 x0 x1) = V.evC zq104.E Tryz.f353.ntmps (V.codeOf Tryz.f353) (zq104.kt x0 x1) (zq104.s x0 x1) := by kernel_rfl
theorem zq104.v (x0 : THead) (x1 : Int) : V.evC zq104.E Tryz.f353.ntmps (V.codeOf Tryz.f353) (zq104.kt x0 x1) (zq104.s x0 x1) = zq104 x0 x1 := by kernel_rfl
theorem zq104.eq (x0 : THead) (x1 : Int) : V.evBody zq104.E zq104.con Tryz.f353 (V.fl0 x0 x1) = zq104 x0 x1 := (zq104.v0 x0 x1).trans (zq104.v x0 x1)
theorem zq104.ok : V.Valid Tryz.prog 353 zq104.con :=
  V.fo (V.tab_cons zq106.ok V.tab_nil) Tryz.func353 (by kernel_rfl) (fun x y h => (show V.evBody zq104.E zq104.con Tryz.f353 x = _ from zq104.eq (V.p0_0 x) (V.p0_1 x)).trans (V.cfl (by kernel_rfl) h))
noncomputable abbrev zq107.con : V.Con := ⟨(.cons (.sl (.cons (.int .i64) (.cons (.int .i64) .nil))) (.cons (.int .i64) .nil)), (.cons (.int .i64) .nil), fun (x : List TSig × Int) => zq107 x.1 x.2, [], [(false, 1), (false, 1)], [(false, 1)], [false], []⟩
noncomputable abbrev zq107.E : V.Env := V.mkE V.tys [] [] [] [] [] []
theorem zq107.eq (x0 : List TSig) (x1 : Int) : V.evBody zq107.E zq107.con Tryz.f354 ((x0, x1) : List TSig × Int) = zq107 x0 x1 := by kernel_rfl
theorem zq107.ok : V.Valid Tryz.prog 354 zq107.con :=
  V.fo V.tab_nil Tryz.func354 (by kernel_rfl) (fun x y h => (show V.evBody zq107.E zq107.con Tryz.f354 x = _ from zq107.eq x.1 x.2).trans (V.cfl (by kernel_rfl) h))
noncomputable abbrev zq108.con : V.Con := ⟨V.A1, (.cons (.int .i64) .nil), fun (x : V.D1) => zq108 (V.p1_0 x) (V.p1_1 x), [], [(true, 17), (false, 1)], [(false, 1)], [false], []⟩
noncomputable abbrev zq108.E : V.Env := V.mkE V.tys [(353, zq104.con), (354, zq107.con)] [] [] [] [] []
noncomputable abbrev zq108.kt (x0 : TSigned) (x1 : Int) : V.Kt Int := V.ktOf zq108.E zq108.con Tryz.f239 (V.fl1 x0 x1)
noncomputable abbrev zq108.s (x0 : TSigned) (x1 : Int) : V.St := ⟨[(0, .v true [.val (.int .i64 x0.1), .val (.int .i64 x0.2.1), .val (.int .i64 x0.2.2.1), .val (.int .i64 x0.2.2.2.1), .val (.int .i64 x0.2.2.2.2.1), .val (.int .i64 x0.2.2.2.2.2.1), .val (.int .i64 x0.2.2.2.2.2.2.1), .val (.int .i64 x0.2.2.2.2.2.2.2.1), .val (.sl (.cons (.int .i64) .nil) x0.2.2.2.2.2.2.2.2.1), .val (.int .i64 x0.2.2.2.2.2.2.2.2.2.1), .val (.sl (.cons (.int .i64) .nil) x0.2.2.2.2.2.2.2.2.2.2.1), .val (.int .i64 x0.2.2.2.2.2.2.2.2.2.2.2.1), .val (.int .i64 x0.2.2.2.2.2.2.2.2.2.2.2.2.1), .val (.sl (.cons (.int .i64) .nil) x0.2.2.2.2.2.2.2.2.2.2.2.2.2.1), .val (.int .i64 x0.2.2.2.2.2.2.2.2.2.2.2.2.2.2.1), .val (.bool x0.2.2.2.2.2.2.2.2.2.2.2.2.2.2.2.1), .val (.sl (.cons (.int .i64) (.cons (.int .i64) .nil)) x0.2.2.2.2.2.2.2.2.2.2.2.2.2.2.2.2)]), (1, .v false [.val (.int .i64 x1)])], []⟩
theorem zq108.v0 (x0 : TSigned) (x1 : Int) : V.evBody zq108.E zq108.con Tryz.f239 (V.fl1 x0 x1) = V.evC zq108.E Tryz.f239.ntmps (V.codeOf Tryz.f239) (zq108.kt x0 x1) (zq108.s x0 x1) := by kernel_rfl
theorem zq108.v (x0 : TSigned) (x1 : Int) : V.evC zq108.E Tryz.f239.ntmps (V.codeOf Tryz.f239) (zq108.kt x0 x1) (zq108.s x0 x1) = zq108 x0 x1 := by kernel_rfl
theorem zq108.eq (x0 : TSigned) (x1 : Int) : V.evBody zq108.E zq108.con Tryz.f239 (V.fl1 x0 x1) = zq108 x0 x1 := (zq108.v0 x0 x1).trans (zq108.v x0 x1)
theorem zq108.ok : V.Valid Tryz.prog 239 zq108.con :=
  V.fo (V.tab_cons zq104.ok (V.tab_cons zq107.ok V.tab_nil)) Tryz.func239 (by kernel_rfl) (fun x y h => (show V.evBody zq108.E zq108.con Tryz.f239 x = _ from zq108.eq (V.p1_0 x) (V.p1_1 x)).trans (V.cfl (by kernel_rfl) h))
noncomputable abbrev zq109.con : V.Con := ⟨(.cons (.sl V.eSigned) (.cons (.int .i64) .nil)), (.cons (.int .i64) .nil), fun (x : List TSigned × Int) => zq109 x.1 x.2, [], [(false, 1), (false, 1)], [(false, 1)], [false], []⟩
noncomputable abbrev zq109.E : V.Env := V.mkE V.tys [(239, zq108.con)] [(10, [0, 1, 5], [])] [] [] [] []
noncomputable abbrev zq109.kt (x0 : List TSigned) (x1 : Int) : V.Kt Int := V.ktOf zq109.E zq109.con Tryz.f264 ((x0, x1) : List TSigned × Int)
noncomputable abbrev zq109.s10 (x0 : List TSigned) (v10_1 : Int) (v10_2 : Int) : V.St := ⟨[(0, .v false [.val (.sl V.eSigned x0)]), (1, .v false [.val (.int .i64 v10_1)]), (5, .v false [.val (.int .i64 v10_2)])], []⟩
theorem zq109.r10 (x0 : List TSigned) (x1 : Int) (R : V.St → Option Int) (v10_1 : Int) (v10_2 : Int) : V.loopF zq109.E Tryz.f264.ntmps [1, 1, 1, 0, 1, 0] [] (V.codeOf Tryz.f264) (zq109.kt x0 x1) R (zq109.s10 x0 v10_1 v10_2) = zq109.g10 x0 (fun v10_1 v10_2 => R (zq109.s10 x0 v10_1 v10_2)) v10_1 v10_2 := by kernel_rfl
theorem zq109.e10 (x0 : List TSigned) (x1 : Int) : ∀ (n : Nat) (v10_1 : Int) (v10_2 : Int), V.loopN (V.loopF zq109.E Tryz.f264.ntmps [1, 1, 1, 0, 1, 0] [] (V.codeOf Tryz.f264) (zq109.kt x0 x1)) n (zq109.s10 x0 v10_1 v10_2) = zq109.l10 x0 n v10_1 v10_2 := by
  intro n
  induction n with
  | zero => intros; rw [V.loopN_z]; rfl
  | succ n ih =>
    intro v10_1 v10_2
    rw [V.loopN_s, zq109.r10]
    simp only [ih]
    first | exact (zq109.u10 ..).symm | rfl
theorem zq109.v (x0 : List TSigned) (x1 : Int) : V.evBody zq109.E zq109.con Tryz.f264 ((x0, x1) : List TSigned × Int) = zq109.b x0 x1 (fun v10_1 v10_2 => V.loopN (V.loopF zq109.E Tryz.f264.ntmps [1, 1, 1, 0, 1, 0] [] (V.codeOf Tryz.f264) (zq109.kt x0 x1)) V.KK (zq109.s10 x0 v10_1 v10_2)) := by kernel_rfl
theorem zq109.eq (x0 : List TSigned) (x1 : Int) : V.evBody zq109.E zq109.con Tryz.f264 ((x0, x1) : List TSigned × Int) = zq109 x0 x1 := by
  rw [zq109.v]
  simp only [zq109.e10]
  rfl
theorem zq109.ok : V.Valid Tryz.prog 264 zq109.con :=
  V.fo (V.tab_cons zq108.ok V.tab_nil) Tryz.func264 (by kernel_rfl) (fun x y h => (show V.evBody zq109.E zq109.con Tryz.f264 x = _ from zq109.eq x.1 x.2).trans (V.cfl (by kernel_rfl) h))
noncomputable abbrev zq110.con : V.Con := ⟨(.cons (.sl (.cons .str .nil)) (.cons (.int .i64) .nil)), (.cons (.int .i64) .nil), fun (x : List ByteArray × Int) => zq110 x.1 x.2, [], [(false, 1), (false, 1)], [(false, 1)], [false], []⟩
noncomputable abbrev zq110.E : V.Env := V.mkE V.tys [] [(10, [0, 1, 5], [])] [] [] [] []
noncomputable abbrev zq110.kt (x0 : List ByteArray) (x1 : Int) : V.Kt Int := V.ktOf zq110.E zq110.con Tryz.f365 ((x0, x1) : List ByteArray × Int)
noncomputable abbrev zq110.s10 (x0 : List ByteArray) (v10_1 : Int) (v10_2 : Int) : V.St := ⟨[(0, .v false [.val (.sl (.cons .str .nil) x0)]), (1, .v false [.val (.int .i64 v10_1)]), (5, .v false [.val (.int .i64 v10_2)])], []⟩
theorem zq110.r10 (x0 : List ByteArray) (x1 : Int) (R : V.St → Option Int) (v10_1 : Int) (v10_2 : Int) : V.loopF zq110.E Tryz.f365.ntmps [1, 1, 1, 0, 1, 0] [] (V.codeOf Tryz.f365) (zq110.kt x0 x1) R (zq110.s10 x0 v10_1 v10_2) = zq110.g10 x0 (fun v10_1 v10_2 => R (zq110.s10 x0 v10_1 v10_2)) v10_1 v10_2 := by kernel_rfl
theorem zq110.e10 (x0 : List ByteArray) (x1 : Int) : ∀ (n : Nat) (v10_1 : Int) (v10_2 : Int), V.loopN (V.loopF zq110.E Tryz.f365.ntmps [1, 1, 1, 0, 1, 0] [] (V.codeOf Tryz.f365) (zq110.kt x0 x1)) n (zq110.s10 x0 v10_1 v10_2) = zq110.l10 x0 n v10_1 v10_2 := by
  intro n
  induction n with
  | zero => intros; rw [V.loopN_z]; rfl
  | succ n ih =>
    intro v10_1 v10_2
    rw [V.loopN_s, zq110.r10]
    simp only [ih]
    first | exact (zq110.u10 ..).symm | rfl
theorem zq110.v (x0 : List ByteArray) (x1 : Int) : V.evBody zq110.E zq110.con Tryz.f365 ((x0, x1) : List ByteArray × Int) = zq110.b x0 x1 (fun v10_1 v10_2 => V.loopN (V.loopF zq110.E Tryz.f365.ntmps [1, 1, 1, 0, 1, 0] [] (V.codeOf Tryz.f365) (zq110.kt x0 x1)) V.KK (zq110.s10 x0 v10_1 v10_2)) := by kernel_rfl
theorem zq110.eq (x0 : List ByteArray) (x1 : Int) : V.evBody zq110.E zq110.con Tryz.f365 ((x0, x1) : List ByteArray × Int) = zq110 x0 x1 := by
  rw [zq110.v]
  simp only [zq110.e10]
  rfl
theorem zq110.ok : V.Valid Tryz.prog 365 zq110.con :=
  V.fo V.tab_nil Tryz.func365 (by kernel_rfl) (fun x y h => (show V.evBody zq110.E zq110.con Tryz.f365 x = _ from zq110.eq x.1 x.2).trans (V.cfl (by kernel_rfl) h))
noncomputable abbrev zq102.con : V.Con := ⟨(.cons .str (.cons (.int .i64) (.cons (.int .i64) (.cons (.sl (.cons .str .nil)) (.cons (.int .i64) .nil))))), (.cons (.int .i64) .nil), fun (x : ByteArray × Int × Int × List ByteArray × Int) => zq102 (x.1, x.2.1, x.2.2.1, x.2.2.2.1) x.2.2.2.2, [], [(true, 4), (false, 1)], [(false, 1)], [false], []⟩
noncomputable abbrev zq102.E : V.Env := V.mkE V.tys [(365, zq110.con)] [] [] [] [] []
theorem zq102.eq (x0 : TEntry) (x1 : Int) : V.evBody zq102.E zq102.con Tryz.f265 ((x0.1, x0.2.1, x0.2.2.1, x0.2.2.2, x1) : ByteArray × Int × Int × List ByteArray × Int) = zq102 x0 x1 := by kernel_rfl
theorem zq102.ok : V.Valid Tryz.prog 265 zq102.con :=
  V.fo (V.tab_cons zq110.ok V.tab_nil) Tryz.func265 (by kernel_rfl) (fun x y h => (show V.evBody zq102.E zq102.con Tryz.f265 x = _ from zq102.eq (x.1, x.2.1, x.2.2.1, x.2.2.2.1) x.2.2.2.2).trans (V.cfl (by kernel_rfl) h))
noncomputable abbrev zq103.con : V.Con := ⟨(.cons (.sl V.eEntry) (.cons (.int .i64) .nil)), (.cons (.int .i64) .nil), fun (x : List TEntry × Int) => zq103 x.1 x.2, [], [(false, 1), (false, 1)], [(false, 1)], [false], []⟩
noncomputable abbrev zq103.E : V.Env := V.mkE V.tys [(265, zq102.con)] [(10, [0, 1, 5], [])] [] [] [] []
noncomputable abbrev zq103.kt (x0 : List TEntry) (x1 : Int) : V.Kt Int := V.ktOf zq103.E zq103.con Tryz.f111 ((x0, x1) : List TEntry × Int)
noncomputable abbrev zq103.s10 (x0 : List TEntry) (v10_1 : Int) (v10_2 : Int) : V.St := ⟨[(0, .v false [.val (.sl V.eEntry x0)]), (1, .v false [.val (.int .i64 v10_1)]), (5, .v false [.val (.int .i64 v10_2)])], []⟩
theorem zq103.r10 (x0 : List TEntry) (x1 : Int) (R : V.St → Option Int) (v10_1 : Int) (v10_2 : Int) : V.loopF zq103.E Tryz.f111.ntmps [1, 1, 1, 0, 1, 0] [] (V.codeOf Tryz.f111) (zq103.kt x0 x1) R (zq103.s10 x0 v10_1 v10_2) = zq103.g10 x0 (fun v10_1 v10_2 => R (zq103.s10 x0 v10_1 v10_2)) v10_1 v10_2 := by kernel_rfl
theorem zq103.e10 (x0 : List TEntry) (x1 : Int) : ∀ (n : Nat) (v10_1 : Int) (v10_2 : Int), V.loopN (V.loopF zq103.E Tryz.f111.ntmps [1, 1, 1, 0, 1, 0] [] (V.codeOf Tryz.f111) (zq103.kt x0 x1)) n (zq103.s10 x0 v10_1 v10_2) = zq103.l10 x0 n v10_1 v10_2 := by
  intro n
  induction n with
  | zero => intros; rw [V.loopN_z]; rfl
  | succ n ih =>
    intro v10_1 v10_2
    rw [V.loopN_s, zq103.r10]
    simp only [ih]
    first | exact (zq103.u10 ..).symm | rfl
theorem zq103.v (x0 : List TEntry) (x1 : Int) : V.evBody zq103.E zq103.con Tryz.f111 ((x0, x1) : List TEntry × Int) = zq103.b x0 x1 (fun v10_1 v10_2 => V.loopN (V.loopF zq103.E Tryz.f111.ntmps [1, 1, 1, 0, 1, 0] [] (V.codeOf Tryz.f111) (zq103.kt x0 x1)) V.KK (zq103.s10 x0 v10_1 v10_2)) := by kernel_rfl
theorem zq103.eq (x0 : List TEntry) (x1 : Int) : V.evBody zq103.E zq103.con Tryz.f111 ((x0, x1) : List TEntry × Int) = zq103 x0 x1 := by
  rw [zq103.v]
  simp only [zq103.e10]
  rfl
theorem zq103.ok : V.Valid Tryz.prog 111 zq103.con :=
  V.fo (V.tab_cons zq102.ok V.tab_nil) Tryz.func111 (by kernel_rfl) (fun x y h => (show V.evBody zq103.E zq103.con Tryz.f111 x = _ from zq103.eq x.1 x.2).trans (V.cfl (by kernel_rfl) h))
noncomputable abbrev zq111.con : V.Con := ⟨(.cons (.sl V.eSigned) (.cons (.sl V.eEntry) (.cons (.int .i64) .nil))), (.cons (.int .i64) .nil), fun (x : List TSigned × List TEntry × Int) => zq111 (x.1, x.2.1) x.2.2, [], [(true, 2), (false, 1)], [(false, 1)], [false], []⟩
noncomputable abbrev zq111.E : V.Env := V.mkE V.tys [(111, zq103.con), (264, zq109.con)] [] [] [] [] []
theorem zq111.eq (x0 : TZone) (x1 : Int) : V.evBody zq111.E zq111.con Tryz.f110 ((x0.1, x0.2, x1) : List TSigned × List TEntry × Int) = zq111 x0 x1 := by kernel_rfl
theorem zq111.ok : V.Valid Tryz.prog 110 zq111.con :=
  V.fo (V.tab_cons zq103.ok (V.tab_cons zq109.ok V.tab_nil)) Tryz.func110 (by kernel_rfl) (fun x y h => (show V.evBody zq111.E zq111.con Tryz.f110 x = _ from zq111.eq (x.1, x.2.1) x.2.2).trans (V.cfl (by kernel_rfl) h))
noncomputable abbrev zq115.con : V.Con := ⟨(.cons (.sl (.cons (.int .i64) .nil)) .nil), (.cons (.sl (.cons (.int .i64) .nil)) .nil), fun (x : List Int) => zq115 x, [], [(false, 1)], [(false, 1)], [true], []⟩
noncomputable abbrev zq115.E : V.Env := V.mkE V.tys [] [(6, [0, 3, 4], [])] [] [] [] []
noncomputable abbrev zq115.kt (x0 : List Int) : V.Kt (List Int) := V.ktOf zq115.E zq115.con Tryz.f113 ((x0) : List Int)
noncomputable abbrev zq115.s6 (x0 : List Int) (v6_1 : Int) (v6_2 : List Int) : V.St := ⟨[(0, .v false [.val (.sl (.cons (.int .i64) .nil) x0)]), (3, .v false [.ref 64000038400192]), (4, .v false [.val (.int .i64 v6_1)])], [(64000038400192, .row (.cons (.int .i64) .nil) true v6_2)]⟩
theorem zq115.r6 (x0 : List Int) (R : V.St → Option (List Int)) (v6_1 : Int) (v6_2 : List Int) : V.loopF zq115.E Tryz.f113.ntmps [1, 1, 0, 1, 0] [] (V.codeOf Tryz.f113) (zq115.kt x0) R (zq115.s6 x0 v6_1 v6_2) = zq115.g6 x0 (fun v6_1 v6_2 => R (zq115.s6 x0 v6_1 v6_2)) v6_1 v6_2 := by kernel_rfl
theorem zq115.e6 (x0 : List Int) : ∀ (n : Nat) (v6_1 : Int) (v6_2 : List Int), V.loopN (V.loopF zq115.E Tryz.f113.ntmps [1, 1, 0, 1, 0] [] (V.codeOf Tryz.f113) (zq115.kt x0)) n (zq115.s6 x0 v6_1 v6_2) = zq115.l6 x0 n v6_1 v6_2 := by
  intro n
  induction n with
  | zero => intros; rw [V.loopN_z]; rfl
  | succ n ih =>
    intro v6_1 v6_2
    rw [V.loopN_s, zq115.r6]
    simp only [ih]
    first | exact (zq115.u6 ..).symm | rfl
theorem zq115.v (x0 : List Int) : V.evBody zq115.E zq115.con Tryz.f113 ((x0) : List Int) = zq115.b x0 (fun v6_1 v6_2 => V.loopN (V.loopF zq115.E Tryz.f113.ntmps [1, 1, 0, 1, 0] [] (V.codeOf Tryz.f113) (zq115.kt x0)) V.KK (zq115.s6 x0 v6_1 v6_2)) := by kernel_rfl
theorem zq115.eq (x0 : List Int) : V.evBody zq115.E zq115.con Tryz.f113 ((x0) : List Int) = zq115 x0 := by
  rw [zq115.v]
  simp only [zq115.e6]
  rfl
theorem zq115.ok : V.Valid Tryz.prog 113 zq115.con :=
  V.fo V.tab_nil Tryz.func113 (by kernel_rfl) (fun x y h => (show V.evBody zq115.E zq115.con Tryz.f113 x = _ from zq115.eq x).trans (V.cfl (by kernel_rfl) h))
noncomputable abbrev zq116.con : V.Con := ⟨(.cons (.sl (.cons (.int .i64) .nil)) (.cons (.int .i64) .nil)), (.cons (.sl (.cons (.int .i64) .nil)) (.cons (.int .i64) .nil)), fun (x : List Int × Int) => zq116 x, [], [(true, 2)], [(true, 2)], [true, false], []⟩
noncomputable abbrev zq116.E : V.Env := V.mkE V.tys [(113, zq115.con)] [] [] [] [] []
theorem zq116.eq (x0 : TKeys) : V.evBody zq116.E zq116.con Tryz.f414 ((x0.1, x0.2) : List Int × Int) = zq116 x0 := by kernel_rfl
theorem zq116.ok : V.Valid Tryz.prog 414 zq116.con :=
  V.fo (V.tab_cons zq115.ok V.tab_nil) Tryz.func414 (by kernel_rfl) (fun x y h => (show V.evBody zq116.E zq116.con Tryz.f414 x = _ from zq116.eq x).trans (V.cfl (by kernel_rfl) h))
noncomputable abbrev zq114.con : V.Con := ⟨V.A2, V.eHead, fun (x : V.D2) => zq114 (V.p2_0 x), [], [(true, 16)], [(true, 16)], [false, false, false, false, false, false, false, false, true, false, true, false, false, true, false, false], []⟩
noncomputable abbrev zq114.E : V.Env := V.mkE V.tys [(414, zq116.con)] [] [] [] [] []
noncomputable abbrev zq114.kt (x0 : THead) : V.Kt THead := V.ktOf zq114.E zq114.con Tryz.f355 (V.fl2 x0)
noncomputable abbrev zq114.s (x0 : THead) : V.St := ⟨[(0, .v true [.val (.int .i64 x0.1), .val (.int .i64 x0.2.1), .val (.int .i64 x0.2.2.1), .val (.int .i64 x0.2.2.2.1), .val (.int .i64 x0.2.2.2.2.1), .val (.int .i64 x0.2.2.2.2.2.1), .val (.int .i64 x0.2.2.2.2.2.2.1), .val (.int .i64 x0.2.2.2.2.2.2.2.1), .val (.sl (.cons (.int .i64) .nil) x0.2.2.2.2.2.2.2.2.1), .val (.int .i64 x0.2.2.2.2.2.2.2.2.2.1), .val (.sl (.cons (.int .i64) .nil) x0.2.2.2.2.2.2.2.2.2.2.1), .val (.int .i64 x0.2.2.2.2.2.2.2.2.2.2.2.1), .val (.int .i64 x0.2.2.2.2.2.2.2.2.2.2.2.2.1), .val (.sl (.cons (.int .i64) .nil) x0.2.2.2.2.2.2.2.2.2.2.2.2.2.1), .val (.int .i64 x0.2.2.2.2.2.2.2.2.2.2.2.2.2.2.1), .val (.bool x0.2.2.2.2.2.2.2.2.2.2.2.2.2.2.2)])], []⟩
theorem zq114.v0 (x0 : THead) : V.evBody zq114.E zq114.con Tryz.f355 (V.fl2 x0) = V.evC zq114.E Tryz.f355.ntmps (V.codeOf Tryz.f355) (zq114.kt x0) (zq114.s x0) := by kernel_rfl
theorem zq114.v (x0 : THead) : V.evC zq114.E Tryz.f355.ntmps (V.codeOf Tryz.f355) (zq114.kt x0) (zq114.s x0) = zq114 x0 := by kernel_rfl
theorem zq114.eq (x0 : THead) : V.evBody zq114.E zq114.con Tryz.f355 (V.fl2 x0) = zq114 x0 := (zq114.v0 x0).trans (zq114.v x0)
theorem zq114.ok : V.Valid Tryz.prog 355 zq114.con :=
  V.fo (V.tab_cons zq116.ok V.tab_nil) Tryz.func355 (by kernel_rfl) (fun x y h => (show V.evBody zq114.E zq114.con Tryz.f355 x = _ from zq114.eq (V.p2_0 x)).trans (V.cfl (by kernel_rfl) h))
noncomputable abbrev zq117.con : V.Con := ⟨(.cons (.int .i64) (.cons (.int .i64) .nil)), (.cons (.int .i64) (.cons (.int .i64) .nil)), fun (x : Int × Int) => zq117 x, [], [(true, 2)], [(true, 2)], [false, false], []⟩
noncomputable abbrev zq117.E : V.Env := V.mkE V.tys [] [] [] [] [] []
theorem zq117.eq (x0 : TSig) : V.evBody zq117.E zq117.con Tryz.f415 ((x0.1, x0.2) : Int × Int) = zq117 x0 := by kernel_rfl
theorem zq117.ok : V.Valid Tryz.prog 415 zq117.con :=
  V.fo V.tab_nil Tryz.func415 (by kernel_rfl) (fun x y h => (show V.evBody zq117.E zq117.con Tryz.f415 x = _ from zq117.eq x).trans (V.cfl (by kernel_rfl) h))
noncomputable abbrev zq118.con : V.Con := ⟨(.cons (.sl (.cons (.int .i64) (.cons (.int .i64) .nil))) .nil), (.cons (.sl (.cons (.int .i64) (.cons (.int .i64) .nil))) .nil), fun (x : List TSig) => zq118 x, [], [(false, 1)], [(false, 1)], [true], []⟩
noncomputable abbrev zq118.E : V.Env := V.mkE V.tys [(415, zq117.con)] [(6, [0, 3, 4], [])] [] [] [] []
noncomputable abbrev zq118.kt (x0 : List TSig) : V.Kt (List TSig) := V.ktOf zq118.E zq118.con Tryz.f356 ((x0) : List TSig)
noncomputable abbrev zq118.s6 (x0 : List TSig) (v6_1 : Int) (v6_2 : List TSig) : V.St := ⟨[(0, .v false [.val (.sl (.cons (.int .i64) (.cons (.int .i64) .nil)) x0)]), (3, .v false [.ref 64000038400192]), (4, .v false [.val (.int .i64 v6_1)])], [(64000038400192, .row (.cons (.int .i64) (.cons (.int .i64) .nil)) true v6_2)]⟩
theorem zq118.r6 (x0 : List TSig) (R : V.St → Option (List TSig)) (v6_1 : Int) (v6_2 : List TSig) : V.loopF zq118.E Tryz.f356.ntmps [1, 1, 0, 1, 0] [] (V.codeOf Tryz.f356) (zq118.kt x0) R (zq118.s6 x0 v6_1 v6_2) = zq118.g6 x0 (fun v6_1 v6_2 => R (zq118.s6 x0 v6_1 v6_2)) v6_1 v6_2 := by kernel_rfl
theorem zq118.e6 (x0 : List TSig) : ∀ (n : Nat) (v6_1 : Int) (v6_2 : List TSig), V.loopN (V.loopF zq118.E Tryz.f356.ntmps [1, 1, 0, 1, 0] [] (V.codeOf Tryz.f356) (zq118.kt x0)) n (zq118.s6 x0 v6_1 v6_2) = zq118.l6 x0 n v6_1 v6_2 := by
  intro n
  induction n with
  | zero => intros; rw [V.loopN_z]; rfl
  | succ n ih =>
    intro v6_1 v6_2
    rw [V.loopN_s, zq118.r6]
    simp only [ih]
    first | exact (zq118.u6 ..).symm | rfl
theorem zq118.v (x0 : List TSig) : V.evBody zq118.E zq118.con Tryz.f356 ((x0) : List TSig) = zq118.b x0 (fun v6_1 v6_2 => V.loopN (V.loopF zq118.E Tryz.f356.ntmps [1, 1, 0, 1, 0] [] (V.codeOf Tryz.f356) (zq118.kt x0)) V.KK (zq118.s6 x0 v6_1 v6_2)) := by kernel_rfl
theorem zq118.eq (x0 : List TSig) : V.evBody zq118.E zq118.con Tryz.f356 ((x0) : List TSig) = zq118 x0 := by
  rw [zq118.v]
  simp only [zq118.e6]
  rfl
theorem zq118.ok : V.Valid Tryz.prog 356 zq118.con :=
  V.fo (V.tab_cons zq117.ok V.tab_nil) Tryz.func356 (by kernel_rfl) (fun x y h => (show V.evBody zq118.E zq118.con Tryz.f356 x = _ from zq118.eq x).trans (V.cfl (by kernel_rfl) h))
noncomputable abbrev zq119.con : V.Con := ⟨V.A3, V.eSigned, fun (x : V.D3) => zq119 (V.p3_0 x), [], [(true, 17)], [(true, 17)], [false, false, false, false, false, false, false, false, true, false, true, false, false, true, false, false, true], []⟩
noncomputable abbrev zq119.E : V.Env := V.mkE V.tys [(355, zq114.con), (356, zq118.con)] [] [] [] [] []
noncomputable abbrev zq119.kt (x0 : TSigned) : V.Kt TSigned := V.ktOf zq119.E zq119.con Tryz.f242 (V.fl3 x0)
noncomputable abbrev zq119.s (x0 : TSigned) : V.St := ⟨[(0, .v true [.val (.int .i64 x0.1), .val (.int .i64 x0.2.1), .val (.int .i64 x0.2.2.1), .val (.int .i64 x0.2.2.2.1), .val (.int .i64 x0.2.2.2.2.1), .val (.int .i64 x0.2.2.2.2.2.1), .val (.int .i64 x0.2.2.2.2.2.2.1), .val (.int .i64 x0.2.2.2.2.2.2.2.1), .val (.sl (.cons (.int .i64) .nil) x0.2.2.2.2.2.2.2.2.1), .val (.int .i64 x0.2.2.2.2.2.2.2.2.2.1), .val (.sl (.cons (.int .i64) .nil) x0.2.2.2.2.2.2.2.2.2.2.1), .val (.int .i64 x0.2.2.2.2.2.2.2.2.2.2.2.1), .val (.int .i64 x0.2.2.2.2.2.2.2.2.2.2.2.2.1), .val (.sl (.cons (.int .i64) .nil) x0.2.2.2.2.2.2.2.2.2.2.2.2.2.1), .val (.int .i64 x0.2.2.2.2.2.2.2.2.2.2.2.2.2.2.1), .val (.bool x0.2.2.2.2.2.2.2.2.2.2.2.2.2.2.2.1), .val (.sl (.cons (.int .i64) (.cons (.int .i64) .nil)) x0.2.2.2.2.2.2.2.2.2.2.2.2.2.2.2.2)])], []⟩
theorem zq119.v0 (x0 : TSigned) : V.evBody zq119.E zq119.con Tryz.f242 (V.fl3 x0) = V.evC zq119.E Tryz.f242.ntmps (V.codeOf Tryz.f242) (zq119.kt x0) (zq119.s x0) := by kernel_rfl
theorem zq119.v (x0 : TSigned) : V.evC zq119.E Tryz.f242.ntmps (V.codeOf Tryz.f242) (zq119.kt x0) (zq119.s x0) = zq119 x0 := by kernel_rfl
theorem zq119.eq (x0 : TSigned) : V.evBody zq119.E zq119.con Tryz.f242 (V.fl3 x0) = zq119 x0 := (zq119.v0 x0).trans (zq119.v x0)
theorem zq119.ok : V.Valid Tryz.prog 242 zq119.con :=
  V.fo (V.tab_cons zq114.ok (V.tab_cons zq118.ok V.tab_nil)) Tryz.func242 (by kernel_rfl) (fun x y h => (show V.evBody zq119.E zq119.con Tryz.f242 x = _ from zq119.eq (V.p3_0 x)).trans (V.cfl (by kernel_rfl) h))
noncomputable abbrev zq120.con : V.Con := ⟨(.cons (.sl V.eSigned) .nil), (.cons (.sl V.eSigned) .nil), fun (x : List TSigned) => zq120 x, [], [(false, 1)], [(false, 1)], [true], []⟩
noncomputable abbrev zq120.E : V.Env := V.mkE V.tys [(242, zq119.con)] [(6, [0, 3, 4], [])] [] [] [] []
noncomputable abbrev zq120.kt (x0 : List TSigned) : V.Kt (List TSigned) := V.ktOf zq120.E zq120.con Tryz.f266 ((x0) : List TSigned)
noncomputable abbrev zq120.s6 (x0 : List TSigned) (v6_1 : Int) (v6_2 : List TSigned) : V.St := ⟨[(0, .v false [.val (.sl V.eSigned x0)]), (3, .v false [.ref 64000038400192]), (4, .v false [.val (.int .i64 v6_1)])], [(64000038400192, .row V.eSigned true v6_2)]⟩
theorem zq120.r6 (x0 : List TSigned) (R : V.St → Option (List TSigned)) (v6_1 : Int) (v6_2 : List TSigned) : V.loopF zq120.E Tryz.f266.ntmps [1, 1, 0, 1, 0] [] (V.codeOf Tryz.f266) (zq120.kt x0) R (zq120.s6 x0 v6_1 v6_2) = zq120.g6 x0 (fun v6_1 v6_2 => R (zq120.s6 x0 v6_1 v6_2)) v6_1 v6_2 := by kernel_rfl
theorem zq120.e6 (x0 : List TSigned) : ∀ (n : Nat) (v6_1 : Int) (v6_2 : List TSigned), V.loopN (V.loopF zq120.E Tryz.f266.ntmps [1, 1, 0, 1, 0] [] (V.codeOf Tryz.f266) (zq120.kt x0)) n (zq120.s6 x0 v6_1 v6_2) = zq120.l6 x0 n v6_1 v6_2 := by
  intro n
  induction n with
  | zero => intros; rw [V.loopN_z]; rfl
  | succ n ih =>
    intro v6_1 v6_2
    rw [V.loopN_s, zq120.r6]
    simp only [ih]
    first | exact (zq120.u6 ..).symm | rfl
theorem zq120.v (x0 : List TSigned) : V.evBody zq120.E zq120.con Tryz.f266 ((x0) : List TSigned) = zq120.b x0 (fun v6_1 v6_2 => V.loopN (V.loopF zq120.E Tryz.f266.ntmps [1, 1, 0, 1, 0] [] (V.codeOf Tryz.f266) (zq120.kt x0)) V.KK (zq120.s6 x0 v6_1 v6_2)) := by kernel_rfl
theorem zq120.eq (x0 : List TSigned) : V.evBody zq120.E zq120.con Tryz.f266 ((x0) : List TSigned) = zq120 x0 := by
  rw [zq120.v]
  simp only [zq120.e6]
  rfl
theorem zq120.ok : V.Valid Tryz.prog 266 zq120.con :=
  V.fo (V.tab_cons zq119.ok V.tab_nil) Tryz.func266 (by kernel_rfl) (fun x y h => (show V.evBody zq120.E zq120.con Tryz.f266 x = _ from zq120.eq x).trans (V.cfl (by kernel_rfl) h))
noncomputable abbrev zq121.con : V.Con := ⟨(.cons (.sl (.cons .str .nil)) .nil), (.cons (.sl (.cons .str .nil)) .nil), fun (x : List ByteArray) => zq121 x, [], [(false, 1)], [(false, 1)], [true], []⟩
noncomputable abbrev zq121.E : V.Env := V.mkE V.tys [] [(6, [0, 3, 4], [])] [] [] [] []
noncomputable abbrev zq121.kt (x0 : List ByteArray) : V.Kt (List ByteArray) := V.ktOf zq121.E zq121.con Tryz.f366 ((x0) : List ByteArray)
noncomputable abbrev zq121.s6 (x0 : List ByteArray) (v6_1 : Int) (v6_2 : List ByteArray) : V.St := ⟨[(0, .v false [.val (.sl (.cons .str .nil) x0)]), (3, .v false [.ref 64000038400192]), (4, .v false [.val (.int .i64 v6_1)])], [(64000038400192, .row (.cons .str .nil) true v6_2)]⟩
theorem zq121.r6 (x0 : List ByteArray) (R : V.St → Option (List ByteArray)) (v6_1 : Int) (v6_2 : List ByteArray) : V.loopF zq121.E Tryz.f366.ntmps [1, 1, 0, 1, 0] [] (V.codeOf Tryz.f366) (zq121.kt x0) R (zq121.s6 x0 v6_1 v6_2) = zq121.g6 x0 (fun v6_1 v6_2 => R (zq121.s6 x0 v6_1 v6_2)) v6_1 v6_2 := by kernel_rfl
theorem zq121.e6 (x0 : List ByteArray) : ∀ (n : Nat) (v6_1 : Int) (v6_2 : List ByteArray), V.loopN (V.loopF zq121.E Tryz.f366.ntmps [1, 1, 0, 1, 0] [] (V.codeOf Tryz.f366) (zq121.kt x0)) n (zq121.s6 x0 v6_1 v6_2) = zq121.l6 x0 n v6_1 v6_2 := by
  intro n
  induction n with
  | zero => intros; rw [V.loopN_z]; rfl
  | succ n ih =>
    intro v6_1 v6_2
    rw [V.loopN_s, zq121.r6]
    simp only [ih]
    first | exact (zq121.u6 ..).symm | rfl
theorem zq121.v (x0 : List ByteArray) : V.evBody zq121.E zq121.con Tryz.f366 ((x0) : List ByteArray) = zq121.b x0 (fun v6_1 v6_2 => V.loopN (V.loopF zq121.E Tryz.f366.ntmps [1, 1, 0, 1, 0] [] (V.codeOf Tryz.f366) (zq121.kt x0)) V.KK (zq121.s6 x0 v6_1 v6_2)) := by kernel_rfl
theorem zq121.eq (x0 : List ByteArray) : V.evBody zq121.E zq121.con Tryz.f366 ((x0) : List ByteArray) = zq121 x0 := by
  rw [zq121.v]
  simp only [zq121.e6]
  rfl
theorem zq121.ok : V.Valid Tryz.prog 366 zq121.con :=
  V.fo V.tab_nil Tryz.func366 (by kernel_rfl) (fun x y h => (show V.evBody zq121.E zq121.con Tryz.f366 x = _ from zq121.eq x).trans (V.cfl (by kernel_rfl) h))
noncomputable abbrev zq112.con : V.Con := ⟨V.eEntry, V.eEntry, fun (x : ByteArray × Int × Int × List ByteArray) => zq112 x, [], [(true, 4)], [(true, 4)], [false, false, false, true], []⟩
noncomputable abbrev zq112.E : V.Env := V.mkE V.tys [(366, zq121.con)] [] [] [] [] []
theorem zq112.eq (x0 : TEntry) : V.evBody zq112.E zq112.con Tryz.f267 ((x0.1, x0.2.1, x0.2.2.1, x0.2.2.2) : ByteArray × Int × Int × List ByteArray) = zq112 x0 := by kernel_rfl
theorem zq112.ok : V.Valid Tryz.prog 267 zq112.con :=
  V.fo (V.tab_cons zq121.ok V.tab_nil) Tryz.func267 (by kernel_rfl) (fun x y h => (show V.evBody zq112.E zq112.con Tryz.f267 x = _ from zq112.eq x).trans (V.cfl (by kernel_rfl) h))
noncomputable abbrev zq113.con : V.Con := ⟨(.cons (.sl V.eEntry) .nil), (.cons (.sl V.eEntry) .nil), fun (x : List TEntry) => zq113 x, [], [(false, 1)], [(false, 1)], [true], []⟩
noncomputable abbrev zq113.E : V.Env := V.mkE V.tys [(267, zq112.con)] [(6, [0, 3, 4], [])] [] [] [] []
noncomputable abbrev zq113.kt (x0 : List TEntry) : V.Kt (List TEntry) := V.ktOf zq113.E zq113.con Tryz.f114 ((x0) : List TEntry)
noncomputable abbrev zq113.s6 (x0 : List TEntry) (v6_1 : Int) (v6_2 : List TEntry) : V.St := ⟨[(0, .v false [.val (.sl V.eEntry x0)]), (3, .v false [.ref 64000038400192]), (4, .v false [.val (.int .i64 v6_1)])], [(64000038400192, .row V.eEntry true v6_2)]⟩
theorem zq113.r6 (x0 : List TEntry) (R : V.St → Option (List TEntry)) (v6_1 : Int) (v6_2 : List TEntry) : V.loopF zq113.E Tryz.f114.ntmps [1, 1, 0, 1, 0] [] (V.codeOf Tryz.f114) (zq113.kt x0) R (zq113.s6 x0 v6_1 v6_2) = zq113.g6 x0 (fun v6_1 v6_2 => R (zq113.s6 x0 v6_1 v6_2)) v6_1 v6_2 := by kernel_rfl
theorem zq113.e6 (x0 : List TEntry) : ∀ (n : Nat) (v6_1 : Int) (v6_2 : List TEntry), V.loopN (V.loopF zq113.E Tryz.f114.ntmps [1, 1, 0, 1, 0] [] (V.codeOf Tryz.f114) (zq113.kt x0)) n (zq113.s6 x0 v6_1 v6_2) = zq113.l6 x0 n v6_1 v6_2 := by
  intro n
  induction n with
  | zero => intros; rw [V.loopN_z]; rfl
  | succ n ih =>
    intro v6_1 v6_2
    rw [V.loopN_s, zq113.r6]
    simp only [ih]
    first | exact (zq113.u6 ..).symm | rfl
theorem zq113.v (x0 : List TEntry) : V.evBody zq113.E zq113.con Tryz.f114 ((x0) : List TEntry) = zq113.b x0 (fun v6_1 v6_2 => V.loopN (V.loopF zq113.E Tryz.f114.ntmps [1, 1, 0, 1, 0] [] (V.codeOf Tryz.f114) (zq113.kt x0)) V.KK (zq113.s6 x0 v6_1 v6_2)) := by kernel_rfl
theorem zq113.eq (x0 : List TEntry) : V.evBody zq113.E zq113.con Tryz.f114 ((x0) : List TEntry) = zq113 x0 := by
  rw [zq113.v]
  simp only [zq113.e6]
  rfl
theorem zq113.ok : V.Valid Tryz.prog 114 zq113.con :=
  V.fo (V.tab_cons zq112.ok V.tab_nil) Tryz.func114 (by kernel_rfl) (fun x y h => (show V.evBody zq113.E zq113.con Tryz.f114 x = _ from zq113.eq x).trans (V.cfl (by kernel_rfl) h))
noncomputable abbrev zq122.con : V.Con := ⟨(.cons (.sl V.eSigned) (.cons (.sl V.eEntry) .nil)), (.cons (.sl V.eSigned) (.cons (.sl V.eEntry) .nil)), fun (x : List TSigned × List TEntry) => zq122 x, [], [(true, 2)], [(true, 2)], [true, true], []⟩
noncomputable abbrev zq122.E : V.Env := V.mkE V.tys [(114, zq113.con), (266, zq120.con)] [] [] [] [] []
theorem zq122.eq (x0 : TZone) : V.evBody zq122.E zq122.con Tryz.f112 ((x0.1, x0.2) : List TSigned × List TEntry) = zq122 x0 := by kernel_rfl
theorem zq122.ok : V.Valid Tryz.prog 112 zq122.con :=
  V.fo (V.tab_cons zq113.ok (V.tab_cons zq120.ok V.tab_nil)) Tryz.func112 (by kernel_rfl) (fun x y h => (show V.evBody zq122.E zq122.con Tryz.f112 x = _ from zq122.eq x).trans (V.cfl (by kernel_rfl) h))
noncomputable abbrev zq186.con : V.Con := ⟨(.cons (.int .i64) (.cons (.int .i64) (.cons (.int .i64) .nil))), (.cons .bool .nil), fun (x : Int × Int × Int) => zq186 x.1 x.2.1 x.2.2, [], [(false, 1), (false, 1), (false, 1)], [(false, 1)], [false], []⟩
noncomputable abbrev zq186.E : V.Env := V.mkE V.tys [] [] [] [] [] []
theorem zq186.eq (x0 : Int) (x1 : Int) (x2 : Int) : V.evBody zq186.E zq186.con Tryz.f179 ((x0, x1, x2) : Int × Int × Int) = zq186 x0 x1 x2 := by kernel_rfl
theorem zq186.ok : V.Valid Tryz.prog 179 zq186.con :=
  V.fo V.tab_nil Tryz.func179 (by kernel_rfl) (fun x y h => (show V.evBody zq186.E zq186.con Tryz.f179 x = _ from zq186.eq x.1 x.2.1 x.2.2).trans (V.cfl (by kernel_rfl) h))
noncomputable abbrev zq152.con : V.Con := ⟨(.cons (.sl (.cons (.int .i64) .nil)) (.cons (.int .i64) .nil)), (.cons .bool .nil), fun (x : List Int × Int) => zq152 x, [], [(true, 2)], [(false, 1)], [false], []⟩
noncomputable abbrev zq152.E : V.Env := V.mkE V.tys [(179, zq186.con)] [(4, [1, 3], [])] [(4, 22)] [] [] []
noncomputable abbrev zq152.kt (x0 : TKeys) : V.Kt Bool := V.ktOf zq152.E zq152.con Tryz.f214 ((x0.1, x0.2) : List Int × Int)
noncomputable abbrev zq152.s4 (x0 : TKeys) (v4_0 : Int) : V.St := ⟨[(1, .v false [.ptr 64000 0]), (3, .v false [.val (.int .i64 v4_0)])], [(64000, .box [.val (.sl (.cons (.int .i64) .nil) x0.1), .val (.int .i64 x0.2)])]⟩
theorem zq152.r4 (x0 : TKeys) (R : V.St → Option Bool) (v4_0 : Int) : V.loopF zq152.E Tryz.f214.ntmps [1, 0, 1, 0] [] (V.codeOf Tryz.f214) (zq152.kt x0) R (zq152.s4 x0 v4_0) = zq152.g4 x0 (fun v4_0 => R (zq152.s4 x0 v4_0)) v4_0 := by kernel_rfl
theorem zq152.e4 (x0 : TKeys) : ∀ (n : Nat) (v4_0 : Int), V.loopN (V.loopF zq152.E Tryz.f214.ntmps [1, 0, 1, 0] [] (V.codeOf Tryz.f214) (zq152.kt x0)) n (zq152.s4 x0 v4_0) = zq152.l4 x0 n v4_0 := by
  intro n
  induction n with
  | zero => intros; rw [V.loopN_z]; rfl
  | succ n ih =>
    intro v4_0
    rw [V.loopN_s, zq152.r4]
    simp only [ih]
    first | exact (zq152.u4 ..).symm | rfl
theorem zq152.v (x0 : TKeys) : V.evBody zq152.E zq152.con Tryz.f214 ((x0.1, x0.2) : List Int × Int) = zq152.b x0 (fun v4_0 => V.loopN (V.loopF zq152.E Tryz.f214.ntmps [1, 0, 1, 0] [] (V.codeOf Tryz.f214) (zq152.kt x0)) V.KK (zq152.s4 x0 v4_0)) := by kernel_rfl
theorem zq152.eq (x0 : TKeys) : V.evBody zq152.E zq152.con Tryz.f214 ((x0.1, x0.2) : List Int × Int) = zq152 x0 := by
  rw [zq152.v]
  simp only [zq152.e4]
  rfl
theorem zq152.ok : V.Valid Tryz.prog 214 zq152.con :=
  V.fo (V.tab_cons zq186.ok V.tab_nil) Tryz.func214 (by kernel_rfl) (fun x y h => (show V.evBody zq152.E zq152.con Tryz.f214 x = _ from zq152.eq x).trans (V.cfl (by kernel_rfl) h))
noncomputable abbrev zq167.con : V.Con := ⟨(.cons (.sl (.cons (.int .i64) .nil)) (.cons (.int .i64) .nil)), (.cons .bool .nil), fun (x : List Int × Int) => zq167 x, [], [(true, 2)], [(false, 1)], [false], []⟩
noncomputable abbrev zq167.E : V.Env := V.mkE V.tys [] [] [] [] [] []
theorem zq167.eq (x0 : TKeys) : V.evBody zq167.E zq167.con Tryz.f237 ((x0.1, x0.2) : List Int × Int) = zq167 x0 := by kernel_rfl
theorem zq167.ok : V.Valid Tryz.prog 237 zq167.con :=
  V.fo V.tab_nil Tryz.func237 (by kernel_rfl) (fun x y h => (show V.evBody zq167.E zq167.con Tryz.f237 x = _ from zq167.eq x).trans (V.cfl (by kernel_rfl) h))
noncomputable abbrev zq151.con : V.Con := ⟨V.A2, (.cons .bool .nil), fun (x : V.D2) => zq151 (V.p2_0 x), [], [(true, 16)], [(false, 1)], [false], []⟩
noncomputable abbrev zq151.E : V.Env := V.mkE V.tys [(179, zq186.con), (214, zq152.con), (237, zq167.con)] [(7, [1], []), (11, [1], []), (21, [1], [])] [] [] [] []
noncomputable abbrev zq151.kt (x0 : THead) : V.Kt Bool := V.ktOf zq151.E zq151.con Tryz.f312 (V.fl2 x0)
noncomputable abbrev zq151.s21 (x0 : THead) : V.St := ⟨[(1, .v false [.ptr 64000 0])], [(64000, .box [.val (.int .i64 x0.1), .val (.int .i64 x0.2.1), .val (.int .i64 x0.2.2.1), .val (.int .i64 x0.2.2.2.1), .val (.int .i64 x0.2.2.2.2.1), .val (.int .i64 x0.2.2.2.2.2.1), .val (.int .i64 x0.2.2.2.2.2.2.1), .val (.int .i64 x0.2.2.2.2.2.2.2.1), .val (.sl (.cons (.int .i64) .nil) x0.2.2.2.2.2.2.2.2.1), .val (.int .i64 x0.2.2.2.2.2.2.2.2.2.1), .val (.sl (.cons (.int .i64) .nil) x0.2.2.2.2.2.2.2.2.2.2.1), .val (.int .i64 x0.2.2.2.2.2.2.2.2.2.2.2.1), .val (.int .i64 x0.2.2.2.2.2.2.2.2.2.2.2.2.1), .val (.sl (.cons (.int .i64) .nil) x0.2.2.2.2.2.2.2.2.2.2.2.2.2.1), .val (.int .i64 x0.2.2.2.2.2.2.2.2.2.2.2.2.2.2.1), .val (.bool x0.2.2.2.2.2.2.2.2.2.2.2.2.2.2.2)])]⟩
noncomputable abbrev zq151.s11 (x0 : THead) : V.St := ⟨[(1, .v false [.ptr 64000 0])], [(64000, .box [.val (.int .i64 x0.1), .val (.int .i64 x0.2.1), .val (.int .i64 x0.2.2.1), .val (.int .i64 x0.2.2.2.1), .val (.int .i64 x0.2.2.2.2.1), .val (.int .i64 x0.2.2.2.2.2.1), .val (.int .i64 x0.2.2.2.2.2.2.1), .val (.int .i64 x0.2.2.2.2.2.2.2.1), .val (.sl (.cons (.int .i64) .nil) x0.2.2.2.2.2.2.2.2.1), .val (.int .i64 x0.2.2.2.2.2.2.2.2.2.1), .val (.sl (.cons (.int .i64) .nil) x0.2.2.2.2.2.2.2.2.2.2.1), .val (.int .i64 x0.2.2.2.2.2.2.2.2.2.2.2.1), .val (.int .i64 x0.2.2.2.2.2.2.2.2.2.2.2.2.1), .val (.sl (.cons (.int .i64) .nil) x0.2.2.2.2.2.2.2.2.2.2.2.2.2.1), .val (.int .i64 x0.2.2.2.2.2.2.2.2.2.2.2.2.2.2.1), .val (.bool x0.2.2.2.2.2.2.2.2.2.2.2.2.2.2.2)])]⟩
noncomputable abbrev zq151.s7 (x0 : THead) : V.St := ⟨[(1, .v false [.ptr 64000 0])], [(64000, .box [.val (.int .i64 x0.1), .val (.int .i64 x0.2.1), .val (.int .i64 x0.2.2.1), .val (.int .i64 x0.2.2.2.1), .val (.int .i64 x0.2.2.2.2.1), .val (.int .i64 x0.2.2.2.2.2.1), .val (.int .i64 x0.2.2.2.2.2.2.1), .val (.int .i64 x0.2.2.2.2.2.2.2.1), .val (.sl (.cons (.int .i64) .nil) x0.2.2.2.2.2.2.2.2.1), .val (.int .i64 x0.2.2.2.2.2.2.2.2.2.1), .val (.sl (.cons (.int .i64) .nil) x0.2.2.2.2.2.2.2.2.2.2.1), .val (.int .i64 x0.2.2.2.2.2.2.2.2.2.2.2.1), .val (.int .i64 x0.2.2.2.2.2.2.2.2.2.2.2.2.1), .val (.sl (.cons (.int .i64) .nil) x0.2.2.2.2.2.2.2.2.2.2.2.2.2.1), .val (.int .i64 x0.2.2.2.2.2.2.2.2.2.2.2.2.2.2.1), .val (.bool x0.2.2.2.2.2.2.2.2.2.2.2.2.2.2.2)])]⟩
theorem zq151.r21 (x0 : THead) : V.joinF zq151.E Tryz.f312.ntmps [1, 1, 1] [] (V.codeOf Tryz.f312) (zq151.kt x0) (zq151.s21 x0) = zq151.g21 x0 := by kernel_rfl
theorem zq151.e21 (x0 : THead) : V.jn (V.joinF zq151.E Tryz.f312.ntmps [1, 1, 1] [] (V.codeOf Tryz.f312) (zq151.kt x0)) (zq151.s21 x0) = zq151.l21 x0 := by
  rw [V.jn_eq, zq151.r21]
  rfl
theorem zq151.r11 (x0 : THead) : V.joinF zq151.E Tryz.f312.ntmps [1, 1] [] (V.codeOf Tryz.f312) (zq151.kt x0) (zq151.s11 x0) = zq151.g11 x0 (V.jn (V.joinF zq151.E Tryz.f312.ntmps [1, 1, 1] [] (V.codeOf Tryz.f312) (zq151.kt x0)) (zq151.s21 x0)) := by kernel_rfl
theorem zq151.e11 (x0 : THead) : V.jn (V.joinF zq151.E Tryz.f312.ntmps [1, 1] [] (V.codeOf Tryz.f312) (zq151.kt x0)) (zq151.s11 x0) = zq151.l11 x0 := by
  rw [V.jn_eq, zq151.r11]
  simp only [zq151.e21]
  rfl
theorem zq151.r7 (x0 : THead) : V.joinF zq151.E Tryz.f312.ntmps [1] [] (V.codeOf Tryz.f312) (zq151.kt x0) (zq151.s7 x0) = zq151.g7 x0 (V.jn (V.joinF zq151.E Tryz.f312.ntmps [1, 1] [] (V.codeOf Tryz.f312) (zq151.kt x0)) (zq151.s11 x0)) := by kernel_rfl
theorem zq151.e7 (x0 : THead) : V.jn (V.joinF zq151.E Tryz.f312.ntmps [1] [] (V.codeOf Tryz.f312) (zq151.kt x0)) (zq151.s7 x0) = zq151.l7 x0 := by
  rw [V.jn_eq, zq151.r7]
  simp only [zq151.e11]
  rfl
noncomputable abbrev zq151.s (x0 : THead) : V.St := ⟨[(0, .v true [.val (.int .i64 x0.1), .val (.int .i64 x0.2.1), .val (.int .i64 x0.2.2.1), .val (.int .i64 x0.2.2.2.1), .val (.int .i64 x0.2.2.2.2.1), .val (.int .i64 x0.2.2.2.2.2.1), .val (.int .i64 x0.2.2.2.2.2.2.1), .val (.int .i64 x0.2.2.2.2.2.2.2.1), .val (.sl (.cons (.int .i64) .nil) x0.2.2.2.2.2.2.2.2.1), .val (.int .i64 x0.2.2.2.2.2.2.2.2.2.1), .val (.sl (.cons (.int .i64) .nil) x0.2.2.2.2.2.2.2.2.2.2.1), .val (.int .i64 x0.2.2.2.2.2.2.2.2.2.2.2.1), .val (.int .i64 x0.2.2.2.2.2.2.2.2.2.2.2.2.1), .val (.sl (.cons (.int .i64) .nil) x0.2.2.2.2.2.2.2.2.2.2.2.2.2.1), .val (.int .i64 x0.2.2.2.2.2.2.2.2.2.2.2.2.2.2.1), .val (.bool x0.2.2.2.2.2.2.2.2.2.2.2.2.2.2.2)])], []⟩
theorem zq151.v0 (x0 : THead) : V.evBody zq151.E zq151.con Tryz.f312 (V.fl2 x0) = V.evC zq151.E Tryz.f312.ntmps (V.codeOf Tryz.f312) (zq151.kt x0) (zq151.s x0) := by kernel_rfl
theorem zq151.v (x0 : THead) : V.evC zq151.E Tryz.f312.ntmps (V.codeOf Tryz.f312) (zq151.kt x0) (zq151.s x0) = zq151.b x0 (V.jn (V.joinF zq151.E Tryz.f312.ntmps [1] [] (V.codeOf Tryz.f312) (zq151.kt x0)) (zq151.s7 x0)) := by kernel_rfl
theorem zq151.eq (x0 : THead) : V.evBody zq151.E zq151.con Tryz.f312 (V.fl2 x0) = zq151 x0 := by
  rw [zq151.v0, zq151.v]
  simp only [zq151.e7]
  rfl
theorem zq151.ok : V.Valid Tryz.prog 312 zq151.con :=
  V.fo (V.tab_cons zq186.ok (V.tab_cons zq152.ok (V.tab_cons zq167.ok V.tab_nil))) Tryz.func312 (by kernel_rfl) (fun x y h => (show V.evBody zq151.E zq151.con Tryz.f312 x = _ from zq151.eq (V.p2_0 x)).trans (V.cfl (by kernel_rfl) h))
noncomputable abbrev zq159.con : V.Con := ⟨(.cons (.sl (.cons (.int .i64) .nil)) (.cons (.int .i64) .nil)), (.cons (.sl (.cons (.int .i64) .nil)) .nil), fun (x : List Int × Int) => zq159 x, [], [(true, 2)], [(false, 1)], [true], []⟩
noncomputable abbrev zq159.E : V.Env := V.mkE V.tys [] [] [] [] [] []
theorem zq159.eq (x0 : TKeys) : V.evBody zq159.E zq159.con Tryz.f273 ((x0.1, x0.2) : List Int × Int) = zq159 x0 := by kernel_rfl
theorem zq159.ok : V.Valid Tryz.prog 273 zq159.con :=
  V.fo V.tab_nil Tryz.func273 (by kernel_rfl) (fun x y h => (show V.evBody zq159.E zq159.con Tryz.f273 x = _ from zq159.eq x).trans (V.cfl (by kernel_rfl) h))
noncomputable abbrev zq165.con : V.Con := ⟨(.cons (.int .i64) (.cons (.int .i64) .nil)), (.cons (.int .i64) .nil), fun (x : Int × Int) => zq165 x.1 x.2, [], [(false, 1), (false, 1)], [(false, 1)], [false], []⟩
noncomputable abbrev zq165.E : V.Env := V.mkE V.tys [(179, zq186.con)] [] [] [] [] []
theorem zq165.eq (x0 : Int) (x1 : Int) : V.evBody zq165.E zq165.con Tryz.f403 ((x0, x1) : Int × Int) = zq165 x0 x1 := by kernel_rfl
theorem zq165.ok : V.Valid Tryz.prog 403 zq165.con :=
  V.fo (V.tab_cons zq186.ok V.tab_nil) Tryz.func403 (by kernel_rfl) (fun x y h => (show V.evBody zq165.E zq165.con Tryz.f403 x = _ from zq165.eq x.1 x.2).trans (V.cfl (by kernel_rfl) h))
noncomputable abbrev zq145.con : V.Con := ⟨(.cons (.sl (.cons (.int .i64) .nil)) .nil), (.cons (.int .i64) .nil), fun (x : List Int) => zq145 x, [], [(false, 1)], [(false, 1)], [false], []⟩
noncomputable abbrev zq145.E : V.Env := V.mkE V.tys [(403, zq165.con)] [(6, [0, 3, 4], [])] [] [] [] []
noncomputable abbrev zq145.kt (x0 : List Int) : V.Kt Int := V.ktOf zq145.E zq145.con Tryz.f337 ((x0) : List Int)
noncomputable abbrev zq145.s6 (x0 : List Int) (v6_1 : Int) (v6_2 : Int) : V.St := ⟨[(0, .v false [.val (.sl (.cons (.int .i64) .nil) x0)]), (3, .v false [.val (.int .i64 v6_1)]), (4, .v false [.val (.int .i64 v6_2)])], []⟩
theorem zq145.r6 (x0 : List Int) (R : V.St → Option Int) (v6_1 : Int) (v6_2 : Int) : V.loopF zq145.E Tryz.f337.ntmps [1, 1, 0, 1, 0] [] (V.codeOf Tryz.f337) (zq145.kt x0) R (zq145.s6 x0 v6_1 v6_2) = zq145.g6 x0 (fun v6_1 v6_2 => R (zq145.s6 x0 v6_1 v6_2)) v6_1 v6_2 := by kernel_rfl
theorem zq145.e6 (x0 : List Int) : ∀ (n : Nat) (v6_1 : Int) (v6_2 : Int), V.loopN (V.loopF zq145.E Tryz.f337.ntmps [1, 1, 0, 1, 0] [] (V.codeOf Tryz.f337) (zq145.kt x0)) n (zq145.s6 x0 v6_1 v6_2) = zq145.l6 x0 n v6_1 v6_2 := by
  intro n
  induction n with
  | zero => intros; rw [V.loopN_z]; rfl
  | succ n ih =>
    intro v6_1 v6_2
    rw [V.loopN_s, zq145.r6]
    simp only [ih]
    first | exact (zq145.u6 ..).symm | rfl
theorem zq145.v (x0 : List Int) : V.evBody zq145.E zq145.con Tryz.f337 ((x0) : List Int) = zq145.b x0 (fun v6_1 v6_2 => V.loopN (V.loopF zq145.E Tryz.f337.ntmps [1, 1, 0, 1, 0] [] (V.codeOf Tryz.f337) (zq145.kt x0)) V.KK (zq145.s6 x0 v6_1 v6_2)) := by kernel_rfl
theorem zq145.eq (x0 : List Int) : V.evBody zq145.E zq145.con Tryz.f337 ((x0) : List Int) = zq145 x0 := by
  rw [zq145.v]
  simp only [zq145.e6]
  rfl
theorem zq145.ok : V.Valid Tryz.prog 337 zq145.con :=
  V.fo (V.tab_cons zq165.ok V.tab_nil) Tryz.func337 (by kernel_rfl) (fun x y h => (show V.evBody zq145.E zq145.con Tryz.f337 x = _ from zq145.eq x).trans (V.cfl (by kernel_rfl) h))
noncomputable abbrev zq177.con : V.Con := ⟨(.cons (.sl (.cons (.int .i64) .nil)) (.cons (.int .i64) (.cons (.int .i64) .nil))), (.cons (.int .i64) .nil), fun (x : List Int × Int × Int) => zq177 (x.1, x.2.1) x.2.2, [], [(true, 2), (false, 1)], [(false, 1)], [false], []⟩
noncomputable abbrev zq177.E : V.Env := V.mkE V.tys [(273, zq159.con), (337, zq145.con)] [] [] [] [] []
theorem zq177.eq (x0 : TKeys) (x1 : Int) : V.evBody zq177.E zq177.con Tryz.f318 ((x0.1, x0.2, x1) : List Int × Int × Int) = zq177 x0 x1 := by kernel_rfl
theorem zq177.ok : V.Valid Tryz.prog 318 zq177.con :=
  V.fo (V.tab_cons zq159.ok (V.tab_cons zq145.ok V.tab_nil)) Tryz.func318 (by kernel_rfl) (fun x y h => (show V.evBody zq177.E zq177.con Tryz.f318 x = _ from zq177.eq (x.1, x.2.1) x.2.2).trans (V.cfl (by kernel_rfl) h))
noncomputable abbrev zq147.con : V.Con := ⟨V.A2, (.cons (.sl (.cons (.int .i64) .nil)) .nil), fun (x : V.D2) => zq147 (V.p2_0 x), [], [(true, 16)], [(false, 1)], [true], []⟩
noncomputable abbrev zq147.E : V.Env := V.mkE V.tys [(273, zq159.con)] [] [] [] [] []
noncomputable abbrev zq147.kt (x0 : THead) : V.Kt (List Int) := V.ktOf zq147.E zq147.con Tryz.f125 (V.fl2 x0)
noncomputable abbrev zq147.s (x0 : THead) : V.St := ⟨[(0, .v true [.val (.int .i64 x0.1), .val (.int .i64 x0.2.1), .val (.int .i64 x0.2.2.1), .val (.int .i64 x0.2.2.2.1), .val (.int .i64 x0.2.2.2.2.1), .val (.int .i64 x0.2.2.2.2.2.1), .val (.int .i64 x0.2.2.2.2.2.2.1), .val (.int .i64 x0.2.2.2.2.2.2.2.1), .val (.sl (.cons (.int .i64) .nil) x0.2.2.2.2.2.2.2.2.1), .val (.int .i64 x0.2.2.2.2.2.2.2.2.2.1), .val (.sl (.cons (.int .i64) .nil) x0.2.2.2.2.2.2.2.2.2.2.1), .val (.int .i64 x0.2.2.2.2.2.2.2.2.2.2.2.1), .val (.int .i64 x0.2.2.2.2.2.2.2.2.2.2.2.2.1), .val (.sl (.cons (.int .i64) .nil) x0.2.2.2.2.2.2.2.2.2.2.2.2.2.1), .val (.int .i64 x0.2.2.2.2.2.2.2.2.2.2.2.2.2.2.1), .val (.bool x0.2.2.2.2.2.2.2.2.2.2.2.2.2.2.2)])], []⟩
theorem zq147.v0 (x0 : THead) : V.evBody zq147.E zq147.con Tryz.f125 (V.fl2 x0) = V.evC zq147.E Tryz.f125.ntmps (V.codeOf Tryz.f125) (zq147.kt x0) (zq147.s x0) := by kernel_rfl
theorem zq147.v (x0 : THead) : V.evC zq147.E Tryz.f125.ntmps (V.codeOf Tryz.f125) (zq147.kt x0) (zq147.s x0) = zq147 x0 := by kernel_rfl
theorem zq147.eq (x0 : THead) : V.evBody zq147.E zq147.con Tryz.f125 (V.fl2 x0) = zq147 x0 := (zq147.v0 x0).trans (zq147.v x0)
theorem zq147.ok : V.Valid Tryz.prog 125 zq147.con :=
  V.fo (V.tab_cons zq159.ok V.tab_nil) Tryz.func125 (by kernel_rfl) (fun x y h => (show V.evBody zq147.E zq147.con Tryz.f125 x = _ from zq147.eq (V.p2_0 x)).trans (V.cfl (by kernel_rfl) h))
noncomputable abbrev zq158.con : V.Con := ⟨(.cons (.int .i64) (.cons (.sl (.cons (.int .i64) .nil)) .nil)), (.cons (.int .i64) .nil), fun (x : Int × List Int) => zq158 x.1 x.2, [], [(false, 1), (false, 1)], [(false, 1)], [false], []⟩
noncomputable abbrev zq158.E : V.Env := V.mkE V.tys [(337, zq145.con)] [] [] [] [] []
theorem zq158.eq (x0 : Int) (x1 : List Int) : V.evBody zq158.E zq158.con Tryz.f328 ((x0, x1) : Int × List Int) = zq158 x0 x1 := by kernel_rfl
theorem zq158.ok : V.Valid Tryz.prog 328 zq158.con :=
  V.fo (V.tab_cons zq145.ok V.tab_nil) Tryz.func328 (by kernel_rfl) (fun x y h => (show V.evBody zq158.E zq158.con Tryz.f328 x = _ from zq158.eq x.1 x.2).trans (V.cfl (by kernel_rfl) h))
noncomputable abbrev zq175.con : V.Con := ⟨(.cons (.int .i64) (.cons (.sl (.cons (.int .i64) .nil)) .nil)), (.cons (.int .i64) .nil), fun (x : Int × List Int) => zq175 x.1 x.2, [], [(false, 1), (false, 1)], [(false, 1)], [false], []⟩
noncomputable abbrev zq175.E : V.Env := V.mkE V.tys [(328, zq158.con)] [] [] [] [] []
theorem zq175.eq (x0 : Int) (x1 : List Int) : V.evBody zq175.E zq175.con Tryz.f202 ((x0, x1) : Int × List Int) = zq175 x0 x1 := by kernel_rfl
theorem zq175.ok : V.Valid Tryz.prog 202 zq175.con :=
  V.fo (V.tab_cons zq158.ok V.tab_nil) Tryz.func202 (by kernel_rfl) (fun x y h => (show V.evBody zq175.E zq175.con Tryz.f202 x = _ from zq175.eq x.1 x.2).trans (V.cfl (by kernel_rfl) h))
noncomputable abbrev zq155.con : V.Con := ⟨(.cons (.int .i64) (.cons (.int .i64) (.cons (.sl (.cons (.int .i64) .nil)) .nil))), (.cons .bool .nil), fun (x : Int × Int × List Int) => zq155 (x.1, x.2.1) x.2.2, [], [(true, 2), (false, 1)], [(false, 1)], [false], []⟩
noncomputable abbrev zq155.E : V.Env := V.mkE V.tys [(179, zq186.con), (202, zq175.con)] [] [(1, 10)] [] [] []
theorem zq155.eq (x0 : TSig) (x1 : List Int) : V.evBody zq155.E zq155.con Tryz.f336 ((x0.1, x0.2, x1) : Int × Int × List Int) = zq155 x0 x1 := by kernel_rfl
theorem zq155.ok : V.Valid Tryz.prog 336 zq155.con :=
  V.fo (V.tab_cons zq186.ok (V.tab_cons zq175.ok V.tab_nil)) Tryz.func336 (by kernel_rfl) (fun x y h => (show V.evBody zq155.E zq155.con Tryz.f336 x = _ from zq155.eq (x.1, x.2.1) x.2.2).trans (V.cfl (by kernel_rfl) h))
noncomputable abbrev zq139.con : V.Con := ⟨(.cons (.sl (.cons (.int .i64) .nil)) (.cons (.int .i64) (.cons (.sl (.cons (.int .i64) .nil)) (.cons (.sl (.cons (.int .i64) (.cons (.int .i64) .nil))) .nil)))), (.cons (.int .i64) .nil), fun (x : List Int × Int × List Int × List TSig) => zq139 (x.1, x.2.1) x.2.2.1 x.2.2.2, [], [(true, 2), (false, 1), (false, 1)], [(false, 1)], [false], []⟩
noncomputable abbrev zq139.E : V.Env := V.mkE V.tys [(336, zq155.con)] [(6, [1, 2, 3, 7, 8], []), (12, [1, 2, 3, 7, 8, 9], []), (19, [1, 2, 3, 7, 8, 9, 41], [])] [(8, 17)] [] [] []
noncomputable abbrev zq139.kt (x0 : TKeys) (x1 : List Int) (x2 : List TSig) : V.Kt Int := V.ktOf zq139.E zq139.con Tryz.f213 ((x0.1, x0.2, x1, x2) : List Int × Int × List Int × List TSig)
noncomputable abbrev zq139.s19 (x0 : TKeys) (x1 : List Int) (x2 : List TSig) (v6_2 : Int) (v6_3 : Int) (v12_4 : Int) (v19_5 : Bool) : V.St := ⟨[(1, .v false [.val (.sl (.cons (.int .i64) .nil) x1)]), (2, .v false [.val (.sl (.cons (.int .i64) (.cons (.int .i64) .nil)) x2)]), (3, .v false [.ptr 64000 0]), (7, .v false [.val (.int .i64 v6_2)]), (8, .v false [.val (.int .i64 v6_3)]), (9, .v false [.val (.int .i64 v12_4)]), (41, .v false [.val (.bool v19_5)])], [(64000, .box [.val (.sl (.cons (.int .i64) .nil) x0.1), .val (.int .i64 x0.2)])]⟩
noncomputable abbrev zq139.s12 (x0 : TKeys) (x1 : List Int) (x2 : List TSig) (v6_2 : Int) (v6_3 : Int) (v12_4 : Int) : V.St := ⟨[(1, .v false [.val (.sl (.cons (.int .i64) .nil) x1)]), (2, .v false [.val (.sl (.cons (.int .i64) (.cons (.int .i64) .nil)) x2)]), (3, .v false [.ptr 64000 0]), (7, .v false [.val (.int .i64 v6_2)]), (8, .v false [.val (.int .i64 v6_3)]), (9, .v false [.val (.int .i64 v12_4)])], [(64000, .box [.val (.sl (.cons (.int .i64) .nil) x0.1), .val (.int .i64 x0.2)])]⟩
noncomputable abbrev zq139.s6 (x0 : TKeys) (x1 : List Int) (x2 : List TSig) (v6_2 : Int) (v6_3 : Int) : V.St := ⟨[(1, .v false [.val (.sl (.cons (.int .i64) .nil) x1)]), (2, .v false [.val (.sl (.cons (.int .i64) (.cons (.int .i64) .nil)) x2)]), (3, .v false [.ptr 64000 0]), (7, .v false [.val (.int .i64 v6_2)]), (8, .v false [.val (.int .i64 v6_3)])], [(64000, .box [.val (.sl (.cons (.int .i64) .nil) x0.1), .val (.int .i64 x0.2)])]⟩
theorem zq139.r19 (x0 : TKeys) (x1 : List Int) (x2 : List TSig) (v12_4 : Int) (v6_2 : Int) (v6_3 : Int) (R6 : V.St → Option Int) (R12 : V.St → Option Int) (v19_5 : Bool) : V.joinF zq139.E Tryz.f213.ntmps [1, 1, 0, 1, 0, 0, 1, 0, 0, 1, 0, 0, 1, 0, 0] [R6, R12] (V.codeOf Tryz.f213) (zq139.kt x0 x1 x2) (zq139.s19 x0 x1 x2 v6_2 v6_3 v12_4 v19_5) = zq139.g19 x0 x1 x2 v6_2 v6_3 v12_4 (fun v6_2 v6_3 => R6 (zq139.s6 x0 x1 x2 v6_2 v6_3)) (fun v12_4 => R12 (zq139.s12 x0 x1 x2 v6_2 v6_3 v12_4)) v19_5 := by kernel_rfl
theorem zq139.e19 (x0 : TKeys) (x1 : List Int) (x2 : List TSig) (v12_4 : Int) (v6_2 : Int) (v6_3 : Int) (R6 : V.St → Option Int) (R12 : V.St → Option Int) (v19_5 : Bool) : V.jn (V.joinF zq139.E Tryz.f213.ntmps [1, 1, 0, 1, 0, 0, 1, 0, 0, 1, 0, 0, 1, 0, 0] [R6, R12] (V.codeOf Tryz.f213) (zq139.kt x0 x1 x2)) (zq139.s19 x0 x1 x2 v6_2 v6_3 v12_4 v19_5) = zq139.l19 x0 x1 x2 v6_2 v6_3 v12_4 (fun v6_2 v6_3 => R6 (zq139.s6 x0 x1 x2 v6_2 v6_3)) (fun v12_4 => R12 (zq139.s12 x0 x1 x2 v6_2 v6_3 v12_4)) v19_5 := by
  rw [V.jn_eq, zq139.r19]
  rfl
theorem zq139.r12 (x0 : TKeys) (x1 : List Int) (x2 : List TSig) (v6_2 : Int) (v6_3 : Int) (R6 : V.St → Option Int) (R : V.St → Option Int) (v12_4 : Int) : V.loopF zq139.E Tryz.f213.ntmps [1, 1, 0, 1, 0, 0, 1, 0, 0, 1, 0] [R6] (V.codeOf Tryz.f213) (zq139.kt x0 x1 x2) R (zq139.s12 x0 x1 x2 v6_2 v6_3 v12_4) = zq139.g12 x0 x1 x2 v6_2 v6_3 (fun v6_2 v6_3 => R6 (zq139.s6 x0 x1 x2 v6_2 v6_3)) (fun v12_4 => R (zq139.s12 x0 x1 x2 v6_2 v6_3 v12_4)) (fun v19_5 => V.jn (V.joinF zq139.E Tryz.f213.ntmps [1, 1, 0, 1, 0, 0, 1, 0, 0, 1, 0, 0, 1, 0, 0] [R6, R] (V.codeOf Tryz.f213) (zq139.kt x0 x1 x2)) (zq139.s19 x0 x1 x2 v6_2 v6_3 v12_4 v19_5)) v12_4 := by kernel_rfl
theorem zq139.e12 (x0 : TKeys) (x1 : List Int) (x2 : List TSig) (v6_2 : Int) (v6_3 : Int) (R6 : V.St → Option Int) : ∀ (n : Nat) (v12_4 : Int), V.loopN (V.loopF zq139.E Tryz.f213.ntmps [1, 1, 0, 1, 0, 0, 1, 0, 0, 1, 0] [R6] (V.codeOf Tryz.f213) (zq139.kt x0 x1 x2)) n (zq139.s12 x0 x1 x2 v6_2 v6_3 v12_4) = zq139.l12 x0 x1 x2 v6_2 v6_3 (fun v6_2 v6_3 => R6 (zq139.s6 x0 x1 x2 v6_2 v6_3)) n v12_4 := by
  intro n
  induction n with
  | zero => intros; rw [V.loopN_z]; rfl
  | succ n ih =>
    intro v12_4
    rw [V.loopN_s, zq139.r12]
    simp only [zq139.e19, ih]
    first | exact (zq139.u12 ..).symm | rfl
theorem zq139.r6 (x0 : TKeys) (x1 : List Int) (x2 : List TSig) (R : V.St → Option Int) (v6_2 : Int) (v6_3 : Int) : V.loopF zq139.E Tryz.f213.ntmps [1, 1, 0, 1, 0] [] (V.codeOf Tryz.f213) (zq139.kt x0 x1 x2) R (zq139.s6 x0 x1 x2 v6_2 v6_3) = zq139.g6 x0 x1 x2 (fun v6_2 v6_3 => R (zq139.s6 x0 x1 x2 v6_2 v6_3)) (fun v12_4 => V.loopN (V.loopF zq139.E Tryz.f213.ntmps [1, 1, 0, 1, 0, 0, 1, 0, 0, 1, 0] [R] (V.codeOf Tryz.f213) (zq139.kt x0 x1 x2)) V.KK (zq139.s12 x0 x1 x2 v6_2 v6_3 v12_4)) v6_2 v6_3 := by kernel_rfl
theorem zq139.e6 (x0 : TKeys) (x1 : List Int) (x2 : List TSig) : ∀ (n : Nat) (v6_2 : Int) (v6_3 : Int), V.loopN (V.loopF zq139.E Tryz.f213.ntmps [1, 1, 0, 1, 0] [] (V.codeOf Tryz.f213) (zq139.kt x0 x1 x2)) n (zq139.s6 x0 x1 x2 v6_2 v6_3) = zq139.l6 x0 x1 x2 n v6_2 v6_3 := by
  intro n
  induction n with
  | zero => intros; rw [V.loopN_z]; rfl
  | succ n ih =>
    intro v6_2 v6_3
    rw [V.loopN_s, zq139.r6]
    simp only [zq139.e12, ih]
    first | exact (zq139.u6 ..).symm | rfl
theorem zq139.v (x0 : TKeys) (x1 : List Int) (x2 : List TSig) : V.evBody zq139.E zq139.con Tryz.f213 ((x0.1, x0.2, x1, x2) : List Int × Int × List Int × List TSig) = zq139.b x0 x1 x2 (fun v6_2 v6_3 => V.loopN (V.loopF zq139.E Tryz.f213.ntmps [1, 1, 0, 1, 0] [] (V.codeOf Tryz.f213) (zq139.kt x0 x1 x2)) V.KK (zq139.s6 x0 x1 x2 v6_2 v6_3)) := by kernel_rfl
theorem zq139.eq (x0 : TKeys) (x1 : List Int) (x2 : List TSig) : V.evBody zq139.E zq139.con Tryz.f213 ((x0.1, x0.2, x1, x2) : List Int × Int × List Int × List TSig) = zq139 x0 x1 x2 := by
  rw [zq139.v]
  simp only [zq139.e6]
  rfl
theorem zq139.ok : V.Valid Tryz.prog 213 zq139.con :=
  V.fo (V.tab_cons zq155.ok V.tab_nil) Tryz.func213 (by kernel_rfl) (fun x y h => (show V.evBody zq139.E zq139.con Tryz.f213 x = _ from zq139.eq (x.1, x.2.1) x.2.2.1 x.2.2.2).trans (V.cfl (by kernel_rfl) h))
noncomputable abbrev zq156.con : V.Con := ⟨(.cons (.sl (.cons (.int .i64) .nil)) (.cons (.int .i64) (.cons (.sl (.cons (.int .i64) .nil)) (.cons (.sl (.cons (.int .i64) (.cons (.int .i64) .nil))) .nil)))), (.cons .bool .nil), fun (x : List Int × Int × List Int × List TSig) => zq156 (x.1, x.2.1) x.2.2.1 x.2.2.2, [], [(true, 2), (false, 1), (false, 1)], [(false, 1)], [false], []⟩
noncomputable abbrev zq156.E : V.Env := V.mkE V.tys [(213, zq139.con), (214, zq152.con)] [] [(1, 9)] [] [] []
theorem zq156.eq (x0 : TKeys) (x1 : List Int) (x2 : List TSig) : V.evBody zq156.E zq156.con Tryz.f316 ((x0.1, x0.2, x1, x2) : List Int × Int × List Int × List TSig) = zq156 x0 x1 x2 := by kernel_rfl
theorem zq156.ok : V.Valid Tryz.prog 316 zq156.con :=
  V.fo (V.tab_cons zq139.ok (V.tab_cons zq152.ok V.tab_nil)) Tryz.func316 (by kernel_rfl) (fun x y h => (show V.evBody zq156.E zq156.con Tryz.f316 x = _ from zq156.eq (x.1, x.2.1) x.2.2.1 x.2.2.2).trans (V.cfl (by kernel_rfl) h))
noncomputable abbrev zq150.con : V.Con := ⟨V.A3, (.cons .bool .nil), fun (x : V.D3) => zq150 (V.p3_0 x), [], [(true, 17)], [(false, 1)], [false], []⟩
noncomputable abbrev zq150.E : V.Env := V.mkE V.tys [(125, zq147.con), (312, zq151.con), (316, zq156.con), (318, zq177.con)] [] [(2, 34)] [] [] []
noncomputable abbrev zq150.kt (x0 : TSigned) : V.Kt Bool := V.ktOf zq150.E zq150.con Tryz.f181 (V.fl3 x0)
noncomputable abbrev zq150.s (x0 : TSigned) : V.St := ⟨[(0, .v true [.val (.int .i64 x0.1), .val (.int .i64 x0.2.1), .val (.int .i64 x0.2.2.1), .val (.int .i64 x0.2.2.2.1), .val (.int .i64 x0.2.2.2.2.1), .val (.int .i64 x0.2.2.2.2.2.1), .val (.int .i64 x0.2.2.2.2.2.2.1), .val (.int .i64 x0.2.2.2.2.2.2.2.1), .val (.sl (.cons (.int .i64) .nil) x0.2.2.2.2.2.2.2.2.1), .val (.int .i64 x0.2.2.2.2.2.2.2.2.2.1), .val (.sl (.cons (.int .i64) .nil) x0.2.2.2.2.2.2.2.2.2.2.1), .val (.int .i64 x0.2.2.2.2.2.2.2.2.2.2.2.1), .val (.int .i64 x0.2.2.2.2.2.2.2.2.2.2.2.2.1), .val (.sl (.cons (.int .i64) .nil) x0.2.2.2.2.2.2.2.2.2.2.2.2.2.1), .val (.int .i64 x0.2.2.2.2.2.2.2.2.2.2.2.2.2.2.1), .val (.bool x0.2.2.2.2.2.2.2.2.2.2.2.2.2.2.2.1), .val (.sl (.cons (.int .i64) (.cons (.int .i64) .nil)) x0.2.2.2.2.2.2.2.2.2.2.2.2.2.2.2.2)])], []⟩
theorem zq150.v0 (x0 : TSigned) : V.evBody zq150.E zq150.con Tryz.f181 (V.fl3 x0) = V.evC zq150.E Tryz.f181.ntmps (V.codeOf Tryz.f181) (zq150.kt x0) (zq150.s x0) := by kernel_rfl
theorem zq150.v (x0 : TSigned) : V.evC zq150.E Tryz.f181.ntmps (V.codeOf Tryz.f181) (zq150.kt x0) (zq150.s x0) = zq150 x0 := by kernel_rfl
theorem zq150.eq (x0 : TSigned) : V.evBody zq150.E zq150.con Tryz.f181 (V.fl3 x0) = zq150 x0 := (zq150.v0 x0).trans (zq150.v x0)
theorem zq150.ok : V.Valid Tryz.prog 181 zq150.con :=
  V.fo (V.tab_cons zq147.ok (V.tab_cons zq151.ok (V.tab_cons zq156.ok (V.tab_cons zq177.ok V.tab_nil)))) Tryz.func181 (by kernel_rfl) (fun x y h => (show V.evBody zq150.E zq150.con Tryz.f181 x = _ from zq150.eq (V.p3_0 x)).trans (V.cfl (by kernel_rfl) h))
noncomputable abbrev zq146.con : V.Con := ⟨V.A2, (.cons (.int .i64) .nil), fun (x : V.D2) => zq146 (V.p2_0 x), [], [(true, 16)], [(false, 1)], [false], []⟩
noncomputable abbrev zq146.E : V.Env := V.mkE V.tys [(125, zq147.con), (337, zq145.con)] [] [] [] [] []
noncomputable abbrev zq146.kt (x0 : THead) : V.Kt Int := V.ktOf zq146.E zq146.con Tryz.f216 (V.fl2 x0)
noncomputable abbrev zq146.s (x0 : THead) : V.St := ⟨[(0, .v true [.val (.int .i64 x0.1), .val (.int .i64 x0.2.1), .val (.int .i64 x0.2.2.1), .val (.int .i64 x0.2.2.2.1), .val (.int .i64 x0.2.2.2.2.1), .val (.int .i64 x0.2.2.2.2.2.1), .val (.int .i64 x0.2.2.2.2.2.2.1), .val (.int .i64 x0.2.2.2.2.2.2.2.1), .val (.sl (.cons (.int .i64) .nil) x0.2.2.2.2.2.2.2.2.1), .val (.int .i64 x0.2.2.2.2.2.2.2.2.2.1), .val (.sl (.cons (.int .i64) .nil) x0.2.2.2.2.2.2.2.2.2.2.1), .val (.int .i64 x0.2.2.2.2.2.2.2.2.2.2.2.1), .val (.int .i64 x0.2.2.2.2.2.2.2.2.2.2.2.2.1), .val (.sl (.cons (.int .i64) .nil) x0.2.2.2.2.2.2.2.2.2.2.2.2.2.1), .val (.int .i64 x0.2.2.2.2.2.2.2.2.2.2.2.2.2.2.1), .val (.bool x0.2.2.2.2.2.2.2.2.2.2.2.2.2.2.2)])], []⟩
theorem zq146.v0 (x0 : THead) : V.evBody zq146.E zq146.con Tryz.f216 (V.fl2 x0) = V.evC zq146.E Tryz.f216.ntmps (V.codeOf Tryz.f216) (zq146.kt x0) (zq146.s x0) := by kernel_rfl
theorem zq146.v (x0 : THead) : V.evC zq146.E Tryz.f216.ntmps (V.codeOf Tryz.f216) (zq146.kt x0) (zq146.s x0) = zq146 x0 := by kernel_rfl
theorem zq146.eq (x0 : THead) : V.evBody zq146.E zq146.con Tryz.f216 (V.fl2 x0) = zq146 x0 := (zq146.v0 x0).trans (zq146.v x0)
theorem zq146.ok : V.Valid Tryz.prog 216 zq146.con :=
  V.fo (V.tab_cons zq147.ok (V.tab_cons zq145.ok V.tab_nil)) Tryz.func216 (by kernel_rfl) (fun x y h => (show V.evBody zq146.E zq146.con Tryz.f216 x = _ from zq146.eq (V.p2_0 x)).trans (V.cfl (by kernel_rfl) h))
noncomputable abbrev zq184.con : V.Con := ⟨V.A4, (.cons (.int .i64) .nil), fun (x : V.D4) => zq184 (V.p4_0 x) (V.p4_1 x), [], [(true, 16), (true, 16)], [(false, 1)], [false], []⟩
noncomputable abbrev zq184.E : V.Env := V.mkE V.tys [] [] [] [] [] []
noncomputable abbrev zq184.kt (x0 : THead) (x1 : THead) : V.Kt Int := V.ktOf zq184.E zq184.con Tryz.f313 (V.fl4 x0 x1)
noncomputable abbrev zq184.s (x0 : THead) (x1 : THead) : V.St := ⟨[(0, .v true [.val (.int .i64 x0.1), .val (.int .i64 x0.2.1), .val (.int .i64 x0.2.2.1), .val (.int .i64 x0.2.2.2.1), .val (.int .i64 x0.2.2.2.2.1), .val (.int .i64 x0.2.2.2.2.2.1), .val (.int .i64 x0.2.2.2.2.2.2.1), .val (.int .i64 x0.2.2.2.2.2.2.2.1), .val (.sl (.cons (.int .i64) .nil) x0.2.2.2.2.2.2.2.2.1), .val (.int .i64 x0.2.2.2.2.2.2.2.2.2.1), .val (.sl (.cons (.int .i64) .nil) x0.2.2.2.2.2.2.2.2.2.2.1), .val (.int .i64 x0.2.2.2.2.2.2.2.2.2.2.2.1), .val (.int .i64 x0.2.2.2.2.2.2.2.2.2.2.2.2.1), .val (.sl (.cons (.int .i64) .nil) x0.2.2.2.2.2.2.2.2.2.2.2.2.2.1), .val (.int .i64 x0.2.2.2.2.2.2.2.2.2.2.2.2.2.2.1), .val (.bool x0.2.2.2.2.2.2.2.2.2.2.2.2.2.2.2)]), (1, .v true [.val (.int .i64 x1.1), .val (.int .i64 x1.2.1), .val (.int .i64 x1.2.2.1), .val (.int .i64 x1.2.2.2.1), .val (.int .i64 x1.2.2.2.2.1), .val (.int .i64 x1.2.2.2.2.2.1), .val (.int .i64 x1.2.2.2.2.2.2.1), .val (.int .i64 x1.2.2.2.2.2.2.2.1), .val (.sl (.cons (.int .i64) .nil) x1.2.2.2.2.2.2.2.2.1), .val (.int .i64 x1.2.2.2.2.2.2.2.2.2.1), .val (.sl (.cons (.int .i64) .nil) x1.2.2.2.2.2.2.2.2.2.2.1), .val (.int .i64 x1.2.2.2.2.2.2.2.2.2.2.2.1), .val (.int .i64 x1.2.2.2.2.2.2.2.2.2.2.2.2.1), .val (.sl (.cons (.int .i64) .nil) x1.2.2.2.2.2.2.2.2.2.2.2.2.2.1), .val (.int .i64 x1.2.2.2.2.2.2.2.2.2.2.2.2.2.2.1), .val (.bool x1.2.2.2.2.2.2.2.2.2.2.2.2.2.2.2)])], []⟩
theorem zq184.v0 (x0 : THead) (x1 : THead) : V.evBody zq184.E zq184.con Tryz.f313 (V.fl4 x0 x1) = V.evC zq184.E Tryz.f313.ntmps (V.codeOf Tryz.f313) (zq184.kt x0 x1) (zq184.s x0 x1) := by kernel_rfl
theorem zq184.v (x0 : THead) (x1 : THead) : V.evC zq184.E Tryz.f313.ntmps (V.codeOf Tryz.f313) (zq184.kt x0 x1) (zq184.s x0 x1) = zq184 x0 x1 := by kernel_rfl
theorem zq184.eq (x0 : THead) (x1 : THead) : V.evBody zq184.E zq184.con Tryz.f313 (V.fl4 x0 x1) = zq184 x0 x1 := (zq184.v0 x0 x1).trans (zq184.v x0 x1)
theorem zq184.ok : V.Valid Tryz.prog 313 zq184.con :=
  V.fo V.tab_nil Tryz.func313 (by kernel_rfl) (fun x y h => (show V.evBody zq184.E zq184.con Tryz.f313 x = _ from zq184.eq (V.p4_0 x) (V.p4_1 x)).trans (V.cfl (by kernel_rfl) h))
noncomputable abbrev zq141.con : V.Con := ⟨(.cons (.sl (.cons (.int .i64) .nil)) (.cons (.sl (.cons (.int .i64) .nil)) .nil)), (.cons .bool .nil), fun (x : List Int × List Int) => zq141 x.1 x.2, [], [(false, 1), (false, 1)], [(false, 1)], [false], []⟩
noncomputable abbrev zq141.E : V.Env := V.mkE V.tys [] [(8, [0, 1, 5], [])] [(6, 8)] [] [] []
noncomputable abbrev zq141.kt (x0 : List Int) (x1 : List Int) : V.Kt Bool := V.ktOf zq141.E zq141.con Tryz.f329 ((x0, x1) : List Int × List Int)
noncomputable abbrev zq141.s8 (x0 : List Int) (x1 : List Int) (v8_2 : Int) : V.St := ⟨[(0, .v false [.val (.sl (.cons (.int .i64) .nil) x0)]), (1, .v false [.val (.sl (.cons (.int .i64) .nil) x1)]), (5, .v false [.val (.int .i64 v8_2)])], []⟩
theorem zq141.r8 (x0 : List Int) (x1 : List Int) (R : V.St → Option Bool) (v8_2 : Int) : V.loopF zq141.E Tryz.f329.ntmps [1, 1, 0, 1, 0] [] (V.codeOf Tryz.f329) (zq141.kt x0 x1) R (zq141.s8 x0 x1 v8_2) = zq141.g8 x0 x1 (fun v8_2 => R (zq141.s8 x0 x1 v8_2)) v8_2 := by kernel_rfl
theorem zq141.e8 (x0 : List Int) (x1 : List Int) : ∀ (n : Nat) (v8_2 : Int), V.loopN (V.loopF zq141.E Tryz.f329.ntmps [1, 1, 0, 1, 0] [] (V.codeOf Tryz.f329) (zq141.kt x0 x1)) n (zq141.s8 x0 x1 v8_2) = zq141.l8 x0 x1 n v8_2 := by
  intro n
  induction n with
  | zero => intros; rw [V.loopN_z]; rfl
  | succ n ih =>
    intro v8_2
    rw [V.loopN_s, zq141.r8]
    simp only [ih]
    first | exact (zq141.u8 ..).symm | rfl
theorem zq141.v (x0 : List Int) (x1 : List Int) : V.evBody zq141.E zq141.con Tryz.f329 ((x0, x1) : List Int × List Int) = zq141.b x0 x1 (fun v8_2 => V.loopN (V.loopF zq141.E Tryz.f329.ntmps [1, 1, 0, 1, 0] [] (V.codeOf Tryz.f329) (zq141.kt x0 x1)) V.KK (zq141.s8 x0 x1 v8_2)) := by kernel_rfl
theorem zq141.eq (x0 : List Int) (x1 : List Int) : V.evBody zq141.E zq141.con Tryz.f329 ((x0, x1) : List Int × List Int) = zq141 x0 x1 := by
  rw [zq141.v]
  simp only [zq141.e8]
  rfl
theorem zq141.ok : V.Valid Tryz.prog 329 zq141.con :=
  V.fo V.tab_nil Tryz.func329 (by kernel_rfl) (fun x y h => (show V.evBody zq141.E zq141.con Tryz.f329 x = _ from zq141.eq x.1 x.2).trans (V.cfl (by kernel_rfl) h))
noncomputable abbrev zq142.con : V.Con := ⟨(.cons (.sl (.cons (.int .i64) .nil)) (.cons (.int .i64) (.cons (.sl (.cons (.int .i64) .nil)) (.cons (.int .i64) .nil)))), (.cons .bool .nil), fun (x : List Int × Int × List Int × Int) => zq142 (x.1, x.2.1) x.2.2, [], [(true, 2), (true, 2)], [(false, 1)], [false], []⟩
noncomputable abbrev zq142.E : V.Env := V.mkE V.tys [(329, zq141.con)] [] [] [] [] []
theorem zq142.eq (x0 : TKeys) (x1 : TKeys) : V.evBody zq142.E zq142.con Tryz.f397 ((x0.1, x0.2, x1.1, x1.2) : List Int × Int × List Int × Int) = zq142 x0 x1 := by kernel_rfl
theorem zq142.ok : V.Valid Tryz.prog 397 zq142.con :=
  V.fo (V.tab_cons zq141.ok V.tab_nil) Tryz.func397 (by kernel_rfl) (fun x y h => (show V.evBody zq142.E zq142.con Tryz.f397 x = _ from zq142.eq (x.1, x.2.1) x.2.2).trans (V.cfl (by kernel_rfl) h))
noncomputable abbrev zq174.con : V.Con := ⟨V.A4, (.cons .bool .nil), fun (x : V.D4) => zq174 (V.p4_0 x) (V.p4_1 x), [], [(true, 16), (true, 16)], [(false, 1)], [false], []⟩
noncomputable abbrev zq174.E : V.Env := V.mkE V.tys [] [] [] [] [] []
noncomputable abbrev zq174.kt (x0 : THead) (x1 : THead) : V.Kt Bool := V.ktOf zq174.E zq174.con Tryz.f398 (V.fl4 x0 x1)
noncomputable abbrev zq174.s (x0 : THead) (x1 : THead) : V.St := ⟨[(0, .v true [.val (.int .i64 x0.1), .val (.int .i64 x0.2.1), .val (.int .i64 x0.2.2.1), .val (.int .i64 x0.2.2.2.1), .val (.int .i64 x0.2.2.2.2.1), .val (.int .i64 x0.2.2.2.2.2.1), .val (.int .i64 x0.2.2.2.2.2.2.1), .val (.int .i64 x0.2.2.2.2.2.2.2.1), .val (.sl (.cons (.int .i64) .nil) x0.2.2.2.2.2.2.2.2.1), .val (.int .i64 x0.2.2.2.2.2.2.2.2.2.1), .val (.sl (.cons (.int .i64) .nil) x0.2.2.2.2.2.2.2.2.2.2.1), .val (.int .i64 x0.2.2.2.2.2.2.2.2.2.2.2.1), .val (.int .i64 x0.2.2.2.2.2.2.2.2.2.2.2.2.1), .val (.sl (.cons (.int .i64) .nil) x0.2.2.2.2.2.2.2.2.2.2.2.2.2.1), .val (.int .i64 x0.2.2.2.2.2.2.2.2.2.2.2.2.2.2.1), .val (.bool x0.2.2.2.2.2.2.2.2.2.2.2.2.2.2.2)]), (1, .v true [.val (.int .i64 x1.1), .val (.int .i64 x1.2.1), .val (.int .i64 x1.2.2.1), .val (.int .i64 x1.2.2.2.1), .val (.int .i64 x1.2.2.2.2.1), .val (.int .i64 x1.2.2.2.2.2.1), .val (.int .i64 x1.2.2.2.2.2.2.1), .val (.int .i64 x1.2.2.2.2.2.2.2.1), .val (.sl (.cons (.int .i64) .nil) x1.2.2.2.2.2.2.2.2.1), .val (.int .i64 x1.2.2.2.2.2.2.2.2.2.1), .val (.sl (.cons (.int .i64) .nil) x1.2.2.2.2.2.2.2.2.2.2.1), .val (.int .i64 x1.2.2.2.2.2.2.2.2.2.2.2.1), .val (.int .i64 x1.2.2.2.2.2.2.2.2.2.2.2.2.1), .val (.sl (.cons (.int .i64) .nil) x1.2.2.2.2.2.2.2.2.2.2.2.2.2.1), .val (.int .i64 x1.2.2.2.2.2.2.2.2.2.2.2.2.2.2.1), .val (.bool x1.2.2.2.2.2.2.2.2.2.2.2.2.2.2.2)])], []⟩
theorem zq174.v0 (x0 : THead) (x1 : THead) : V.evBody zq174.E zq174.con Tryz.f398 (V.fl4 x0 x1) = V.evC zq174.E Tryz.f398.ntmps (V.codeOf Tryz.f398) (zq174.kt x0 x1) (zq174.s x0 x1) := by kernel_rfl
theorem zq174.v (x0 : THead) (x1 : THead) : V.evC zq174.E Tryz.f398.ntmps (V.codeOf Tryz.f398) (zq174.kt x0 x1) (zq174.s x0 x1) = zq174 x0 x1 := by kernel_rfl
theorem zq174.eq (x0 : THead) (x1 : THead) : V.evBody zq174.E zq174.con Tryz.f398 (V.fl4 x0 x1) = zq174 x0 x1 := (zq174.v0 x0 x1).trans (zq174.v x0 x1)
theorem zq174.ok : V.Valid Tryz.prog 398 zq174.con :=
  V.fo V.tab_nil Tryz.func398 (by kernel_rfl) (fun x y h => (show V.evBody zq174.E zq174.con Tryz.f398 x = _ from zq174.eq (V.p4_0 x) (V.p4_1 x)).trans (V.cfl (by kernel_rfl) h))
noncomputable abbrev zq182.con : V.Con := ⟨V.A4, (.cons (.int .i64) .nil), fun (x : V.D4) => zq182 (V.p4_0 x) (V.p4_1 x), [], [(true, 16), (true, 16)], [(false, 1)], [false], []⟩
noncomputable abbrev zq182.E : V.Env := V.mkE V.tys [(237, zq167.con), (397, zq142.con), (398, zq174.con)] [(9, [2, 3, 8], [])] [] [] [] []
noncomputable abbrev zq182.kt (x0 : THead) (x1 : THead) : V.Kt Int := V.ktOf zq182.E zq182.con Tryz.f314 (V.fl4 x0 x1)
noncomputable abbrev zq182.s9 (x0 : THead) (x1 : THead) (v9_0 : Bool) : V.St := ⟨[(2, .v false [.ptr 64000 0]), (3, .v false [.ptr 64064 0]), (8, .v false [.val (.bool v9_0)])], [(64000, .box [.val (.int .i64 x0.1), .val (.int .i64 x0.2.1), .val (.int .i64 x0.2.2.1), .val (.int .i64 x0.2.2.2.1), .val (.int .i64 x0.2.2.2.2.1), .val (.int .i64 x0.2.2.2.2.2.1), .val (.int .i64 x0.2.2.2.2.2.2.1), .val (.int .i64 x0.2.2.2.2.2.2.2.1), .val (.sl (.cons (.int .i64) .nil) x0.2.2.2.2.2.2.2.2.1), .val (.int .i64 x0.2.2.2.2.2.2.2.2.2.1), .val (.sl (.cons (.int .i64) .nil) x0.2.2.2.2.2.2.2.2.2.2.1), .val (.int .i64 x0.2.2.2.2.2.2.2.2.2.2.2.1), .val (.int .i64 x0.2.2.2.2.2.2.2.2.2.2.2.2.1), .val (.sl (.cons (.int .i64) .nil) x0.2.2.2.2.2.2.2.2.2.2.2.2.2.1), .val (.int .i64 x0.2.2.2.2.2.2.2.2.2.2.2.2.2.2.1), .val (.bool x0.2.2.2.2.2.2.2.2.2.2.2.2.2.2.2)]), (64064, .box [.val (.int .i64 x1.1), .val (.int .i64 x1.2.1), .val (.int .i64 x1.2.2.1), .val (.int .i64 x1.2.2.2.1), .val (.int .i64 x1.2.2.2.2.1), .val (.int .i64 x1.2.2.2.2.2.1), .val (.int .i64 x1.2.2.2.2.2.2.1), .val (.int .i64 x1.2.2.2.2.2.2.2.1), .val (.sl (.cons (.int .i64) .nil) x1.2.2.2.2.2.2.2.2.1), .val (.int .i64 x1.2.2.2.2.2.2.2.2.2.1), .val (.sl (.cons (.int .i64) .nil) x1.2.2.2.2.2.2.2.2.2.2.1), .val (.int .i64 x1.2.2.2.2.2.2.2.2.2.2.2.1), .val (.int .i64 x1.2.2.2.2.2.2.2.2.2.2.2.2.1), .val (.sl (.cons (.int .i64) .nil) x1.2.2.2.2.2.2.2.2.2.2.2.2.2.1), .val (.int .i64 x1.2.2.2.2.2.2.2.2.2.2.2.2.2.2.1), .val (.bool x1.2.2.2.2.2.2.2.2.2.2.2.2.2.2.2)])]⟩
theorem zq182.r9 (x0 : THead) (x1 : THead) (v9_0 : Bool) : V.joinF zq182.E Tryz.f314.ntmps [1, 0, 0, 1, 1] [] (V.codeOf Tryz.f314) (zq182.kt x0 x1) (zq182.s9 x0 x1 v9_0) = zq182.g9 x0 x1 v9_0 := by kernel_rfl
theorem zq182.e9 (x0 : THead) (x1 : THead) (v9_0 : Bool) : V.jn (V.joinF zq182.E Tryz.f314.ntmps [1, 0, 0, 1, 1] [] (V.codeOf Tryz.f314) (zq182.kt x0 x1)) (zq182.s9 x0 x1 v9_0) = zq182.l9 x0 x1 v9_0 := by
  rw [V.jn_eq, zq182.r9]
  rfl
noncomputable abbrev zq182.s (x0 : THead) (x1 : THead) : V.St := ⟨[(0, .v true [.val (.int .i64 x0.1), .val (.int .i64 x0.2.1), .val (.int .i64 x0.2.2.1), .val (.int .i64 x0.2.2.2.1), .val (.int .i64 x0.2.2.2.2.1), .val (.int .i64 x0.2.2.2.2.2.1), .val (.int .i64 x0.2.2.2.2.2.2.1), .val (.int .i64 x0.2.2.2.2.2.2.2.1), .val (.sl (.cons (.int .i64) .nil) x0.2.2.2.2.2.2.2.2.1), .val (.int .i64 x0.2.2.2.2.2.2.2.2.2.1), .val (.sl (.cons (.int .i64) .nil) x0.2.2.2.2.2.2.2.2.2.2.1), .val (.int .i64 x0.2.2.2.2.2.2.2.2.2.2.2.1), .val (.int .i64 x0.2.2.2.2.2.2.2.2.2.2.2.2.1), .val (.sl (.cons (.int .i64) .nil) x0.2.2.2.2.2.2.2.2.2.2.2.2.2.1), .val (.int .i64 x0.2.2.2.2.2.2.2.2.2.2.2.2.2.2.1), .val (.bool x0.2.2.2.2.2.2.2.2.2.2.2.2.2.2.2)]), (1, .v true [.val (.int .i64 x1.1), .val (.int .i64 x1.2.1), .val (.int .i64 x1.2.2.1), .val (.int .i64 x1.2.2.2.1), .val (.int .i64 x1.2.2.2.2.1), .val (.int .i64 x1.2.2.2.2.2.1), .val (.int .i64 x1.2.2.2.2.2.2.1), .val (.int .i64 x1.2.2.2.2.2.2.2.1), .val (.sl (.cons (.int .i64) .nil) x1.2.2.2.2.2.2.2.2.1), .val (.int .i64 x1.2.2.2.2.2.2.2.2.2.1), .val (.sl (.cons (.int .i64) .nil) x1.2.2.2.2.2.2.2.2.2.2.1), .val (.int .i64 x1.2.2.2.2.2.2.2.2.2.2.2.1), .val (.int .i64 x1.2.2.2.2.2.2.2.2.2.2.2.2.1), .val (.sl (.cons (.int .i64) .nil) x1.2.2.2.2.2.2.2.2.2.2.2.2.2.1), .val (.int .i64 x1.2.2.2.2.2.2.2.2.2.2.2.2.2.2.1), .val (.bool x1.2.2.2.2.2.2.2.2.2.2.2.2.2.2.2)])], []⟩
theorem zq182.v0 (x0 : THead) (x1 : THead) : V.evBody zq182.E zq182.con Tryz.f314 (V.fl4 x0 x1) = V.evC zq182.E Tryz.f314.ntmps (V.codeOf Tryz.f314) (zq182.kt x0 x1) (zq182.s x0 x1) := by kernel_rfl
theorem zq182.v (x0 : THead) (x1 : THead) : V.evC zq182.E Tryz.f314.ntmps (V.codeOf Tryz.f314) (zq182.kt x0 x1) (zq182.s x0 x1) = zq182.b x0 x1 (fun v9_0 => V.jn (V.joinF zq182.E Tryz.f314.ntmps [1, 0, 0, 1, 1] [] (V.codeOf Tryz.f314) (zq182.kt x0 x1)) (zq182.s9 x0 x1 v9_0)) := by kernel_rfl
theorem zq182.eq (x0 : THead) (x1 : THead) : V.evBody zq182.E zq182.con Tryz.f314 (V.fl4 x0 x1) = zq182 x0 x1 := by
  rw [zq182.v0, zq182.v]
  simp only [zq182.e9]
  rfl
theorem zq182.ok : V.Valid Tryz.prog 314 zq182.con :=
  V.fo (V.tab_cons zq167.ok (V.tab_cons zq142.ok (V.tab_cons zq174.ok V.tab_nil))) Tryz.func314 (by kernel_rfl) (fun x y h => (show V.evBody zq182.E zq182.con Tryz.f314 x = _ from zq182.eq (V.p4_0 x) (V.p4_1 x)).trans (V.cfl (by kernel_rfl) h))
noncomputable abbrev zq183.con : V.Con := ⟨V.A4, (.cons (.int .i64) .nil), fun (x : V.D4) => zq183 (V.p4_0 x) (V.p4_1 x), [], [(true, 16), (true, 16)], [(false, 1)], [false], []⟩
noncomputable abbrev zq183.E : V.Env := V.mkE V.tys [(237, zq167.con), (397, zq142.con), (398, zq174.con)] [(9, [2, 3, 9], [])] [] [] [] []
noncomputable abbrev zq183.kt (x0 : THead) (x1 : THead) : V.Kt Int := V.ktOf zq183.E zq183.con Tryz.f315 (V.fl4 x0 x1)
noncomputable abbrev zq183.s9 (x0 : THead) (x1 : THead) (v9_0 : Bool) : V.St := ⟨[(2, .v false [.ptr 64000 0]), (3, .v false [.ptr 64064 0]), (9, .v false [.val (.bool v9_0)])], [(64000, .box [.val (.int .i64 x0.1), .val (.int .i64 x0.2.1), .val (.int .i64 x0.2.2.1), .val (.int .i64 x0.2.2.2.1), .val (.int .i64 x0.2.2.2.2.1), .val (.int .i64 x0.2.2.2.2.2.1), .val (.int .i64 x0.2.2.2.2.2.2.1), .val (.int .i64 x0.2.2.2.2.2.2.2.1), .val (.sl (.cons (.int .i64) .nil) x0.2.2.2.2.2.2.2.2.1), .val (.int .i64 x0.2.2.2.2.2.2.2.2.2.1), .val (.sl (.cons (.int .i64) .nil) x0.2.2.2.2.2.2.2.2.2.2.1), .val (.int .i64 x0.2.2.2.2.2.2.2.2.2.2.2.1), .val (.int .i64 x0.2.2.2.2.2.2.2.2.2.2.2.2.1), .val (.sl (.cons (.int .i64) .nil) x0.2.2.2.2.2.2.2.2.2.2.2.2.2.1), .val (.int .i64 x0.2.2.2.2.2.2.2.2.2.2.2.2.2.2.1), .val (.bool x0.2.2.2.2.2.2.2.2.2.2.2.2.2.2.2)]), (64064, .box [.val (.int .i64 x1.1), .val (.int .i64 x1.2.1), .val (.int .i64 x1.2.2.1), .val (.int .i64 x1.2.2.2.1), .val (.int .i64 x1.2.2.2.2.1), .val (.int .i64 x1.2.2.2.2.2.1), .val (.int .i64 x1.2.2.2.2.2.2.1), .val (.int .i64 x1.2.2.2.2.2.2.2.1), .val (.sl (.cons (.int .i64) .nil) x1.2.2.2.2.2.2.2.2.1), .val (.int .i64 x1.2.2.2.2.2.2.2.2.2.1), .val (.sl (.cons (.int .i64) .nil) x1.2.2.2.2.2.2.2.2.2.2.1), .val (.int .i64 x1.2.2.2.2.2.2.2.2.2.2.2.1), .val (.int .i64 x1.2.2.2.2.2.2.2.2.2.2.2.2.1), .val (.sl (.cons (.int .i64) .nil) x1.2.2.2.2.2.2.2.2.2.2.2.2.2.1), .val (.int .i64 x1.2.2.2.2.2.2.2.2.2.2.2.2.2.2.1), .val (.bool x1.2.2.2.2.2.2.2.2.2.2.2.2.2.2.2)])]⟩
theorem zq183.r9 (x0 : THead) (x1 : THead) (v9_0 : Bool) : V.joinF zq183.E Tryz.f315.ntmps [1, 0, 0, 1, 1] [] (V.codeOf Tryz.f315) (zq183.kt x0 x1) (zq183.s9 x0 x1 v9_0) = zq183.g9 x0 x1 v9_0 := by kernel_rfl
theorem zq183.e9 (x0 : THead) (x1 : THead) (v9_0 : Bool) : V.jn (V.joinF zq183.E Tryz.f315.ntmps [1, 0, 0, 1, 1] [] (V.codeOf Tryz.f315) (zq183.kt x0 x1)) (zq183.s9 x0 x1 v9_0) = zq183.l9 x0 x1 v9_0 := by
  rw [V.jn_eq, zq183.r9]
  rfl
noncomputable abbrev zq183.s (x0 : THead) (x1 : THead) : V.St := ⟨[(0, .v true [.val (.int .i64 x0.1), .val (.int .i64 x0.2.1), .val (.int .i64 x0.2.2.1), .val (.int .i64 x0.2.2.2.1), .val (.int .i64 x0.2.2.2.2.1), .val (.int .i64 x0.2.2.2.2.2.1), .val (.int .i64 x0.2.2.2.2.2.2.1), .val (.int .i64 x0.2.2.2.2.2.2.2.1), .val (.sl (.cons (.int .i64) .nil) x0.2.2.2.2.2.2.2.2.1), .val (.int .i64 x0.2.2.2.2.2.2.2.2.2.1), .val (.sl (.cons (.int .i64) .nil) x0.2.2.2.2.2.2.2.2.2.2.1), .val (.int .i64 x0.2.2.2.2.2.2.2.2.2.2.2.1), .val (.int .i64 x0.2.2.2.2.2.2.2.2.2.2.2.2.1), .val (.sl (.cons (.int .i64) .nil) x0.2.2.2.2.2.2.2.2.2.2.2.2.2.1), .val (.int .i64 x0.2.2.2.2.2.2.2.2.2.2.2.2.2.2.1), .val (.bool x0.2.2.2.2.2.2.2.2.2.2.2.2.2.2.2)]), (1, .v true [.val (.int .i64 x1.1), .val (.int .i64 x1.2.1), .val (.int .i64 x1.2.2.1), .val (.int .i64 x1.2.2.2.1), .val (.int .i64 x1.2.2.2.2.1), .val (.int .i64 x1.2.2.2.2.2.1), .val (.int .i64 x1.2.2.2.2.2.2.1), .val (.int .i64 x1.2.2.2.2.2.2.2.1), .val (.sl (.cons (.int .i64) .nil) x1.2.2.2.2.2.2.2.2.1), .val (.int .i64 x1.2.2.2.2.2.2.2.2.2.1), .val (.sl (.cons (.int .i64) .nil) x1.2.2.2.2.2.2.2.2.2.2.1), .val (.int .i64 x1.2.2.2.2.2.2.2.2.2.2.2.1), .val (.int .i64 x1.2.2.2.2.2.2.2.2.2.2.2.2.1), .val (.sl (.cons (.int .i64) .nil) x1.2.2.2.2.2.2.2.2.2.2.2.2.2.1), .val (.int .i64 x1.2.2.2.2.2.2.2.2.2.2.2.2.2.2.1), .val (.bool x1.2.2.2.2.2.2.2.2.2.2.2.2.2.2.2)])], []⟩
theorem zq183.v0 (x0 : THead) (x1 : THead) : V.evBody zq183.E zq183.con Tryz.f315 (V.fl4 x0 x1) = V.evC zq183.E Tryz.f315.ntmps (V.codeOf Tryz.f315) (zq183.kt x0 x1) (zq183.s x0 x1) := by kernel_rfl
theorem zq183.v (x0 : THead) (x1 : THead) : V.evC zq183.E Tryz.f315.ntmps (V.codeOf Tryz.f315) (zq183.kt x0 x1) (zq183.s x0 x1) = zq183.b x0 x1 (fun v9_0 => V.jn (V.joinF zq183.E Tryz.f315.ntmps [1, 0, 0, 1, 1] [] (V.codeOf Tryz.f315) (zq183.kt x0 x1)) (zq183.s9 x0 x1 v9_0)) := by kernel_rfl
theorem zq183.eq (x0 : THead) (x1 : THead) : V.evBody zq183.E zq183.con Tryz.f315 (V.fl4 x0 x1) = zq183 x0 x1 := by
  rw [zq183.v0, zq183.v]
  simp only [zq183.e9]
  rfl
theorem zq183.ok : V.Valid Tryz.prog 315 zq183.con :=
  V.fo (V.tab_cons zq167.ok (V.tab_cons zq142.ok (V.tab_cons zq174.ok V.tab_nil))) Tryz.func315 (by kernel_rfl) (fun x y h => (show V.evBody zq183.E zq183.con Tryz.f315 x = _ from zq183.eq (V.p4_0 x) (V.p4_1 x)).trans (V.cfl (by kernel_rfl) h))
noncomputable abbrev zq166.con : V.Con := ⟨V.A5, (.cons (.int .i64) .nil), fun (x : V.D5) => zq166 (V.p5_0 x) (V.p5_1 x), [], [(true, 16), (true, 17)], [(false, 1)], [false], []⟩
noncomputable abbrev zq166.E : V.Env := V.mkE V.tys [(125, zq147.con), (216, zq146.con), (312, zq151.con), (313, zq184.con), (314, zq182.con), (315, zq183.con), (316, zq156.con)] [(9, [2, 3, 5], []), (13, [2, 3, 5], []), (31, [3, 5, 6, 7], [])] [(4, 25), (15, 8)] [] [] []
noncomputable abbrev zq166.kt (x0 : THead) (x1 : TSigned) : V.Kt Int := V.ktOf zq166.E zq166.con Tryz.f176 (V.fl5 x0 x1)
noncomputable abbrev zq166.s31 (x1 : TSigned) (v31_0 : Int) (v31_34 : List Int) (v31_35 : Int) : V.St := ⟨[(3, .v false [.ptr 64064 0]), (5, .v false [.ptr 128128 0]), (6, .v false [.val (.int .i64 v31_0)]), (7, .v false [.ptr 512128 0])], [(64064, .box [.val (.int .i64 x1.1), .val (.int .i64 x1.2.1), .val (.int .i64 x1.2.2.1), .val (.int .i64 x1.2.2.2.1), .val (.int .i64 x1.2.2.2.2.1), .val (.int .i64 x1.2.2.2.2.2.1), .val (.int .i64 x1.2.2.2.2.2.2.1), .val (.int .i64 x1.2.2.2.2.2.2.2.1), .val (.sl (.cons (.int .i64) .nil) x1.2.2.2.2.2.2.2.2.1), .val (.int .i64 x1.2.2.2.2.2.2.2.2.2.1), .val (.sl (.cons (.int .i64) .nil) x1.2.2.2.2.2.2.2.2.2.2.1), .val (.int .i64 x1.2.2.2.2.2.2.2.2.2.2.2.1), .val (.int .i64 x1.2.2.2.2.2.2.2.2.2.2.2.2.1), .val (.sl (.cons (.int .i64) .nil) x1.2.2.2.2.2.2.2.2.2.2.2.2.2.1), .val (.int .i64 x1.2.2.2.2.2.2.2.2.2.2.2.2.2.2.1), .val (.bool x1.2.2.2.2.2.2.2.2.2.2.2.2.2.2.2.1), .val (.sl (.cons (.int .i64) (.cons (.int .i64) .nil)) x1.2.2.2.2.2.2.2.2.2.2.2.2.2.2.2.2)]), (128128, .box [.val (.int .i64 x1.1), .val (.int .i64 x1.2.1), .val (.int .i64 x1.2.2.1), .val (.int .i64 x1.2.2.2.1), .val (.int .i64 x1.2.2.2.2.1), .val (.int .i64 x1.2.2.2.2.2.1), .val (.int .i64 x1.2.2.2.2.2.2.1), .val (.int .i64 x1.2.2.2.2.2.2.2.1), .val (.sl (.cons (.int .i64) .nil) x1.2.2.2.2.2.2.2.2.1), .val (.int .i64 x1.2.2.2.2.2.2.2.2.2.1), .val (.sl (.cons (.int .i64) .nil) x1.2.2.2.2.2.2.2.2.2.2.1), .val (.int .i64 x1.2.2.2.2.2.2.2.2.2.2.2.1), .val (.int .i64 x1.2.2.2.2.2.2.2.2.2.2.2.2.1), .val (.sl (.cons (.int .i64) .nil) x1.2.2.2.2.2.2.2.2.2.2.2.2.2.1), .val (.int .i64 x1.2.2.2.2.2.2.2.2.2.2.2.2.2.2.1), .val (.bool x1.2.2.2.2.2.2.2.2.2.2.2.2.2.2.2.1)]), (512128, .box [.val (.sl (.cons (.int .i64) .nil) v31_34), .val (.int .i64 v31_35)])]⟩
noncomputable abbrev zq166.s13 (x0 : THead) (x1 : TSigned) : V.St := ⟨[(2, .v false [.ptr 64000 0]), (3, .v false [.ptr 64064 0]), (5, .v false [.ptr 128128 0])], [(64000, .box [.val (.int .i64 x0.1), .val (.int .i64 x0.2.1), .val (.int .i64 x0.2.2.1), .val (.int .i64 x0.2.2.2.1), .val (.int .i64 x0.2.2.2.2.1), .val (.int .i64 x0.2.2.2.2.2.1), .val (.int .i64 x0.2.2.2.2.2.2.1), .val (.int .i64 x0.2.2.2.2.2.2.2.1), .val (.sl (.cons (.int .i64) .nil) x0.2.2.2.2.2.2.2.2.1), .val (.int .i64 x0.2.2.2.2.2.2.2.2.2.1), .val (.sl (.cons (.int .i64) .nil) x0.2.2.2.2.2.2.2.2.2.2.1), .val (.int .i64 x0.2.2.2.2.2.2.2.2.2.2.2.1), .val (.int .i64 x0.2.2.2.2.2.2.2.2.2.2.2.2.1), .val (.sl (.cons (.int .i64) .nil) x0.2.2.2.2.2.2.2.2.2.2.2.2.2.1), .val (.int .i64 x0.2.2.2.2.2.2.2.2.2.2.2.2.2.2.1), .val (.bool x0.2.2.2.2.2.2.2.2.2.2.2.2.2.2.2)]), (64064, .box [.val (.int .i64 x1.1), .val (.int .i64 x1.2.1), .val (.int .i64 x1.2.2.1), .val (.int .i64 x1.2.2.2.1), .val (.int .i64 x1.2.2.2.2.1), .val (.int .i64 x1.2.2.2.2.2.1), .val (.int .i64 x1.2.2.2.2.2.2.1), .val (.int .i64 x1.2.2.2.2.2.2.2.1), .val (.sl (.cons (.int .i64) .nil) x1.2.2.2.2.2.2.2.2.1), .val (.int .i64 x1.2.2.2.2.2.2.2.2.2.1), .val (.sl (.cons (.int .i64) .nil) x1.2.2.2.2.2.2.2.2.2.2.1), .val (.int .i64 x1.2.2.2.2.2.2.2.2.2.2.2.1), .val (.int .i64 x1.2.2.2.2.2.2.2.2.2.2.2.2.1), .val (.sl (.cons (.int .i64) .nil) x1.2.2.2.2.2.2.2.2.2.2.2.2.2.1), .val (.int .i64 x1.2.2.2.2.2.2.2.2.2.2.2.2.2.2.1), .val (.bool x1.2.2.2.2.2.2.2.2.2.2.2.2.2.2.2.1), .val (.sl (.cons (.int .i64) (.cons (.int .i64) .nil)) x1.2.2.2.2.2.2.2.2.2.2.2.2.2.2.2.2)]), (128128, .box [.val (.int .i64 x1.1), .val (.int .i64 x1.2.1), .val (.int .i64 x1.2.2.1), .val (.int .i64 x1.2.2.2.1), .val (.int .i64 x1.2.2.2.2.1), .val (.int .i64 x1.2.2.2.2.2.1), .val (.int .i64 x1.2.2.2.2.2.2.1), .val (.int .i64 x1.2.2.2.2.2.2.2.1), .val (.sl (.cons (.int .i64) .nil) x1.2.2.2.2.2.2.2.2.1), .val (.int .i64 x1.2.2.2.2.2.2.2.2.2.1), .val (.sl (.cons (.int .i64) .nil) x1.2.2.2.2.2.2.2.2.2.2.1), .val (.int .i64 x1.2.2.2.2.2.2.2.2.2.2.2.1), .val (.int .i64 x1.2.2.2.2.2.2.2.2.2.2.2.2.1), .val (.sl (.cons (.int .i64) .nil) x1.2.2.2.2.2.2.2.2.2.2.2.2.2.1), .val (.int .i64 x1.2.2.2.2.2.2.2.2.2.2.2.2.2.2.1), .val (.bool x1.2.2.2.2.2.2.2.2.2.2.2.2.2.2.2.1)])]⟩
noncomputable abbrev zq166.s9 (x0 : THead) (x1 : TSigned) : V.St := ⟨[(2, .v false [.ptr 64000 0]), (3, .v false [.ptr 64064 0]), (5, .v false [.ptr 128128 0])], [(64000, .box [.val (.int .i64 x0.1), .val (.int .i64 x0.2.1), .val (.int .i64 x0.2.2.1), .val (.int .i64 x0.2.2.2.1), .val (.int .i64 x0.2.2.2.2.1), .val (.int .i64 x0.2.2.2.2.2.1), .val (.int .i64 x0.2.2.2.2.2.2.1), .val (.int .i64 x0.2.2.2.2.2.2.2.1), .val (.sl (.cons (.int .i64) .nil) x0.2.2.2.2.2.2.2.2.1), .val (.int .i64 x0.2.2.2.2.2.2.2.2.2.1), .val (.sl (.cons (.int .i64) .nil) x0.2.2.2.2.2.2.2.2.2.2.1), .val (.int .i64 x0.2.2.2.2.2.2.2.2.2.2.2.1), .val (.int .i64 x0.2.2.2.2.2.2.2.2.2.2.2.2.1), .val (.sl (.cons (.int .i64) .nil) x0.2.2.2.2.2.2.2.2.2.2.2.2.2.1), .val (.int .i64 x0.2.2.2.2.2.2.2.2.2.2.2.2.2.2.1), .val (.bool x0.2.2.2.2.2.2.2.2.2.2.2.2.2.2.2)]), (64064, .box [.val (.int .i64 x1.1), .val (.int .i64 x1.2.1), .val (.int .i64 x1.2.2.1), .val (.int .i64 x1.2.2.2.1), .val (.int .i64 x1.2.2.2.2.1), .val (.int .i64 x1.2.2.2.2.2.1), .val (.int .i64 x1.2.2.2.2.2.2.1), .val (.int .i64 x1.2.2.2.2.2.2.2.1), .val (.sl (.cons (.int .i64) .nil) x1.2.2.2.2.2.2.2.2.1), .val (.int .i64 x1.2.2.2.2.2.2.2.2.2.1), .val (.sl (.cons (.int .i64) .nil) x1.2.2.2.2.2.2.2.2.2.2.1), .val (.int .i64 x1.2.2.2.2.2.2.2.2.2.2.2.1), .val (.int .i64 x1.2.2.2.2.2.2.2.2.2.2.2.2.1), .val (.sl (.cons (.int .i64) .nil) x1.2.2.2.2.2.2.2.2.2.2.2.2.2.1), .val (.int .i64 x1.2.2.2.2.2.2.2.2.2.2.2.2.2.2.1), .val (.bool x1.2.2.2.2.2.2.2.2.2.2.2.2.2.2.2.1), .val (.sl (.cons (.int .i64) (.cons (.int .i64) .nil)) x1.2.2.2.2.2.2.2.2.2.2.2.2.2.2.2.2)]), (128128, .box [.val (.int .i64 x1.1), .val (.int .i64 x1.2.1), .val (.int .i64 x1.2.2.1), .val (.int .i64 x1.2.2.2.1), .val (.int .i64 x1.2.2.2.2.1), .val (.int .i64 x1.2.2.2.2.2.1), .val (.int .i64 x1.2.2.2.2.2.2.1), .val (.int .i64 x1.2.2.2.2.2.2.2.1), .val (.sl (.cons (.int .i64) .nil) x1.2.2.2.2.2.2.2.2.1), .val (.int .i64 x1.2.2.2.2.2.2.2.2.2.1), .val (.sl (.cons (.int .i64) .nil) x1.2.2.2.2.2.2.2.2.2.2.1), .val (.int .i64 x1.2.2.2.2.2.2.2.2.2.2.2.1), .val (.int .i64 x1.2.2.2.2.2.2.2.2.2.2.2.2.1), .val (.sl (.cons (.int .i64) .nil) x1.2.2.2.2.2.2.2.2.2.2.2.2.2.1), .val (.int .i64 x1.2.2.2.2.2.2.2.2.2.2.2.2.2.2.1), .val (.bool x1.2.2.2.2.2.2.2.2.2.2.2.2.2.2.2.1)])]⟩
theorem zq166.r31 (x0 : THead) (x1 : TSigned) (v31_0 : Int) (v31_34 : List Int) (v31_35 : Int) : V.joinF zq166.E Tryz.f176.ntmps [1, 1, 1, 1, 1, 1] [] (V.codeOf Tryz.f176) (zq166.kt x0 x1) (zq166.s31 x1 v31_0 v31_34 v31_35) = zq166.g31 x1 v31_0 v31_34 v31_35 := by kernel_rfl
theorem zq166.e31 (x0 : THead) (x1 : TSigned) (v31_0 : Int) (v31_34 : List Int) (v31_35 : Int) : V.jn (V.joinF zq166.E Tryz.f176.ntmps [1, 1, 1, 1, 1, 1] [] (V.codeOf Tryz.f176) (zq166.kt x0 x1)) (zq166.s31 x1 v31_0 v31_34 v31_35) = zq166.l31 x1 v31_0 v31_34 v31_35 := by
  rw [V.jn_eq, zq166.r31]
  rfl
theorem zq166.r13 (x0 : THead) (x1 : TSigned) : V.joinF zq166.E Tryz.f176.ntmps [1, 1, 1] [] (V.codeOf Tryz.f176) (zq166.kt x0 x1) (zq166.s13 x0 x1) = zq166.g13 x0 x1 (fun v31_0 v31_34 v31_35 => V.jn (V.joinF zq166.E Tryz.f176.ntmps [1, 1, 1, 1, 1, 1] [] (V.codeOf Tryz.f176) (zq166.kt x0 x1)) (zq166.s31 x1 v31_0 v31_34 v31_35)) := by kernel_rfl
theorem zq166.e13 (x0 : THead) (x1 : TSigned) : V.jn (V.joinF zq166.E Tryz.f176.ntmps [1, 1, 1] [] (V.codeOf Tryz.f176) (zq166.kt x0 x1)) (zq166.s13 x0 x1) = zq166.l13 x0 x1 := by
  rw [V.jn_eq, zq166.r13]
  simp only [zq166.e31]
  rfl
theorem zq166.r9 (x0 : THead) (x1 : TSigned) : V.joinF zq166.E Tryz.f176.ntmps [1, 1] [] (V.codeOf Tryz.f176) (zq166.kt x0 x1) (zq166.s9 x0 x1) = zq166.g9 x0 x1 (V.jn (V.joinF zq166.E Tryz.f176.ntmps [1, 1, 1] [] (V.codeOf Tryz.f176) (zq166.kt x0 x1)) (zq166.s13 x0 x1)) := by kernel_rfl
theorem zq166.e9 (x0 : THead) (x1 : TSigned) : V.jn (V.joinF zq166.E Tryz.f176.ntmps [1, 1] [] (V.codeOf Tryz.f176) (zq166.kt x0 x1)) (zq166.s9 x0 x1) = zq166.l9 x0 x1 := by
  rw [V.jn_eq, zq166.r9]
  simp only [zq166.e13]
  rfl
noncomputable abbrev zq166.s (x0 : THead) (x1 : TSigned) : V.St := ⟨[(0, .v true [.val (.int .i64 x0.1), .val (.int .i64 x0.2.1), .val (.int .i64 x0.2.2.1), .val (.int .i64 x0.2.2.2.1), .val (.int .i64 x0.2.2.2.2.1), .val (.int .i64 x0.2.2.2.2.2.1), .val (.int .i64 x0.2.2.2.2.2.2.1), .val (.int .i64 x0.2.2.2.2.2.2.2.1), .val (.sl (.cons (.int .i64) .nil) x0.2.2.2.2.2.2.2.2.1), .val (.int .i64 x0.2.2.2.2.2.2.2.2.2.1), .val (.sl (.cons (.int .i64) .nil) x0.2.2.2.2.2.2.2.2.2.2.1), .val (.int .i64 x0.2.2.2.2.2.2.2.2.2.2.2.1), .val (.int .i64 x0.2.2.2.2.2.2.2.2.2.2.2.2.1), .val (.sl (.cons (.int .i64) .nil) x0.2.2.2.2.2.2.2.2.2.2.2.2.2.1), .val (.int .i64 x0.2.2.2.2.2.2.2.2.2.2.2.2.2.2.1), .val (.bool x0.2.2.2.2.2.2.2.2.2.2.2.2.2.2.2)]), (1, .v true [.val (.int .i64 x1.1), .val (.int .i64 x1.2.1), .val (.int .i64 x1.2.2.1), .val (.int .i64 x1.2.2.2.1), .val (.int .i64 x1.2.2.2.2.1), .val (.int .i64 x1.2.2.2.2.2.1), .val (.int .i64 x1.2.2.2.2.2.2.1), .val (.int .i64 x1.2.2.2.2.2.2.2.1), .val (.sl (.cons (.int .i64) .nil) x1.2.2.2.2.2.2.2.2.1), .val (.int .i64 x1.2.2.2.2.2.2.2.2.2.1), .val (.sl (.cons (.int .i64) .nil) x1.2.2.2.2.2.2.2.2.2.2.1), .val (.int .i64 x1.2.2.2.2.2.2.2.2.2.2.2.1), .val (.int .i64 x1.2.2.2.2.2.2.2.2.2.2.2.2.1), .val (.sl (.cons (.int .i64) .nil) x1.2.2.2.2.2.2.2.2.2.2.2.2.2.1), .val (.int .i64 x1.2.2.2.2.2.2.2.2.2.2.2.2.2.2.1), .val (.bool x1.2.2.2.2.2.2.2.2.2.2.2.2.2.2.2.1), .val (.sl (.cons (.int .i64) (.cons (.int .i64) .nil)) x1.2.2.2.2.2.2.2.2.2.2.2.2.2.2.2.2)])], []⟩
theorem zq166.v0 (x0 : THead) (x1 : TSigned) : V.evBody zq166.E zq166.con Tryz.f176 (V.fl5 x0 x1) = V.evC zq166.E Tryz.f176.ntmps (V.codeOf Tryz.f176) (zq166.kt x0 x1) (zq166.s x0 x1) := by kernel_rfl
theorem zq166.v (x0 : THead) (x1 : TSigned) : V.evC zq166.E Tryz.f176.ntmps (V.codeOf Tryz.f176) (zq166.kt x0 x1) (zq166.s x0 x1) = zq166.b x0 x1 (V.jn (V.joinF zq166.E Tryz.f176.ntmps [1, 1] [] (V.codeOf Tryz.f176) (zq166.kt x0 x1)) (zq166.s9 x0 x1)) := by kernel_rfl
theorem zq166.eq (x0 : THead) (x1 : TSigned) : V.evBody zq166.E zq166.con Tryz.f176 (V.fl5 x0 x1) = zq166 x0 x1 := by
  rw [zq166.v0, zq166.v]
  simp only [zq166.e9]
  rfl
theorem zq166.ok : V.Valid Tryz.prog 176 zq166.con :=
  V.fo (V.tab_cons zq147.ok (V.tab_cons zq146.ok (V.tab_cons zq151.ok (V.tab_cons zq184.ok (V.tab_cons zq182.ok (V.tab_cons zq183.ok (V.tab_cons zq156.ok V.tab_nil))))))) Tryz.func176 (by kernel_rfl) (fun x y h => (show V.evBody zq166.E zq166.con Tryz.f176 x = _ from zq166.eq (V.p5_0 x) (V.p5_1 x)).trans (V.cfl (by kernel_rfl) h))
noncomputable abbrev zq164.con : V.Con := ⟨V.A5, (.cons .bool .nil), fun (x : V.D5) => zq164 (V.p5_0 x) (V.p5_1 x), [], [(true, 16), (true, 17)], [(false, 1)], [false], []⟩
noncomputable abbrev zq164.E : V.Env := V.mkE V.tys [(176, zq166.con)] [] [] [] [] []
noncomputable abbrev zq164.kt (x0 : THead) (x1 : TSigned) : V.Kt Bool := V.ktOf zq164.E zq164.con Tryz.f182 (V.fl5 x0 x1)
noncomputable abbrev zq164.s (x0 : THead) (x1 : TSigned) : V.St := ⟨[(0, .v true [.val (.int .i64 x0.1), .val (.int .i64 x0.2.1), .val (.int .i64 x0.2.2.1), .val (.int .i64 x0.2.2.2.1), .val (.int .i64 x0.2.2.2.2.1), .val (.int .i64 x0.2.2.2.2.2.1), .val (.int .i64 x0.2.2.2.2.2.2.1), .val (.int .i64 x0.2.2.2.2.2.2.2.1), .val (.sl (.cons (.int .i64) .nil) x0.2.2.2.2.2.2.2.2.1), .val (.int .i64 x0.2.2.2.2.2.2.2.2.2.1), .val (.sl (.cons (.int .i64) .nil) x0.2.2.2.2.2.2.2.2.2.2.1), .val (.int .i64 x0.2.2.2.2.2.2.2.2.2.2.2.1), .val (.int .i64 x0.2.2.2.2.2.2.2.2.2.2.2.2.1), .val (.sl (.cons (.int .i64) .nil) x0.2.2.2.2.2.2.2.2.2.2.2.2.2.1), .val (.int .i64 x0.2.2.2.2.2.2.2.2.2.2.2.2.2.2.1), .val (.bool x0.2.2.2.2.2.2.2.2.2.2.2.2.2.2.2)]), (1, .v true [.val (.int .i64 x1.1), .val (.int .i64 x1.2.1), .val (.int .i64 x1.2.2.1), .val (.int .i64 x1.2.2.2.1), .val (.int .i64 x1.2.2.2.2.1), .val (.int .i64 x1.2.2.2.2.2.1), .val (.int .i64 x1.2.2.2.2.2.2.1), .val (.int .i64 x1.2.2.2.2.2.2.2.1), .val (.sl (.cons (.int .i64) .nil) x1.2.2.2.2.2.2.2.2.1), .val (.int .i64 x1.2.2.2.2.2.2.2.2.2.1), .val (.sl (.cons (.int .i64) .nil) x1.2.2.2.2.2.2.2.2.2.2.1), .val (.int .i64 x1.2.2.2.2.2.2.2.2.2.2.2.1), .val (.int .i64 x1.2.2.2.2.2.2.2.2.2.2.2.2.1), .val (.sl (.cons (.int .i64) .nil) x1.2.2.2.2.2.2.2.2.2.2.2.2.2.1), .val (.int .i64 x1.2.2.2.2.2.2.2.2.2.2.2.2.2.2.1), .val (.bool x1.2.2.2.2.2.2.2.2.2.2.2.2.2.2.2.1), .val (.sl (.cons (.int .i64) (.cons (.int .i64) .nil)) x1.2.2.2.2.2.2.2.2.2.2.2.2.2.2.2.2)])], []⟩
theorem zq164.v0 (x0 : THead) (x1 : TSigned) : V.evBody zq164.E zq164.con Tryz.f182 (V.fl5 x0 x1) = V.evC zq164.E Tryz.f182.ntmps (V.codeOf Tryz.f182) (zq164.kt x0 x1) (zq164.s x0 x1) := by kernel_rfl
theorem zq164.v (x0 : THead) (x1 : TSigned) : V.evC zq164.E Tryz.f182.ntmps (V.codeOf Tryz.f182) (zq164.kt x0 x1) (zq164.s x0 x1) = zq164 x0 x1 := by kernel_rfl
theorem zq164.eq (x0 : THead) (x1 : TSigned) : V.evBody zq164.E zq164.con Tryz.f182 (V.fl5 x0 x1) = zq164 x0 x1 := (zq164.v0 x0 x1).trans (zq164.v x0 x1)
theorem zq164.ok : V.Valid Tryz.prog 182 zq164.con :=
  V.fo (V.tab_cons zq166.ok V.tab_nil) Tryz.func182 (by kernel_rfl) (fun x y h => (show V.evBody zq164.E zq164.con Tryz.f182 x = _ from zq164.eq (V.p5_0 x) (V.p5_1 x)).trans (V.cfl (by kernel_rfl) h))
noncomputable abbrev zq144.con : V.Con := ⟨(.cons (.sl V.eSigned) .nil), (.cons (.int .i64) .nil), fun (x : List TSigned) => zq144 x, [], [(false, 1)], [(false, 1)], [false], []⟩
noncomputable abbrev zq144.E : V.Env := V.mkE V.tys [(181, zq150.con), (182, zq164.con)] [(4, [0, 3], [])] [(4, 23)] [] [] []
noncomputable abbrev zq144.kt (x0 : List TSigned) : V.Kt Int := V.ktOf zq144.E zq144.con Tryz.f40 ((x0) : List TSigned)
noncomputable abbrev zq144.s4 (x0 : List TSigned) (v4_1 : Int) : V.St := ⟨[(0, .v false [.val (.sl V.eSigned x0)]), (3, .v false [.val (.int .i64 v4_1)])], []⟩
theorem zq144.r4 (x0 : List TSigned) (R : V.St → Option Int) (v4_1 : Int) : V.loopF zq144.E Tryz.f40.ntmps [1, 0, 1, 0] [] (V.codeOf Tryz.f40) (zq144.kt x0) R (zq144.s4 x0 v4_1) = zq144.g4 x0 (fun v4_1 => R (zq144.s4 x0 v4_1)) v4_1 := by kernel_rfl
theorem zq144.e4 (x0 : List TSigned) : ∀ (n : Nat) (v4_1 : Int), V.loopN (V.loopF zq144.E Tryz.f40.ntmps [1, 0, 1, 0] [] (V.codeOf Tryz.f40) (zq144.kt x0)) n (zq144.s4 x0 v4_1) = zq144.l4 x0 n v4_1 := by
  intro n
  induction n with
  | zero => intros; rw [V.loopN_z]; rfl
  | succ n ih =>
    intro v4_1
    rw [V.loopN_s, zq144.r4]
    simp only [ih]
    first | exact (zq144.u4 ..).symm | rfl
theorem zq144.v (x0 : List TSigned) : V.evBody zq144.E zq144.con Tryz.f40 ((x0) : List TSigned) = zq144.b x0 (fun v4_1 => V.loopN (V.loopF zq144.E Tryz.f40.ntmps [1, 0, 1, 0] [] (V.codeOf Tryz.f40) (zq144.kt x0)) V.KK (zq144.s4 x0 v4_1)) := by kernel_rfl
theorem zq144.eq (x0 : List TSigned) : V.evBody zq144.E zq144.con Tryz.f40 ((x0) : List TSigned) = zq144 x0 := by
  rw [zq144.v]
  simp only [zq144.e4]
  rfl
theorem zq144.ok : V.Valid Tryz.prog 40 zq144.con :=
  V.fo (V.tab_cons zq150.ok (V.tab_cons zq164.ok V.tab_nil)) Tryz.func40 (by kernel_rfl) (fun x y h => (show V.evBody zq144.E zq144.con Tryz.f40 x = _ from zq144.eq x).trans (V.cfl (by kernel_rfl) h))
noncomputable abbrev zq148.con : V.Con := ⟨(.cons (.sl V.eSigned) .nil), (.cons .bool .nil), fun (x : List TSigned) => zq148 x, [], [(false, 1)], [(false, 1)], [false], []⟩
noncomputable abbrev zq148.E : V.Env := V.mkE V.tys [(40, zq144.con), (179, zq186.con)] [] [] [] [] []
theorem zq148.eq (x0 : List TSigned) : V.evBody zq148.E zq148.con Tryz.f38 ((x0) : List TSigned) = zq148 x0 := by kernel_rfl
theorem zq148.ok : V.Valid Tryz.prog 38 zq148.con :=
  V.fo (V.tab_cons zq144.ok (V.tab_cons zq186.ok V.tab_nil)) Tryz.func38 (by kernel_rfl) (fun x y h => (show V.evBody zq148.E zq148.con Tryz.f38 x = _ from zq148.eq x).trans (V.cfl (by kernel_rfl) h))
noncomputable abbrev zq188.con : V.Con := ⟨(.cons (.sl (.cons (.int .i64) .nil)) (.cons (.int .i64) .nil)), (.cons (.sl (.cons (.int .i64) .nil)) (.cons (.int .i64) .nil)), fun (x : List Int × Int) => zq188 x, [], [(true, 2)], [(true, 2)], [true, false], []⟩
noncomputable abbrev zq188.E : V.Env := V.mkE V.tys [] [] [(1, 6)] [] [] []
theorem zq188.eq (x0 : TKeys) : V.evBody zq188.E zq188.con Tryz.f236 ((x0.1, x0.2) : List Int × Int) = zq188 x0 := by kernel_rfl
theorem zq188.ok : V.Valid Tryz.prog 236 zq188.con :=
  V.fo V.tab_nil Tryz.func236 (by kernel_rfl) (fun x y h => (show V.evBody zq188.E zq188.con Tryz.f236 x = _ from zq188.eq x).trans (V.cfl (by kernel_rfl) h))
noncomputable abbrev zq180.con : V.Con := ⟨V.A2, V.eHead, fun (x : V.D2) => zq180 (V.p2_0 x), [], [(true, 16)], [(true, 16)], [false, false, false, false, false, false, false, false, true, false, true, false, false, true, false, false], []⟩
noncomputable abbrev zq180.E : V.Env := V.mkE V.tys [(236, zq188.con)] [] [] [] [] []
noncomputable abbrev zq180.kt (x0 : THead) : V.Kt THead := V.ktOf zq180.E zq180.con Tryz.f186 (V.fl2 x0)
noncomputable abbrev zq180.s (x0 : THead) : V.St := ⟨[(0, .v true [.val (.int .i64 x0.1), .val (.int .i64 x0.2.1), .val (.int .i64 x0.2.2.1), .val (.int .i64 x0.2.2.2.1), .val (.int .i64 x0.2.2.2.2.1), .val (.int .i64 x0.2.2.2.2.2.1), .val (.int .i64 x0.2.2.2.2.2.2.1), .val (.int .i64 x0.2.2.2.2.2.2.2.1), .val (.sl (.cons (.int .i64) .nil) x0.2.2.2.2.2.2.2.2.1), .val (.int .i64 x0.2.2.2.2.2.2.2.2.2.1), .val (.sl (.cons (.int .i64) .nil) x0.2.2.2.2.2.2.2.2.2.2.1), .val (.int .i64 x0.2.2.2.2.2.2.2.2.2.2.2.1), .val (.int .i64 x0.2.2.2.2.2.2.2.2.2.2.2.2.1), .val (.sl (.cons (.int .i64) .nil) x0.2.2.2.2.2.2.2.2.2.2.2.2.2.1), .val (.int .i64 x0.2.2.2.2.2.2.2.2.2.2.2.2.2.2.1), .val (.bool x0.2.2.2.2.2.2.2.2.2.2.2.2.2.2.2)])], []⟩
theorem zq180.v0 (x0 : THead) : V.evBody zq180.E zq180.con Tryz.f186 (V.fl2 x0) = V.evC zq180.E Tryz.f186.ntmps (V.codeOf Tryz.f186) (zq180.kt x0) (zq180.s x0) := by kernel_rfl
theorem zq180.v (x0 : THead) : V.evC zq180.E Tryz.f186.ntmps (V.codeOf Tryz.f186) (zq180.kt x0) (zq180.s x0) = zq180 x0 := by kernel_rfl
theorem zq180.eq (x0 : THead) : V.evBody zq180.E zq180.con Tryz.f186 (V.fl2 x0) = zq180 x0 := (zq180.v0 x0).trans (zq180.v x0)
theorem zq180.ok : V.Valid Tryz.prog 186 zq180.con :=
  V.fo (V.tab_cons zq188.ok V.tab_nil) Tryz.func186 (by kernel_rfl) (fun x y h => (show V.evBody zq180.E zq180.con Tryz.f186 x = _ from zq180.eq (V.p2_0 x)).trans (V.cfl (by kernel_rfl) h))
noncomputable abbrev zq161.con : V.Con := ⟨(.cons (.sl V.eSigned) .nil), V.eRHeadBool, fun (x : List TSigned) => zq161 x, [], [(false, 1)], [(true, 16), (false, 1)], [false, false, false, false, false, false, false, false, true, false, true, false, false, true, false, false, false], []⟩
noncomputable abbrev zq161.E : V.Env := V.mkE V.tys [(38, zq148.con), (186, zq180.con)] [] [] [] [] []
theorem zq161.eq (x0 : List TSigned) : V.evBody zq161.E zq161.con Tryz.f137 ((x0) : List TSigned) = zq161 x0 := by kernel_rfl
theorem zq161.ok : V.Valid Tryz.prog 137 zq161.con :=
  V.fo (V.tab_cons zq148.ok (V.tab_cons zq180.ok V.tab_nil)) Tryz.func137 (by kernel_rfl) (fun x y h => (show V.evBody zq161.E zq161.con Tryz.f137 x = _ from zq161.eq x).trans (V.cfl (by kernel_rfl) h))
noncomputable abbrev zq153.con : V.Con := ⟨(.cons .str .nil), (.cons .bool .nil), fun (x : ByteArray) => zq153 x, [], [(false, 1)], [(false, 1)], [false], []⟩
noncomputable abbrev zq153.E : V.Env := V.mkE V.tys [(179, zq186.con)] [(7, [0], []), (8, [0, 3], [])] [] [] [] []
noncomputable abbrev zq153.kt (x0 : ByteArray) : V.Kt Bool := V.ktOf zq153.E zq153.con Tryz.f136 ((x0) : ByteArray)
noncomputable abbrev zq153.s8 (x0 : ByteArray) (v8_1 : Int) : V.St := ⟨[(0, .v false [.val (.str x0)]), (3, .v false [.val (.int .i64 v8_1)])], []⟩
noncomputable abbrev zq153.s7 (x0 : ByteArray) : V.St := ⟨[(0, .v false [.val (.str x0)])], []⟩
theorem zq153.r8 (x0 : ByteArray) (R : V.St → Option Bool) (v8_1 : Int) : V.loopF zq153.E Tryz.f136.ntmps [1, 1, 0, 1, 0] [] (V.codeOf Tryz.f136) (zq153.kt x0) R (zq153.s8 x0 v8_1) = zq153.g8 x0 (fun v8_1 => R (zq153.s8 x0 v8_1)) v8_1 := by kernel_rfl
theorem zq153.e8 (x0 : ByteArray) : ∀ (n : Nat) (v8_1 : Int), V.loopN (V.loopF zq153.E Tryz.f136.ntmps [1, 1, 0, 1, 0] [] (V.codeOf Tryz.f136) (zq153.kt x0)) n (zq153.s8 x0 v8_1) = zq153.l8 x0 n v8_1 := by
  intro n
  induction n with
  | zero => intros; rw [V.loopN_z]; rfl
  | succ n ih =>
    intro v8_1
    rw [V.loopN_s, zq153.r8]
    simp only [ih]
    first | exact (zq153.u8 ..).symm | rfl
theorem zq153.r7 (x0 : ByteArray) : V.joinF zq153.E Tryz.f136.ntmps [1] [] (V.codeOf Tryz.f136) (zq153.kt x0) (zq153.s7 x0) = zq153.g7 x0 (fun v8_1 => V.loopN (V.loopF zq153.E Tryz.f136.ntmps [1, 1, 0, 1, 0] [] (V.codeOf Tryz.f136) (zq153.kt x0)) V.KK (zq153.s8 x0 v8_1)) := by kernel_rfl
theorem zq153.e7 (x0 : ByteArray) : V.jn (V.joinF zq153.E Tryz.f136.ntmps [1] [] (V.codeOf Tryz.f136) (zq153.kt x0)) (zq153.s7 x0) = zq153.l7 x0 := by
  rw [V.jn_eq, zq153.r7]
  simp only [zq153.e8]
  rfl
theorem zq153.v (x0 : ByteArray) : V.evBody zq153.E zq153.con Tryz.f136 ((x0) : ByteArray) = zq153.b x0 (V.jn (V.joinF zq153.E Tryz.f136.ntmps [1] [] (V.codeOf Tryz.f136) (zq153.kt x0)) (zq153.s7 x0)) := by kernel_rfl
theorem zq153.eq (x0 : ByteArray) : V.evBody zq153.E zq153.con Tryz.f136 ((x0) : ByteArray) = zq153 x0 := by
  rw [zq153.v]
  simp only [zq153.e7]
  rfl
theorem zq153.ok : V.Valid Tryz.prog 136 zq153.con :=
  V.fo (V.tab_cons zq186.ok V.tab_nil) Tryz.func136 (by kernel_rfl) (fun x y h => (show V.evBody zq153.E zq153.con Tryz.f136 x = _ from zq153.eq x).trans (V.cfl (by kernel_rfl) h))
noncomputable abbrev zq154.con : V.Con := ⟨(.cons (.sl (.cons .str .nil)) .nil), (.cons .bool .nil), fun (x : List ByteArray) => zq154 x, [], [(false, 1)], [(false, 1)], [false], []⟩
noncomputable abbrev zq154.E : V.Env := V.mkE V.tys [(136, zq153.con), (179, zq186.con)] [(4, [0, 3], [])] [] [] [] []
noncomputable abbrev zq154.kt (x0 : List ByteArray) : V.Kt Bool := V.ktOf zq154.E zq154.con Tryz.f410 ((x0) : List ByteArray)
noncomputable abbrev zq154.s4 (x0 : List ByteArray) (v4_1 : Int) : V.St := ⟨[(0, .v false [.val (.sl (.cons .str .nil) x0)]), (3, .v false [.val (.int .i64 v4_1)])], []⟩
theorem zq154.r4 (x0 : List ByteArray) (R : V.St → Option Bool) (v4_1 : Int) : V.loopF zq154.E Tryz.f410.ntmps [1, 0, 1, 0] [] (V.codeOf Tryz.f410) (zq154.kt x0) R (zq154.s4 x0 v4_1) = zq154.g4 x0 (fun v4_1 => R (zq154.s4 x0 v4_1)) v4_1 := by kernel_rfl
theorem zq154.e4 (x0 : List ByteArray) : ∀ (n : Nat) (v4_1 : Int), V.loopN (V.loopF zq154.E Tryz.f410.ntmps [1, 0, 1, 0] [] (V.codeOf Tryz.f410) (zq154.kt x0)) n (zq154.s4 x0 v4_1) = zq154.l4 x0 n v4_1 := by
  intro n
  induction n with
  | zero => intros; rw [V.loopN_z]; rfl
  | succ n ih =>
    intro v4_1
    rw [V.loopN_s, zq154.r4]
    simp only [ih]
    first | exact (zq154.u4 ..).symm | rfl
theorem zq154.v (x0 : List ByteArray) : V.evBody zq154.E zq154.con Tryz.f410 ((x0) : List ByteArray) = zq154.b x0 (fun v4_1 => V.loopN (V.loopF zq154.E Tryz.f410.ntmps [1, 0, 1, 0] [] (V.codeOf Tryz.f410) (zq154.kt x0)) V.KK (zq154.s4 x0 v4_1)) := by kernel_rfl
theorem zq154.eq (x0 : List ByteArray) : V.evBody zq154.E zq154.con Tryz.f410 ((x0) : List ByteArray) = zq154 x0 := by
  rw [zq154.v]
  simp only [zq154.e4]
  rfl
theorem zq154.ok : V.Valid Tryz.prog 410 zq154.con :=
  V.fo (V.tab_cons zq153.ok (V.tab_cons zq186.ok V.tab_nil)) Tryz.func410 (by kernel_rfl) (fun x y h => (show V.evBody zq154.E zq154.con Tryz.f410 x = _ from zq154.eq x).trans (V.cfl (by kernel_rfl) h))
noncomputable abbrev zq149.con : V.Con := ⟨V.eEntry, (.cons .bool .nil), fun (x : ByteArray × Int × Int × List ByteArray) => zq149 x, [], [(true, 4)], [(false, 1)], [false], []⟩
noncomputable abbrev zq149.E : V.Env := V.mkE V.tys [(136, zq153.con), (179, zq186.con), (410, zq154.con)] [] [] [] [] []
theorem zq149.eq (x0 : TEntry) : V.evBody zq149.E zq149.con Tryz.f348 ((x0.1, x0.2.1, x0.2.2.1, x0.2.2.2) : ByteArray × Int × Int × List ByteArray) = zq149 x0 := by kernel_rfl
theorem zq149.ok : V.Valid Tryz.prog 348 zq149.con :=
  V.fo (V.tab_cons zq153.ok (V.tab_cons zq186.ok (V.tab_cons zq154.ok V.tab_nil))) Tryz.func348 (by kernel_rfl) (fun x y h => (show V.evBody zq149.E zq149.con Tryz.f348 x = _ from zq149.eq x).trans (V.cfl (by kernel_rfl) h))
noncomputable abbrev zq138.con : V.Con := ⟨(.cons .str (.cons .str .nil)), (.cons (.int .i64) .nil), fun (x : ByteArray × ByteArray) => zq138 x.1 x.2, [], [(false, 1), (false, 1)], [(false, 1)], [false], []⟩
noncomputable abbrev zq138.E : V.Env := V.mkE V.tys [] [] [] [] [] []
theorem zq138.eq (x0 : ByteArray) (x1 : ByteArray) : V.evBody zq138.E zq138.con Tryz.f349 ((x0, x1) : ByteArray × ByteArray) = zq138 x0 x1 := by kernel_rfl
theorem zq138.ok : V.Valid Tryz.prog 349 zq138.con :=
  V.fo V.tab_nil Tryz.func349 (by kernel_rfl) (fun x y h => (show V.evBody zq138.E zq138.con Tryz.f349 x = _ from zq138.eq x.1 x.2).trans (V.cfl (by kernel_rfl) h))
noncomputable abbrev zq135.con : V.Con := ⟨(.cons (.sl V.eEntry) .nil), (.cons .bool .nil), fun (x : List TEntry) => zq135 x, [], [(false, 1)], [(false, 1)], [false], []⟩
noncomputable abbrev zq135.E : V.Env := V.mkE V.tys [(348, zq149.con), (349, zq138.con)] [(4, [0, 3], [])] [(4, 21)] [] [] []
noncomputable abbrev zq135.kt (x0 : List TEntry) : V.Kt Bool := V.ktOf zq135.E zq135.con Tryz.f233 ((x0) : List TEntry)
noncomputable abbrev zq135.s4 (x0 : List TEntry) (v4_1 : Int) : V.St := ⟨[(0, .v false [.val (.sl V.eEntry x0)]), (3, .v false [.val (.int .i64 v4_1)])], []⟩
theorem zq135.r4 (x0 : List TEntry) (R : V.St → Option Bool) (v4_1 : Int) : V.loopF zq135.E Tryz.f233.ntmps [1, 0, 1, 0] [] (V.codeOf Tryz.f233) (zq135.kt x0) R (zq135.s4 x0 v4_1) = zq135.g4 x0 (fun v4_1 => R (zq135.s4 x0 v4_1)) v4_1 := by kernel_rfl
theorem zq135.e4 (x0 : List TEntry) : ∀ (n : Nat) (v4_1 : Int), V.loopN (V.loopF zq135.E Tryz.f233.ntmps [1, 0, 1, 0] [] (V.codeOf Tryz.f233) (zq135.kt x0)) n (zq135.s4 x0 v4_1) = zq135.l4 x0 n v4_1 := by
  intro n
  induction n with
  | zero => intros; rw [V.loopN_z]; rfl
  | succ n ih =>
    intro v4_1
    rw [V.loopN_s, zq135.r4]
    simp only [ih]
    first | exact (zq135.u4 ..).symm | rfl
theorem zq135.v (x0 : List TEntry) : V.evBody zq135.E zq135.con Tryz.f233 ((x0) : List TEntry) = zq135.b x0 (fun v4_1 => V.loopN (V.loopF zq135.E Tryz.f233.ntmps [1, 0, 1, 0] [] (V.codeOf Tryz.f233) (zq135.kt x0)) V.KK (zq135.s4 x0 v4_1)) := by kernel_rfl
theorem zq135.eq (x0 : List TEntry) : V.evBody zq135.E zq135.con Tryz.f233 ((x0) : List TEntry) = zq135 x0 := by
  rw [zq135.v]
  simp only [zq135.e4]
  rfl
theorem zq135.ok : V.Valid Tryz.prog 233 zq135.con :=
  V.fo (V.tab_cons zq149.ok (V.tab_cons zq138.ok V.tab_nil)) Tryz.func233 (by kernel_rfl) (fun x y h => (show V.evBody zq135.E zq135.con Tryz.f233 x = _ from zq135.eq x).trans (V.cfl (by kernel_rfl) h))
noncomputable abbrev zq136.con : V.Con := ⟨(.cons (.sl (.cons (.int .u8) .nil)) .nil), (.cons (.sl (.cons (.int .i64) .nil)) .nil), fun (x : List Int) => zq136 x, [], [(false, 1)], [(false, 1)], [true], []⟩
noncomputable abbrev zq136.E : V.Env := V.mkE V.tys [] [(6, [0, 3, 4], [])] [] [] [] []
noncomputable abbrev zq136.kt (x0 : List Int) : V.Kt (List Int) := V.ktOf zq136.E zq136.con Tryz.f459 ((x0) : List Int)
noncomputable abbrev zq136.s6 (x0 : List Int) (v6_1 : Int) (v6_2 : List Int) : V.St := ⟨[(0, .v false [.val (.sl (.cons (.int .u8) .nil) x0)]), (3, .v false [.ref 64000038400192]), (4, .v false [.val (.int .i64 v6_1)])], [(64000038400192, .row (.cons (.int .i64) .nil) true v6_2)]⟩
theorem zq136.r6 (x0 : List Int) (R : V.St → Option (List Int)) (v6_1 : Int) (v6_2 : List Int) : V.loopF zq136.E Tryz.f459.ntmps [1, 1, 0, 1, 0] [] (V.codeOf Tryz.f459) (zq136.kt x0) R (zq136.s6 x0 v6_1 v6_2) = zq136.g6 x0 (fun v6_1 v6_2 => R (zq136.s6 x0 v6_1 v6_2)) v6_1 v6_2 := by kernel_rfl
theorem zq136.e6 (x0 : List Int) : ∀ (n : Nat) (v6_1 : Int) (v6_2 : List Int), V.loopN (V.loopF zq136.E Tryz.f459.ntmps [1, 1, 0, 1, 0] [] (V.codeOf Tryz.f459) (zq136.kt x0)) n (zq136.s6 x0 v6_1 v6_2) = zq136.l6 x0 n v6_1 v6_2 := by
  intro n
  induction n with
  | zero => intros; rw [V.loopN_z]; rfl
  | succ n ih =>
    intro v6_1 v6_2
    rw [V.loopN_s, zq136.r6]
    simp only [ih]
    first | exact (zq136.u6 ..).symm | rfl
theorem zq136.v (x0 : List Int) : V.evBody zq136.E zq136.con Tryz.f459 ((x0) : List Int) = zq136.b x0 (fun v6_1 v6_2 => V.loopN (V.loopF zq136.E Tryz.f459.ntmps [1, 1, 0, 1, 0] [] (V.codeOf Tryz.f459) (zq136.kt x0)) V.KK (zq136.s6 x0 v6_1 v6_2)) := by kernel_rfl
theorem zq136.eq (x0 : List Int) : V.evBody zq136.E zq136.con Tryz.f459 ((x0) : List Int) = zq136 x0 := by
  rw [zq136.v]
  simp only [zq136.e6]
  rfl
theorem zq136.ok : V.Valid Tryz.prog 459 zq136.con :=
  V.fo V.tab_nil Tryz.func459 (by kernel_rfl) (fun x y h => (show V.evBody zq136.E zq136.con Tryz.f459 x = _ from zq136.eq x).trans (V.cfl (by kernel_rfl) h))
noncomputable abbrev zq160.con : V.Con := ⟨(.cons .str .nil), (.cons (.sl (.cons (.int .i64) .nil)) .nil), fun (x : ByteArray) => zq160 x, [], [(false, 1)], [(false, 1)], [true], []⟩
noncomputable abbrev zq160.E : V.Env := V.mkE V.tys [(459, zq136.con)] [] [] [] [] []
theorem zq160.eq (x0 : ByteArray) : V.evBody zq160.E zq160.con Tryz.f456 ((x0) : ByteArray) = zq160 x0 := by kernel_rfl
theorem zq160.ok : V.Valid Tryz.prog 456 zq160.con :=
  V.fo (V.tab_cons zq136.ok V.tab_nil) Tryz.func456 (by kernel_rfl) (fun x y h => (show V.evBody zq160.E zq160.con Tryz.f456 x = _ from zq160.eq x).trans (V.cfl (by kernel_rfl) h))
noncomputable abbrev zq140.con : V.Con := ⟨V.eEntry, (.cons (.sl (.cons (.int .i64) .nil)) .nil), fun (x : ByteArray × Int × Int × List ByteArray) => zq140 x, [], [(true, 4)], [(false, 1)], [true], []⟩
noncomputable abbrev zq140.E : V.Env := V.mkE V.tys [(456, zq160.con)] [(6, [1, 3, 4], [])] [(1, 11)] [] [] []
noncomputable abbrev zq140.kt (x0 : TEntry) : V.Kt (List Int) := V.ktOf zq140.E zq140.con Tryz.f444 ((x0.1, x0.2.1, x0.2.2.1, x0.2.2.2) : ByteArray × Int × Int × List ByteArray)
noncomputable abbrev zq140.s6 (x0 : TEntry) (v6_0 : Int) (v6_5 : List Int) : V.St := ⟨[(1, .v false [.ptr 64000 0]), (3, .v false [.ref 64000038400192]), (4, .v false [.val (.int .i64 v6_0)])], [(64000, .box [.val (.str x0.1), .val (.int .i64 x0.2.1), .val (.int .i64 x0.2.2.1), .val (.sl (.cons .str .nil) x0.2.2.2)]), (64000038400192, .row (.cons (.int .i64) .nil) true v6_5)]⟩
theorem zq140.r6 (x0 : TEntry) (R : V.St → Option (List Int)) (v6_0 : Int) (v6_5 : List Int) : V.loopF zq140.E Tryz.f444.ntmps [1, 1, 0, 1, 0] [] (V.codeOf Tryz.f444) (zq140.kt x0) R (zq140.s6 x0 v6_0 v6_5) = zq140.g6 x0 (fun v6_0 v6_5 => R (zq140.s6 x0 v6_0 v6_5)) v6_0 v6_5 := by kernel_rfl
theorem zq140.e6 (x0 : TEntry) : ∀ (n : Nat) (v6_0 : Int) (v6_5 : List Int), V.loopN (V.loopF zq140.E Tryz.f444.ntmps [1, 1, 0, 1, 0] [] (V.codeOf Tryz.f444) (zq140.kt x0)) n (zq140.s6 x0 v6_0 v6_5) = zq140.l6 x0 n v6_0 v6_5 := by
  intro n
  induction n with
  | zero => intros; rw [V.loopN_z]; rfl
  | succ n ih =>
    intro v6_0 v6_5
    rw [V.loopN_s, zq140.r6]
    simp only [ih]
    first | exact (zq140.u6 ..).symm | rfl
theorem zq140.v (x0 : TEntry) : V.evBody zq140.E zq140.con Tryz.f444 ((x0.1, x0.2.1, x0.2.2.1, x0.2.2.2) : ByteArray × Int × Int × List ByteArray) = zq140.b x0 (fun v6_0 v6_5 => V.loopN (V.loopF zq140.E Tryz.f444.ntmps [1, 1, 0, 1, 0] [] (V.codeOf Tryz.f444) (zq140.kt x0)) V.KK (zq140.s6 x0 v6_0 v6_5)) := by kernel_rfl
theorem zq140.eq (x0 : TEntry) : V.evBody zq140.E zq140.con Tryz.f444 ((x0.1, x0.2.1, x0.2.2.1, x0.2.2.2) : ByteArray × Int × Int × List ByteArray) = zq140 x0 := by
  rw [zq140.v]
  simp only [zq140.e6]
  rfl
theorem zq140.ok : V.Valid Tryz.prog 444 zq140.con :=
  V.fo (V.tab_cons zq160.ok V.tab_nil) Tryz.func444 (by kernel_rfl) (fun x y h => (show V.evBody zq140.E zq140.con Tryz.f444 x = _ from zq140.eq x).trans (V.cfl (by kernel_rfl) h))
noncomputable abbrev zq162.con : V.Con := ⟨V.eEntry, (.cons (.int .i64) .nil), fun (x : ByteArray × Int × Int × List ByteArray) => zq162 x, [], [(true, 4)], [(false, 1)], [false], []⟩
noncomputable abbrev zq162.E : V.Env := V.mkE V.tys [(337, zq145.con), (444, zq140.con)] [] [] [] [] []
theorem zq162.eq (x0 : TEntry) : V.evBody zq162.E zq162.con Tryz.f412 ((x0.1, x0.2.1, x0.2.2.1, x0.2.2.2) : ByteArray × Int × Int × List ByteArray) = zq162 x0 := by kernel_rfl
theorem zq162.ok : V.Valid Tryz.prog 412 zq162.con :=
  V.fo (V.tab_cons zq145.ok (V.tab_cons zq140.ok V.tab_nil)) Tryz.func412 (by kernel_rfl) (fun x y h => (show V.evBody zq162.E zq162.con Tryz.f412 x = _ from zq162.eq x).trans (V.cfl (by kernel_rfl) h))
noncomputable abbrev zq163.con : V.Con := ⟨(.cons (.sl V.eEntry) .nil), (.cons (.sl (.cons (.int .i64) .nil)) .nil), fun (x : List TEntry) => zq163 x, [], [(false, 1)], [(false, 1)], [true], []⟩
noncomputable abbrev zq163.E : V.Env := V.mkE V.tys [(412, zq162.con)] [(6, [0, 3, 4], [(64000038400192, (.cons (.int .i64) .nil), true)])] [] [] [] []
noncomputable abbrev zq163.kt (x0 : List TEntry) : V.Kt (List Int) := V.ktOf zq163.E zq163.con Tryz.f352 ((x0) : List TEntry)
noncomputable abbrev zq163.s6 (x0 : List TEntry) (v6_1 : Int) (v6_2 : List Int) : V.St := ⟨[(0, .v false [.val (.sl V.eEntry x0)]), (3, .v false [.ref 64000038400192]), (4, .v false [.val (.int .i64 v6_1)])], [(64000038400192, .row (.cons (.int .i64) .nil) true v6_2)]⟩
theorem zq163.r6 (x0 : List TEntry) (R : V.St → Option (List Int)) (v6_1 : Int) (v6_2 : List Int) : V.loopF zq163.E Tryz.f352.ntmps [1, 1, 0, 1, 0] [] (V.codeOf Tryz.f352) (zq163.kt x0) R (zq163.s6 x0 v6_1 v6_2) = zq163.g6 x0 (fun v6_1 v6_2 => R (zq163.s6 x0 v6_1 v6_2)) v6_1 v6_2 := by kernel_rfl
theorem zq163.e6 (x0 : List TEntry) : ∀ (n : Nat) (v6_1 : Int) (v6_2 : List Int), V.loopN (V.loopF zq163.E Tryz.f352.ntmps [1, 1, 0, 1, 0] [] (V.codeOf Tryz.f352) (zq163.kt x0)) n (zq163.s6 x0 v6_1 v6_2) = zq163.l6 x0 n v6_1 v6_2 := by
  intro n
  induction n with
  | zero => intros; rw [V.loopN_z]; rfl
  | succ n ih =>
    intro v6_1 v6_2
    rw [V.loopN_s, zq163.r6]
    simp only [ih]
    first | exact (zq163.u6 ..).symm | rfl
theorem zq163.v (x0 : List TEntry) : V.evBody zq163.E zq163.con Tryz.f352 ((x0) : List TEntry) = zq163.b x0 (fun v6_1 v6_2 => V.loopN (V.loopF zq163.E Tryz.f352.ntmps [1, 1, 0, 1, 0] [] (V.codeOf Tryz.f352) (zq163.kt x0)) V.KK (zq163.s6 x0 v6_1 v6_2)) := by kernel_rfl
theorem zq163.eq (x0 : List TEntry) : V.evBody zq163.E zq163.con Tryz.f352 ((x0) : List TEntry) = zq163 x0 := by
  rw [zq163.v]
  simp only [zq163.e6]
  rfl
theorem zq163.ok : V.Valid Tryz.prog 352 zq163.con :=
  V.fo (V.tab_cons zq162.ok V.tab_nil) Tryz.func352 (by kernel_rfl) (fun x y h => (show V.evBody zq163.E zq163.con Tryz.f352 x = _ from zq163.eq x).trans (V.cfl (by kernel_rfl) h))
noncomputable abbrev zq168.con : V.Con := ⟨(.cons (.int .i64) (.cons (.int .i64) .nil)), (.cons (.int .i64) .nil), fun (x : Int × Int) => zq168 x.1 x.2, [], [(false, 1), (false, 1)], [(false, 1)], [false], []⟩
noncomputable abbrev zq168.E : V.Env := V.mkE V.tys [(337, zq145.con)] [] [] [] [] []
theorem zq168.eq (x0 : Int) (x1 : Int) : V.evBody zq168.E zq168.con Tryz.f443 ((x0, x1) : Int × Int) = zq168 x0 x1 := by kernel_rfl
theorem zq168.ok : V.Valid Tryz.prog 443 zq168.con :=
  V.fo (V.tab_cons zq145.ok V.tab_nil) Tryz.func443 (by kernel_rfl) (fun x y h => (show V.evBody zq168.E zq168.con Tryz.f443 x = _ from zq168.eq x.1 x.2).trans (V.cfl (by kernel_rfl) h))
noncomputable abbrev zq179.con : V.Con := ⟨(.cons (.sl (.cons (.int .i64) .nil)) .nil), (.cons (.sl (.cons (.int .i64) .nil)) .nil), fun (x : List Int) => zq179 x, [], [(false, 1)], [(false, 1)], [true], []⟩
noncomputable abbrev zq179.E : V.Env := V.mkE V.tys [(443, zq168.con)] [(6, [0, 3, 4], [(64000038400192, (.cons (.int .i64) .nil), true)])] [(6, 12)] [] [] []
noncomputable abbrev zq179.kt (x0 : List Int) : V.Kt (List Int) := V.ktOf zq179.E zq179.con Tryz.f411 ((x0) : List Int)
noncomputable abbrev zq179.s6 (x0 : List Int) (v6_1 : Int) (v6_2 : List Int) : V.St := ⟨[(0, .v false [.val (.sl (.cons (.int .i64) .nil) x0)]), (3, .v false [.ref 64000038400192]), (4, .v false [.val (.int .i64 v6_1)])], [(64000038400192, .row (.cons (.int .i64) .nil) true v6_2)]⟩
theorem zq179.r6 (x0 : List Int) (R : V.St → Option (List Int)) (v6_1 : Int) (v6_2 : List Int) : V.loopF zq179.E Tryz.f411.ntmps [1, 1, 0, 1, 0] [] (V.codeOf Tryz.f411) (zq179.kt x0) R (zq179.s6 x0 v6_1 v6_2) = zq179.g6 x0 (fun v6_1 v6_2 => R (zq179.s6 x0 v6_1 v6_2)) v6_1 v6_2 := by kernel_rfl
theorem zq179.e6 (x0 : List Int) : ∀ (n : Nat) (v6_1 : Int) (v6_2 : List Int), V.loopN (V.loopF zq179.E Tryz.f411.ntmps [1, 1, 0, 1, 0] [] (V.codeOf Tryz.f411) (zq179.kt x0)) n (zq179.s6 x0 v6_1 v6_2) = zq179.l6 x0 n v6_1 v6_2 := by
  intro n
  induction n with
  | zero => intros; rw [V.loopN_z]; rfl
  | succ n ih =>
    intro v6_1 v6_2
    rw [V.loopN_s, zq179.r6]
    simp only [ih]
    first | exact (zq179.u6 ..).symm | rfl
theorem zq179.v (x0 : List Int) : V.evBody zq179.E zq179.con Tryz.f411 ((x0) : List Int) = zq179.b x0 (fun v6_1 v6_2 => V.loopN (V.loopF zq179.E Tryz.f411.ntmps [1, 1, 0, 1, 0] [] (V.codeOf Tryz.f411) (zq179.kt x0)) V.KK (zq179.s6 x0 v6_1 v6_2)) := by kernel_rfl
theorem zq179.eq (x0 : List Int) : V.evBody zq179.E zq179.con Tryz.f411 ((x0) : List Int) = zq179 x0 := by
  rw [zq179.v]
  simp only [zq179.e6]
  rfl
theorem zq179.ok : V.Valid Tryz.prog 411 zq179.con :=
  V.fo (V.tab_cons zq168.ok V.tab_nil) Tryz.func411 (by kernel_rfl) (fun x y h => (show V.evBody zq179.E zq179.con Tryz.f411 x = _ from zq179.eq x).trans (V.cfl (by kernel_rfl) h))
noncomputable abbrev zq176.con : V.Con := ⟨(.cons (.sl (.cons (.int .i64) .nil)) .nil), (.cons (.int .i64) .nil), fun (x : List Int) => zq176 x, [], [(false, 1)], [(false, 1)], [false], []⟩
noncomputable abbrev zq176.E : V.Env := V.mkE V.tys [(337, zq145.con), (411, zq179.con)] [(8, [3], [(3, (.cons (.int .i64) .nil), false)])] [] [] [] []
noncomputable abbrev zq176.kt (x0 : List Int) : V.Kt Int := V.ktOf zq176.E zq176.con Tryz.f351 ((x0) : List Int)
noncomputable abbrev zq176.s8 (v8_0 : List Int) : V.St := ⟨[(3, .v false [.val (.sl (.cons (.int .i64) .nil) v8_0)])], []⟩
theorem zq176.r8 (x0 : List Int) (R : V.St → Option Int) (v8_0 : List Int) : V.loopF zq176.E Tryz.f351.ntmps [1, 1, 1, 0, 0] [] (V.codeOf Tryz.f351) (zq176.kt x0) R (zq176.s8 v8_0) = zq176.g8 (fun v8_0 => R (zq176.s8 v8_0)) v8_0 := by kernel_rfl
theorem zq176.e8 (x0 : List Int) : ∀ (n : Nat) (v8_0 : List Int), V.loopN (V.loopF zq176.E Tryz.f351.ntmps [1, 1, 1, 0, 0] [] (V.codeOf Tryz.f351) (zq176.kt x0)) n (zq176.s8 v8_0) = zq176.l8 n v8_0 := by
  intro n
  induction n with
  | zero => intros; rw [V.loopN_z]; rfl
  | succ n ih =>
    intro v8_0
    rw [V.loopN_s, zq176.r8]
    simp only [ih]
    first | exact (zq176.u8 ..).symm | rfl
theorem zq176.v (x0 : List Int) : V.evBody zq176.E zq176.con Tryz.f351 ((x0) : List Int) = zq176.b x0 (fun v8_0 => V.loopN (V.loopF zq176.E Tryz.f351.ntmps [1, 1, 1, 0, 0] [] (V.codeOf Tryz.f351) (zq176.kt x0)) V.KK (zq176.s8 v8_0)) := by kernel_rfl
theorem zq176.eq (x0 : List Int) : V.evBody zq176.E zq176.con Tryz.f351 ((x0) : List Int) = zq176 x0 := by
  rw [zq176.v]
  simp only [zq176.e8]
  rfl
theorem zq176.ok : V.Valid Tryz.prog 351 zq176.con :=
  V.fo (V.tab_cons zq145.ok (V.tab_cons zq179.ok V.tab_nil)) Tryz.func351 (by kernel_rfl) (fun x y h => (show V.evBody zq176.E zq176.con Tryz.f351 x = _ from zq176.eq x).trans (V.cfl (by kernel_rfl) h))
noncomputable abbrev zq178.con : V.Con := ⟨(.cons (.int .i64) (.cons (.int .i64) .nil)), (.cons (.int .i64) .nil), fun (x : Int × Int) => zq178 x.1 x.2, [], [(false, 1), (false, 1)], [(false, 1)], [false], []⟩
noncomputable abbrev zq178.E : V.Env := V.mkE V.tys [(337, zq145.con)] [] [] [] [] []
theorem zq178.eq (x0 : Int) (x1 : Int) : V.evBody zq178.E zq178.con Tryz.f350 ((x0, x1) : Int × Int) = zq178 x0 x1 := by kernel_rfl
theorem zq178.ok : V.Valid Tryz.prog 350 zq178.con :=
  V.fo (V.tab_cons zq145.ok V.tab_nil) Tryz.func350 (by kernel_rfl) (fun x y h => (show V.evBody zq178.E zq178.con Tryz.f350 x = _ from zq178.eq x.1 x.2).trans (V.cfl (by kernel_rfl) h))
noncomputable abbrev zq173.con : V.Con := ⟨(.cons (.sl V.eEntry) .nil), (.cons (.int .i64) .nil), fun (x : List TEntry) => zq173 x, [], [(false, 1)], [(false, 1)], [false], []⟩
noncomputable abbrev zq173.E : V.Env := V.mkE V.tys [(350, zq178.con), (351, zq176.con), (352, zq163.con)] [] [] [] [] []
theorem zq173.eq (x0 : List TEntry) : V.evBody zq173.E zq173.con Tryz.f234 ((x0) : List TEntry) = zq173 x0 := by kernel_rfl
theorem zq173.ok : V.Valid Tryz.prog 234 zq173.con :=
  V.fo (V.tab_cons zq178.ok (V.tab_cons zq176.ok (V.tab_cons zq163.ok V.tab_nil))) Tryz.func234 (by kernel_rfl) (fun x y h => (show V.evBody zq173.E zq173.con Tryz.f234 x = _ from zq173.eq x).trans (V.cfl (by kernel_rfl) h))
noncomputable abbrev zq137.con : V.Con := ⟨(.cons (.int .i64) (.cons (.sl V.eEntry) .nil)), (.cons .bool .nil), fun (x : Int × List TEntry) => zq137 x.1 x.2, [], [(false, 1), (false, 1)], [(false, 1)], [false], []⟩
noncomputable abbrev zq137.E : V.Env := V.mkE V.tys [(233, zq135.con), (234, zq173.con)] [] [] [] [] []
theorem zq137.eq (x0 : Int) (x1 : List TEntry) : V.evBody zq137.E zq137.con Tryz.f258 ((x0, x1) : Int × List TEntry) = zq137 x0 x1 := by kernel_rfl
theorem zq137.ok : V.Valid Tryz.prog 258 zq137.con :=
  V.fo (V.tab_cons zq135.ok (V.tab_cons zq173.ok V.tab_nil)) Tryz.func258 (by kernel_rfl) (fun x y h => (show V.evBody zq137.E zq137.con Tryz.f258 x = _ from zq137.eq x.1 x.2).trans (V.cfl (by kernel_rfl) h))
noncomputable abbrev zq157.con : V.Con := ⟨(.cons (.sl V.eSigned) (.cons (.sl V.eEntry) .nil)), (.cons .bool .nil), fun (x : List TSigned × List TEntry) => zq157 x, [], [(true, 2)], [(false, 1)], [false], []⟩
noncomputable abbrev zq157.E : V.Env := V.mkE V.tys [(137, zq161.con), (258, zq137.con)] [] [] [] [] []
theorem zq157.eq (x0 : TZone) : V.evBody zq157.E zq157.con Tryz.f99 ((x0.1, x0.2) : List TSigned × List TEntry) = zq157 x0 := by kernel_rfl
theorem zq157.ok : V.Valid Tryz.prog 99 zq157.con :=
  V.fo (V.tab_cons zq161.ok (V.tab_cons zq137.ok V.tab_nil)) Tryz.func99 (by kernel_rfl) (fun x y h => (show V.evBody zq157.E zq157.con Tryz.f99 x = _ from zq157.eq x).trans (V.cfl (by kernel_rfl) h))
noncomputable abbrev zq181.con : V.Con := ⟨V.A3, V.eSigned, fun (x : V.D3) => zq181 (V.p3_0 x), [], [(true, 17)], [(true, 17)], [false, false, false, false, false, false, false, false, true, false, true, false, false, true, false, false, true], []⟩
noncomputable abbrev zq181.E : V.Env := V.mkE V.tys [(186, zq180.con)] [] [(1, 6)] [] [] []
noncomputable abbrev zq181.kt (x0 : TSigned) : V.Kt TSigned := V.ktOf zq181.E zq181.con Tryz.f177 (V.fl3 x0)
noncomputable abbrev zq181.s (x0 : TSigned) : V.St := ⟨[(0, .v true [.val (.int .i64 x0.1), .val (.int .i64 x0.2.1), .val (.int .i64 x0.2.2.1), .val (.int .i64 x0.2.2.2.1), .val (.int .i64 x0.2.2.2.2.1), .val (.int .i64 x0.2.2.2.2.2.1), .val (.int .i64 x0.2.2.2.2.2.2.1), .val (.int .i64 x0.2.2.2.2.2.2.2.1), .val (.sl (.cons (.int .i64) .nil) x0.2.2.2.2.2.2.2.2.1), .val (.int .i64 x0.2.2.2.2.2.2.2.2.2.1), .val (.sl (.cons (.int .i64) .nil) x0.2.2.2.2.2.2.2.2.2.2.1), .val (.int .i64 x0.2.2.2.2.2.2.2.2.2.2.2.1), .val (.int .i64 x0.2.2.2.2.2.2.2.2.2.2.2.2.1), .val (.sl (.cons (.int .i64) .nil) x0.2.2.2.2.2.2.2.2.2.2.2.2.2.1), .val (.int .i64 x0.2.2.2.2.2.2.2.2.2.2.2.2.2.2.1), .val (.bool x0.2.2.2.2.2.2.2.2.2.2.2.2.2.2.2.1), .val (.sl (.cons (.int .i64) (.cons (.int .i64) .nil)) x0.2.2.2.2.2.2.2.2.2.2.2.2.2.2.2.2)])], []⟩
theorem zq181.v0 (x0 : TSigned) : V.evBody zq181.E zq181.con Tryz.f177 (V.fl3 x0) = V.evC zq181.E Tryz.f177.ntmps (V.codeOf Tryz.f177) (zq181.kt x0) (zq181.s x0) := by kernel_rfl
theorem zq181.v (x0 : TSigned) : V.evC zq181.E Tryz.f177.ntmps (V.codeOf Tryz.f177) (zq181.kt x0) (zq181.s x0) = zq181 x0 := by kernel_rfl
theorem zq181.eq (x0 : TSigned) : V.evBody zq181.E zq181.con Tryz.f177 (V.fl3 x0) = zq181 x0 := (zq181.v0 x0).trans (zq181.v x0)
theorem zq181.ok : V.Valid Tryz.prog 177 zq181.con :=
  V.fo (V.tab_cons zq180.ok V.tab_nil) Tryz.func177 (by kernel_rfl) (fun x y h => (show V.evBody zq181.E zq181.con Tryz.f177 x = _ from zq181.eq (V.p3_0 x)).trans (V.cfl (by kernel_rfl) h))
noncomputable abbrev zq185.con : V.Con := ⟨(.cons (.sl V.eSigned) .nil), (.cons (.sl V.eSigned) .nil), fun (x : List TSigned) => zq185 x, [], [(false, 1)], [(false, 1)], [true], []⟩
noncomputable abbrev zq185.E : V.Env := V.mkE V.tys [(177, zq181.con)] [(6, [0, 3, 4], [(64000038400192, V.eSigned, true)])] [] [] [] []
noncomputable abbrev zq185.kt (x0 : List TSigned) : V.Kt (List TSigned) := V.ktOf zq185.E zq185.con Tryz.f175 ((x0) : List TSigned)
noncomputable abbrev zq185.s6 (x0 : List TSigned) (v6_1 : Int) (v6_2 : List TSigned) : V.St := ⟨[(0, .v false [.val (.sl V.eSigned x0)]), (3, .v false [.ref 64000038400192]), (4, .v false [.val (.int .i64 v6_1)])], [(64000038400192, .row V.eSigned true v6_2)]⟩
theorem zq185.r6 (x0 : List TSigned) (R : V.St → Option (List TSigned)) (v6_1 : Int) (v6_2 : List TSigned) : V.loopF zq185.E Tryz.f175.ntmps [1, 1, 0, 1, 0] [] (V.codeOf Tryz.f175) (zq185.kt x0) R (zq185.s6 x0 v6_1 v6_2) = zq185.g6 x0 (fun v6_1 v6_2 => R (zq185.s6 x0 v6_1 v6_2)) v6_1 v6_2 := by kernel_rfl
theorem zq185.e6 (x0 : List TSigned) : ∀ (n : Nat) (v6_1 : Int) (v6_2 : List TSigned), V.loopN (V.loopF zq185.E Tryz.f175.ntmps [1, 1, 0, 1, 0] [] (V.codeOf Tryz.f175) (zq185.kt x0)) n (zq185.s6 x0 v6_1 v6_2) = zq185.l6 x0 n v6_1 v6_2 := by
  intro n
  induction n with
  | zero => intros; rw [V.loopN_z]; rfl
  | succ n ih =>
    intro v6_1 v6_2
    rw [V.loopN_s, zq185.r6]
    simp only [ih]
    first | exact (zq185.u6 ..).symm | rfl
theorem zq185.v (x0 : List TSigned) : V.evBody zq185.E zq185.con Tryz.f175 ((x0) : List TSigned) = zq185.b x0 (fun v6_1 v6_2 => V.loopN (V.loopF zq185.E Tryz.f175.ntmps [1, 1, 0, 1, 0] [] (V.codeOf Tryz.f175) (zq185.kt x0)) V.KK (zq185.s6 x0 v6_1 v6_2)) := by kernel_rfl
theorem zq185.eq (x0 : List TSigned) : V.evBody zq185.E zq185.con Tryz.f175 ((x0) : List TSigned) = zq185 x0 := by
  rw [zq185.v]
  simp only [zq185.e6]
  rfl
theorem zq185.ok : V.Valid Tryz.prog 175 zq185.con :=
  V.fo (V.tab_cons zq181.ok V.tab_nil) Tryz.func175 (by kernel_rfl) (fun x y h => (show V.evBody zq185.E zq185.con Tryz.f175 x = _ from zq185.eq x).trans (V.cfl (by kernel_rfl) h))
noncomputable abbrev zq143.con : V.Con := ⟨(.cons (.sl V.eEntry) (.cons .str .nil)), (.cons (.int .i64) .nil), fun (x : List TEntry × ByteArray) => zq143 x.1 x.2, [], [(false, 1), (false, 1)], [(false, 1)], [false], []⟩
noncomputable abbrev zq143.E : V.Env := V.mkE V.tys [] [(4, [0, 1, 5], [])] [] [] [] []
noncomputable abbrev zq143.kt (x0 : List TEntry) (x1 : ByteArray) : V.Kt Int := V.ktOf zq143.E zq143.con Tryz.f139 ((x0, x1) : List TEntry × ByteArray)
noncomputable abbrev zq143.s4 (x0 : List TEntry) (x1 : ByteArray) (v4_2 : Int) : V.St := ⟨[(0, .v false [.val (.sl V.eEntry x0)]), (1, .v false [.val (.str x1)]), (5, .v false [.val (.int .i64 v4_2)])], []⟩
theorem zq143.r4 (x0 : List TEntry) (x1 : ByteArray) (R : V.St → Option Int) (v4_2 : Int) : V.loopF zq143.E Tryz.f139.ntmps [1, 0, 1, 0] [] (V.codeOf Tryz.f139) (zq143.kt x0 x1) R (zq143.s4 x0 x1 v4_2) = zq143.g4 x0 x1 (fun v4_2 => R (zq143.s4 x0 x1 v4_2)) v4_2 := by kernel_rfl
theorem zq143.e4 (x0 : List TEntry) (x1 : ByteArray) : ∀ (n : Nat) (v4_2 : Int), V.loopN (V.loopF zq143.E Tryz.f139.ntmps [1, 0, 1, 0] [] (V.codeOf Tryz.f139) (zq143.kt x0 x1)) n (zq143.s4 x0 x1 v4_2) = zq143.l4 x0 x1 n v4_2 := by
  intro n
  induction n with
  | zero => intros; rw [V.loopN_z]; rfl
  | succ n ih =>
    intro v4_2
    rw [V.loopN_s, zq143.r4]
    simp only [ih]
    first | exact (zq143.u4 ..).symm | rfl
theorem zq143.v (x0 : List TEntry) (x1 : ByteArray) : V.evBody zq143.E zq143.con Tryz.f139 ((x0, x1) : List TEntry × ByteArray) = zq143.b x0 x1 (fun v4_2 => V.loopN (V.loopF zq143.E Tryz.f139.ntmps [1, 0, 1, 0] [] (V.codeOf Tryz.f139) (zq143.kt x0 x1)) V.KK (zq143.s4 x0 x1 v4_2)) := by kernel_rfl
theorem zq143.eq (x0 : List TEntry) (x1 : ByteArray) : V.evBody zq143.E zq143.con Tryz.f139 ((x0, x1) : List TEntry × ByteArray) = zq143 x0 x1 := by
  rw [zq143.v]
  simp only [zq143.e4]
  rfl
theorem zq143.ok : V.Valid Tryz.prog 139 zq143.con :=
  V.fo V.tab_nil Tryz.func139 (by kernel_rfl) (fun x y h => (show V.evBody zq143.E zq143.con Tryz.f139 x = _ from zq143.eq x.1 x.2).trans (V.cfl (by kernel_rfl) h))
noncomputable abbrev zq187.con : V.Con := ⟨(.cons (.sl (.cons .str .nil)) .nil), (.cons (.sl (.cons .str .nil)) .nil), fun (x : List ByteArray) => zq187 x, [], [(false, 1)], [(false, 1)], [true], []⟩
noncomputable abbrev zq187.E : V.Env := V.mkE V.tys [] [] [] [] [] []
theorem zq187.eq (x0 : List ByteArray) : V.evBody zq187.E zq187.con Tryz.f370 ((x0) : List ByteArray) = zq187 x0 := by kernel_rfl
theorem zq187.ok : V.Valid Tryz.prog 370 zq187.con :=
  V.fo V.tab_nil Tryz.func370 (by kernel_rfl) (fun x y h => (show V.evBody zq187.E zq187.con Tryz.f370 x = _ from zq187.eq x).trans (V.cfl (by kernel_rfl) h))
noncomputable abbrev zq189.con : V.Con := ⟨V.eEntry, V.eEntry, fun (x : ByteArray × Int × Int × List ByteArray) => zq189 x, [], [(true, 4)], [(true, 4)], [false, false, false, true], []⟩
noncomputable abbrev zq189.E : V.Env := V.mkE V.tys [(370, zq187.con)] [] [(1, 9)] [] [] []
theorem zq189.eq (x0 : TEntry) : V.evBody zq189.E zq189.con Tryz.f277 ((x0.1, x0.2.1, x0.2.2.1, x0.2.2.2) : ByteArray × Int × Int × List ByteArray) = zq189 x0 := by kernel_rfl
theorem zq189.ok : V.Valid Tryz.prog 277 zq189.con :=
  V.fo (V.tab_cons zq187.ok V.tab_nil) Tryz.func277 (by kernel_rfl) (fun x y h => (show V.evBody zq189.E zq189.con Tryz.f277 x = _ from zq189.eq x).trans (V.cfl (by kernel_rfl) h))
noncomputable abbrev zq169.con : V.Con := ⟨(.cons (.sl (.cons (.int .i64) .nil)) (.cons (.int .i64) .nil)), (.cons (.sl (.cons (.int .i64) .nil)) .nil), fun (x : List Int × Int) => zq169 x.1 x.2, [], [(false, 1), (false, 1)], [(false, 1)], [true], []⟩
noncomputable abbrev zq169.E : V.Env := V.mkE V.tys [(179, zq186.con), (411, zq179.con)] [(10, [1, 5, 6], [(6, (.cons (.int .i64) .nil), false), (64000064000320, (.cons (.int .i64) .nil), true)]), (19, [1, 5, 6], [])] [] [] [] []
noncomputable abbrev zq169.kt (x0 : List Int) (x1 : Int) : V.Kt (List Int) := V.ktOf zq169.E zq169.con Tryz.f371 ((x0, x1) : List Int × Int)
noncomputable abbrev zq169.s19 (v10_0 : Int) (v10_1 : List Int) (v19_2 : List Int) : V.St := ⟨[(1, .v false [.val (.int .i64 v10_0)]), (5, .v false [.ref 64000121600320]), (6, .v false [.val (.sl (.cons (.int .i64) .nil) v10_1)])], [(64000121600320, .row (.cons (.int .i64) .nil) true v19_2)]⟩
noncomputable abbrev zq169.s10 (v10_0 : Int) (v10_1 : List Int) (v10_2 : List Int) : V.St := ⟨[(1, .v false [.val (.int .i64 v10_0)]), (5, .v false [.ref 64000064000320]), (6, .v false [.val (.sl (.cons (.int .i64) .nil) v10_1)])], [(64000064000320, .row (.cons (.int .i64) .nil) true v10_2)]⟩
theorem zq169.r19 (x0 : List Int) (x1 : Int) (v10_0 : Int) (v10_1 : List Int) (R10 : V.St → Option (List Int)) (v19_2 : List Int) : V.joinF zq169.E Tryz.f371.ntmps [1, 1, 1, 1, 0, 0, 0, 1, 0, 1] [R10] (V.codeOf Tryz.f371) (zq169.kt x0 x1) (zq169.s19 v10_0 v10_1 v19_2) = zq169.g19 v10_0 v10_1 (fun v10_0 v10_1 v10_2 => R10 (zq169.s10 v10_0 v10_1 v10_2)) v19_2 := by kernel_rfl
theorem zq169.e19 (x0 : List Int) (x1 : Int) (v10_0 : Int) (v10_1 : List Int) (R10 : V.St → Option (List Int)) (v19_2 : List Int) : V.jn (V.joinF zq169.E Tryz.f371.ntmps [1, 1, 1, 1, 0, 0, 0, 1, 0, 1] [R10] (V.codeOf Tryz.f371) (zq169.kt x0 x1)) (zq169.s19 v10_0 v10_1 v19_2) = zq169.l19 v10_0 v10_1 (fun v10_0 v10_1 v10_2 => R10 (zq169.s10 v10_0 v10_1 v10_2)) v19_2 := by
  rw [V.jn_eq, zq169.r19]
  rfl
theorem zq169.r10 (x0 : List Int) (x1 : Int) (R : V.St → Option (List Int)) (v10_0 : Int) (v10_1 : List Int) (v10_2 : List Int) : V.loopF zq169.E Tryz.f371.ntmps [1, 1, 1, 1, 0, 0] [] (V.codeOf Tryz.f371) (zq169.kt x0 x1) R (zq169.s10 v10_0 v10_1 v10_2) = zq169.g10 (fun v10_0 v10_1 v10_2 => R (zq169.s10 v10_0 v10_1 v10_2)) (fun v19_2 => V.jn (V.joinF zq169.E Tryz.f371.ntmps [1, 1, 1, 1, 0, 0, 0, 1, 0, 1] [R] (V.codeOf Tryz.f371) (zq169.kt x0 x1)) (zq169.s19 v10_0 v10_1 v19_2)) v10_0 v10_1 v10_2 := by kernel_rfl
theorem zq169.e10 (x0 : List Int) (x1 : Int) : ∀ (n : Nat) (v10_0 : Int) (v10_1 : List Int) (v10_2 : List Int), V.loopN (V.loopF zq169.E Tryz.f371.ntmps [1, 1, 1, 1, 0, 0] [] (V.codeOf Tryz.f371) (zq169.kt x0 x1)) n (zq169.s10 v10_0 v10_1 v10_2) = zq169.l10 n v10_0 v10_1 v10_2 := by
  intro n
  induction n with
  | zero => intros; rw [V.loopN_z]; rfl
  | succ n ih =>
    intro v10_0 v10_1 v10_2
    rw [V.loopN_s, zq169.r10]
    simp only [zq169.e19, ih]
    first | exact (zq169.u10 ..).symm | rfl
theorem zq169.v (x0 : List Int) (x1 : Int) : V.evBody zq169.E zq169.con Tryz.f371 ((x0, x1) : List Int × Int) = zq169.b x0 x1 (fun v10_0 v10_1 v10_2 => V.loopN (V.loopF zq169.E Tryz.f371.ntmps [1, 1, 1, 1, 0, 0] [] (V.codeOf Tryz.f371) (zq169.kt x0 x1)) V.KK (zq169.s10 v10_0 v10_1 v10_2)) := by kernel_rfl
theorem zq169.eq (x0 : List Int) (x1 : Int) : V.evBody zq169.E zq169.con Tryz.f371 ((x0, x1) : List Int × Int) = zq169 x0 x1 := by
  rw [zq169.v]
  simp only [zq169.e10]
  rfl
theorem zq169.ok : V.Valid Tryz.prog 371 zq169.con :=
  V.fo (V.tab_cons zq186.ok (V.tab_cons zq179.ok V.tab_nil)) Tryz.func371 (by kernel_rfl) (fun x y h => (show V.evBody zq169.E zq169.con Tryz.f371 x = _ from zq169.eq x.1 x.2).trans (V.cfl (by kernel_rfl) h))
noncomputable abbrev zq171.con : V.Con := ⟨(.cons (.sl V.eEntry) (.cons .str .nil)), (.cons (.int .i64) (.cons (.sl (.cons (.int .i64) .nil)) (.cons .bool .nil))), fun (x : List TEntry × ByteArray) => zq171 x.1 x.2, [], [(false, 1), (false, 1)], [(true, 2), (false, 1)], [false, true, false], []⟩
noncomputable abbrev zq171.E : V.Env := V.mkE V.tys [(139, zq143.con), (352, zq163.con), (371, zq169.con)] [] [] [] [] []
theorem zq171.eq (x0 : List TEntry) (x1 : ByteArray) : V.evBody zq171.E zq171.con Tryz.f278 ((x0, x1) : List TEntry × ByteArray) = zq171 x0 x1 := by kernel_rfl
theorem zq171.ok : V.Valid Tryz.prog 278 zq171.con :=
  V.fo (V.tab_cons zq143.ok (V.tab_cons zq163.ok (V.tab_cons zq169.ok V.tab_nil))) Tryz.func278 (by kernel_rfl) (fun x y h => (show V.evBody zq171.E zq171.con Tryz.f278 x = _ from zq171.eq x.1 x.2).trans (V.cfl (by kernel_rfl) h))
noncomputable abbrev zq172.con : V.Con := ⟨(.cons (.sl V.eEntry) (.cons .str .nil)), (.cons (.int .i64) .nil), fun (x : List TEntry × ByteArray) => zq172 x.1 x.2, [], [(false, 1), (false, 1)], [(false, 1)], [false], []⟩
noncomputable abbrev zq172.E : V.Env := V.mkE V.tys [(349, zq138.con)] [(6, [0, 1, 5, 6], [])] [] [] [] []
noncomputable abbrev zq172.kt (x0 : List TEntry) (x1 : ByteArray) : V.Kt Int := V.ktOf zq172.E zq172.con Tryz.f372 ((x0, x1) : List TEntry × ByteArray)
noncomputable abbrev zq172.s6 (x0 : List TEntry) (x1 : ByteArray) (v6_2 : Int) (v6_3 : Int) : V.St := ⟨[(0, .v false [.val (.sl V.eEntry x0)]), (1, .v false [.val (.str x1)]), (5, .v false [.val (.int .i64 v6_2)]), (6, .v false [.val (.int .i64 v6_3)])], []⟩
theorem zq172.r6 (x0 : List TEntry) (x1 : ByteArray) (R : V.St → Option Int) (v6_2 : Int) (v6_3 : Int) : V.loopF zq172.E Tryz.f372.ntmps [1, 1, 0, 1, 0] [] (V.codeOf Tryz.f372) (zq172.kt x0 x1) R (zq172.s6 x0 x1 v6_2 v6_3) = zq172.g6 x0 x1 (fun v6_2 v6_3 => R (zq172.s6 x0 x1 v6_2 v6_3)) v6_2 v6_3 := by kernel_rfl
theorem zq172.e6 (x0 : List TEntry) (x1 : ByteArray) : ∀ (n : Nat) (v6_2 : Int) (v6_3 : Int), V.loopN (V.loopF zq172.E Tryz.f372.ntmps [1, 1, 0, 1, 0] [] (V.codeOf Tryz.f372) (zq172.kt x0 x1)) n (zq172.s6 x0 x1 v6_2 v6_3) = zq172.l6 x0 x1 n v6_2 v6_3 := by
  intro n
  induction n with
  | zero => intros; rw [V.loopN_z]; rfl
  | succ n ih =>
    intro v6_2 v6_3
    rw [V.loopN_s, zq172.r6]
    simp only [ih]
    first | exact (zq172.u6 ..).symm | rfl
theorem zq172.v (x0 : List TEntry) (x1 : ByteArray) : V.evBody zq172.E zq172.con Tryz.f372 ((x0, x1) : List TEntry × ByteArray) = zq172.b x0 x1 (fun v6_2 v6_3 => V.loopN (V.loopF zq172.E Tryz.f372.ntmps [1, 1, 0, 1, 0] [] (V.codeOf Tryz.f372) (zq172.kt x0 x1)) V.KK (zq172.s6 x0 x1 v6_2 v6_3)) := by kernel_rfl
theorem zq172.eq (x0 : List TEntry) (x1 : ByteArray) : V.evBody zq172.E zq172.con Tryz.f372 ((x0, x1) : List TEntry × ByteArray) = zq172 x0 x1 := by
  rw [zq172.v]
  simp only [zq172.e6]
  rfl
theorem zq172.ok : V.Valid Tryz.prog 372 zq172.con :=
  V.fo (V.tab_cons zq138.ok V.tab_nil) Tryz.func372 (by kernel_rfl) (fun x y h => (show V.evBody zq172.E zq172.con Tryz.f372 x = _ from zq172.eq x.1 x.2).trans (V.cfl (by kernel_rfl) h))
noncomputable abbrev zq170.con : V.Con := ⟨(.cons (.sl V.eEntry) (.cons .str .nil)), V.eRGapBool, fun (x : List TEntry × ByteArray) => zq170 x.1 x.2, [], [(false, 1), (false, 1)], [(true, 13), (false, 1)], [false, false, false, false, true, false, false, false, true, false, true, false, true, false], []⟩
noncomputable abbrev zq170.E : V.Env := V.mkE V.tys [(136, zq153.con), (139, zq143.con), (233, zq135.con), (277, zq189.con), (278, zq171.con), (372, zq172.con)] [(5, [0, 1, 4, 21], []), (17, [0, 4, 6, 7], [(64000000000020488196, (.cons .str .nil), true), (64000000000020488202, (.cons (.int .i64) .nil), true)])] [] [] [] []
noncomputable abbrev zq170.kt (x0 : List TEntry) (x1 : ByteArray) : V.Kt TRGapBool := V.ktOf zq170.E zq170.con Tryz.f279 ((x0, x1) : List TEntry × ByteArray)
noncomputable abbrev zq170.s17 (x0 : List TEntry) (y2 : Int) (v17_12 : ByteArray) (v17_13 : Int) (v17_14 : Int) (v17_18 : Int) (v17_20 : List ByteArray) (v17_21 : List Int) : V.St := ⟨[(0, .v false [.val (.sl V.eEntry x0)]), (4, .v false [.ptr 64000 0]), (6, .v false [.val (.int .i64 y2)]), (7, .v false [.ptr 320128 0])], [(64000, .box [.val (.int .i64 (0 : Int)), .val (.str (⟨#[]⟩ : ByteArray)), .val (.int .i64 (0 : Int)), .val (.int .i64 (0 : Int)), .nil0, .val (.str (⟨#[]⟩ : ByteArray)), .val (.int .i64 (0 : Int)), .val (.int .i64 (0 : Int)), .nil0, .val (.int .i64 (0 : Int)), .nil0, .val (.int .i64 (0 : Int)), .nil0]), (320128, .box [.val (.int .i64 y2), .val (.str v17_12), .val (.int .i64 v17_13), .val (.int .i64 v17_14), .ref 64000000000020488196, .val (.str (⟨#[]⟩ : ByteArray)), .val (.int .i64 (0 : Int)), .val (.int .i64 (0 : Int)), .nil0, .val (.int .i64 v17_18), .ref 64000000000020488202, .val (.int .i64 (0 : Int)), .nil0]), (64000000000020488196, .row (.cons .str .nil) true v17_20), (64000000000020488202, .row (.cons (.int .i64) .nil) true v17_21)]⟩
noncomputable abbrev zq170.s5 (x0 : List TEntry) (x1 : ByteArray) (v5_2 : Bool) : V.St := ⟨[(0, .v false [.val (.sl V.eEntry x0)]), (1, .v false [.val (.str x1)]), (4, .v false [.ptr 64000 0]), (21, .v false [.val (.bool v5_2)])], [(64000, .box [.val (.int .i64 (0 : Int)), .val (.str (⟨#[]⟩ : ByteArray)), .val (.int .i64 (0 : Int)), .val (.int .i64 (0 : Int)), .nil0, .val (.str (⟨#[]⟩ : ByteArray)), .val (.int .i64 (0 : Int)), .val (.int .i64 (0 : Int)), .nil0, .val (.int .i64 (0 : Int)), .nil0, .val (.int .i64 (0 : Int)), .nil0])]⟩
theorem zq170.r17 (x0 : List TEntry) (x1 : ByteArray) (y2 : Int) (v17_12 : ByteArray) (v17_13 : Int) (v17_14 : Int) (v17_18 : Int) (v17_20 : List ByteArray) (v17_21 : List Int) : V.joinF zq170.E Tryz.f279.ntmps [1, 1, 1, 1] [] (V.codeOf Tryz.f279) (zq170.kt x0 x1) (zq170.s17 x0 y2 v17_12 v17_13 v17_14 v17_18 v17_20 v17_21) = zq170.g17 x0 y2 v17_12 v17_13 v17_14 v17_18 v17_20 v17_21 := by kernel_rfl
theorem zq170.e17 (x0 : List TEntry) (x1 : ByteArray) (y2 : Int) (v17_12 : ByteArray) (v17_13 : Int) (v17_14 : Int) (v17_18 : Int) (v17_20 : List ByteArray) (v17_21 : List Int) : V.jn (V.joinF zq170.E Tryz.f279.ntmps [1, 1, 1, 1] [] (V.codeOf Tryz.f279) (zq170.kt x0 x1)) (zq170.s17 x0 y2 v17_12 v17_13 v17_14 v17_18 v17_20 v17_21) = zq170.l17 x0 y2 v17_12 v17_13 v17_14 v17_18 v17_20 v17_21 := by
  rw [V.jn_eq, zq170.r17]
  rfl
theorem zq170.r5 (x0 : List TEntry) (x1 : ByteArray) (v5_2 : Bool) : V.joinF zq170.E Tryz.f279.ntmps [1, 0] [] (V.codeOf Tryz.f279) (zq170.kt x0 x1) (zq170.s5 x0 x1 v5_2) = zq170.g5 x0 x1 (fun y2 v17_12 v17_13 v17_14 v17_18 v17_20 v17_21 => V.jn (V.joinF zq170.E Tryz.f279.ntmps [1, 1, 1, 1] [] (V.codeOf Tryz.f279) (zq170.kt x0 x1)) (zq170.s17 x0 y2 v17_12 v17_13 v17_14 v17_18 v17_20 v17_21)) v5_2 := by kernel_rfl
theorem zq170.e5 (x0 : List TEntry) (x1 : ByteArray) (v5_2 : Bool) : V.jn (V.joinF zq170.E Tryz.f279.ntmps [1, 0] [] (V.codeOf Tryz.f279) (zq170.kt x0 x1)) (zq170.s5 x0 x1 v5_2) = zq170.l5 x0 x1 v5_2 := by
  rw [V.jn_eq, zq170.r5]
  simp only [zq170.e17]
  rfl
theorem zq170.v (x0 : List TEntry) (x1 : ByteArray) : V.evBody zq170.E zq170.con Tryz.f279 ((x0, x1) : List TEntry × ByteArray) = zq170.b x0 x1 (fun v5_2 => V.jn (V.joinF zq170.E Tryz.f279.ntmps [1, 0] [] (V.codeOf Tryz.f279) (zq170.kt x0 x1)) (zq170.s5 x0 x1 v5_2)) := by kernel_rfl
theorem zq170.eq (x0 : List TEntry) (x1 : ByteArray) : V.evBody zq170.E zq170.con Tryz.f279 ((x0, x1) : List TEntry × ByteArray) = zq170 x0 x1 := by
  rw [zq170.v]
  simp only [zq170.e5]
  rfl
theorem zq170.ok : V.Valid Tryz.prog 279 zq170.con :=
  V.fo (V.tab_cons zq153.ok (V.tab_cons zq143.ok (V.tab_cons zq135.ok (V.tab_cons zq189.ok (V.tab_cons zq171.ok (V.tab_cons zq172.ok V.tab_nil)))))) Tryz.func279 (by kernel_rfl) (fun x y h => (show V.evBody zq170.E zq170.con Tryz.f279 x = _ from zq170.eq x.1 x.2).trans (V.cfl (by kernel_rfl) h))
noncomputable abbrev zq134.con : V.Con := ⟨(.cons (.sl V.eSigned) (.cons (.sl V.eEntry) (.cons .str .nil))), V.eAnswer, fun (x : List TSigned × List TEntry × ByteArray) => zq134 (x.1, x.2.1) x.2.2, [], [(true, 2), (false, 1)], [(true, 21)], [true, false, false, false, false, true, false, true, false, false, false, false, true, false, false, false, true, false, true, false, true], []⟩
noncomputable abbrev zq134.E : V.Env := V.mkE V.tys [(99, zq157.con), (136, zq153.con), (139, zq143.con), (175, zq185.con), (277, zq189.con), (278, zq171.con), (279, zq170.con)] [(7, [1, 2, 4], [])] [] [] [] []
noncomputable abbrev zq134.kt (x0 : TZone) (x1 : ByteArray) : V.Kt TAnswer := V.ktOf zq134.E zq134.con Tryz.f132 ((x0.1, x0.2, x1) : List TSigned × List TEntry × ByteArray)
noncomputable abbrev zq134.s7 (x0 : TZone) (x1 : ByteArray) : V.St := ⟨[(1, .v false [.val (.str x1)]), (2, .v false [.ptr 64000 0]), (4, .v false [.ptr 64064 0])], [(64000, .box [.val (.sl V.eSigned x0.1), .val (.sl V.eEntry x0.2)]), (64064, .box [.nil0, .val (.bool false), .val (.str (⟨#[]⟩ : ByteArray)), .val (.int .i64 (0 : Int)), .val (.int .i64 (0 : Int)), .nil0, .val (.int .i64 (0 : Int)), .nil0, .val (.int .i64 (0 : Int)), .val (.str (⟨#[]⟩ : ByteArray)), .val (.int .i64 (0 : Int)), .val (.int .i64 (0 : Int)), .nil0, .val (.str (⟨#[]⟩ : ByteArray)), .val (.int .i64 (0 : Int)), .val (.int .i64 (0 : Int)), .nil0, .val (.int .i64 (0 : Int)), .nil0, .val (.int .i64 (0 : Int)), .nil0])]⟩
theorem zq134.r7 (x0 : TZone) (x1 : ByteArray) : V.joinF zq134.E Tryz.f132.ntmps [1] [] (V.codeOf Tryz.f132) (zq134.kt x0 x1) (zq134.s7 x0 x1) = zq134.g7 x0 x1 := by kernel_rfl
theorem zq134.e7 (x0 : TZone) (x1 : ByteArray) : V.jn (V.joinF zq134.E Tryz.f132.ntmps [1] [] (V.codeOf Tryz.f132) (zq134.kt x0 x1)) (zq134.s7 x0 x1) = zq134.l7 x0 x1 := by
  rw [V.jn_eq, zq134.r7]
  rfl
theorem zq134.v (x0 : TZone) (x1 : ByteArray) : V.evBody zq134.E zq134.con Tryz.f132 ((x0.1, x0.2, x1) : List TSigned × List TEntry × ByteArray) = zq134.b x0 x1 (V.jn (V.joinF zq134.E Tryz.f132.ntmps [1] [] (V.codeOf Tryz.f132) (zq134.kt x0 x1)) (zq134.s7 x0 x1)) := by kernel_rfl
theorem zq134.eq (x0 : TZone) (x1 : ByteArray) : V.evBody zq134.E zq134.con Tryz.f132 ((x0.1, x0.2, x1) : List TSigned × List TEntry × ByteArray) = zq134 x0 x1 := by
  rw [zq134.v]
  simp only [zq134.e7]
  rfl
theorem zq134.ok : V.Valid Tryz.prog 132 zq134.con :=
  V.fo (V.tab_cons zq157.ok (V.tab_cons zq153.ok (V.tab_cons zq143.ok (V.tab_cons zq185.ok (V.tab_cons zq189.ok (V.tab_cons zq171.ok (V.tab_cons zq170.ok V.tab_nil))))))) Tryz.func132 (by kernel_rfl) (fun x y h => (show V.evBody zq134.E zq134.con Tryz.f132 x = _ from zq134.eq (x.1, x.2.1) x.2.2).trans (V.cfl (by kernel_rfl) h))
noncomputable abbrev zq15.con : V.Con := ⟨(.cons (.int .i64) (.cons (.int .i64) (.cons (.int .i64) .nil))), (.cons .bool .nil), fun (x : Int × Int × Int) => zq15 x.1 x.2.1 x.2.2, [], [(false, 1), (false, 1), (false, 1)], [(false, 1)], [false], []⟩
noncomputable abbrev zq15.E : V.Env := V.mkE V.tys [] [] [] [] [] []
theorem zq15.eq (x0 : Int) (x1 : Int) (x2 : Int) : V.evBody zq15.E zq15.con Tryz.f178 ((x0, x1, x2) : Int × Int × Int) = zq15 x0 x1 x2 := by kernel_rfl
theorem zq15.ok : V.Valid Tryz.prog 178 zq15.con :=
  V.fo V.tab_nil Tryz.func178 (by kernel_rfl) (fun x y h => (show V.evBody zq15.E zq15.con Tryz.f178 x = _ from zq15.eq x.1 x.2.1 x.2.2).trans (V.cfl (by kernel_rfl) h))
noncomputable abbrev zq57.con : V.Con := ⟨(.cons (.int .i64) .nil), (.cons .bool .nil), fun (x : Int) => zq57 x, [], [(false, 1)], [(false, 1)], [false], []⟩
noncomputable abbrev zq57.E : V.Env := V.mkE V.tys [(178, zq15.con)] [] [] [] [] []
theorem zq57.eq (x0 : Int) : V.evBody zq57.E zq57.con Tryz.f206 ((x0) : Int) = zq57 x0 := by kernel_rfl
theorem zq57.ok : V.Valid Tryz.prog 206 zq57.con :=
  V.fo (V.tab_cons zq15.ok V.tab_nil) Tryz.func206 (by kernel_rfl) (fun x y h => (show V.evBody zq57.E zq57.con Tryz.f206 x = _ from zq57.eq x).trans (V.cfl (by kernel_rfl) h))
noncomputable abbrev zq61.con : V.Con := ⟨V.A2, (.cons .bool .nil), fun (x : V.D2) => zq61 (V.p2_0 x), [], [(true, 16)], [(false, 1)], [false], []⟩
noncomputable abbrev zq61.E : V.Env := V.mkE V.tys [] [] [] [] [] []
noncomputable abbrev zq61.kt (x0 : THead) : V.Kt Bool := V.ktOf zq61.E zq61.con Tryz.f393 (V.fl2 x0)
noncomputable abbrev zq61.s (x0 : THead) : V.St := ⟨[(0, .v true [.val (.int .i64 x0.1), .val (.int .i64 x0.2.1), .val (.int .i64 x0.2.2.1), .val (.int .i64 x0.2.2.2.1), .val (.int .i64 x0.2.2.2.2.1), .val (.int .i64 x0.2.2.2.2.2.1), .val (.int .i64 x0.2.2.2.2.2.2.1), .val (.int .i64 x0.2.2.2.2.2.2.2.1), .val (.sl (.cons (.int .i64) .nil) x0.2.2.2.2.2.2.2.2.1), .val (.int .i64 x0.2.2.2.2.2.2.2.2.2.1), .val (.sl (.cons (.int .i64) .nil) x0.2.2.2.2.2.2.2.2.2.2.1), .val (.int .i64 x0.2.2.2.2.2.2.2.2.2.2.2.1), .val (.int .i64 x0.2.2.2.2.2.2.2.2.2.2.2.2.1), .val (.sl (.cons (.int .i64) .nil) x0.2.2.2.2.2.2.2.2.2.2.2.2.2.1), .val (.int .i64 x0.2.2.2.2.2.2.2.2.2.2.2.2.2.2.1), .val (.bool x0.2.2.2.2.2.2.2.2.2.2.2.2.2.2.2)])], []⟩
theorem zq61.v0 (x0 : THead) : V.evBody zq61.E zq61.con Tryz.f393 (V.fl2 x0) = V.evC zq61.E Tryz.f393.ntmps (V.codeOf Tryz.f393) (zq61.kt x0) (zq61.s x0) := by kernel_rfl
theorem zq61.v (x0 : THead) : V.evC zq61.E Tryz.f393.ntmps (V.codeOf Tryz.f393) (zq61.kt x0) (zq61.s x0) = zq61 x0 := by kernel_rfl
theorem zq61.eq (x0 : THead) : V.evBody zq61.E zq61.con Tryz.f393 (V.fl2 x0) = zq61 x0 := (zq61.v0 x0).trans (zq61.v x0)
theorem zq61.ok : V.Valid Tryz.prog 393 zq61.con :=
  V.fo V.tab_nil Tryz.func393 (by kernel_rfl) (fun x y h => (show V.evBody zq61.E zq61.con Tryz.f393 x = _ from zq61.eq (V.p2_0 x)).trans (V.cfl (by kernel_rfl) h))
noncomputable abbrev zq48.con : V.Con := ⟨(.cons (.sl (.cons (.int .i64) .nil)) .nil), (.cons .bool .nil), fun (x : List Int) => zq48 x, [], [(false, 1)], [(false, 1)], [false], []⟩
noncomputable abbrev zq48.E : V.Env := V.mkE V.tys [] [(4, [0, 5, 6], [])] [(4, 12)] [] [] []
noncomputable abbrev zq48.kt (x0 : List Int) : V.Kt Bool := V.ktOf zq48.E zq48.con Tryz.f330 ((x0) : List Int)
noncomputable abbrev zq48.s4 (x0 : List Int) (v4_1 : Int) (v4_2 : Int) : V.St := ⟨[(0, .v false [.val (.sl (.cons (.int .i64) .nil) x0)]), (5, .v false [.val (.int .i64 v4_1)]), (6, .v false [.val (.int .i64 v4_2)])], []⟩
theorem zq48.r4 (x0 : List Int) (R : V.St → Option Bool) (v4_1 : Int) (v4_2 : Int) : V.loopF zq48.E Tryz.f330.ntmps [1, 0, 1, 0] [] (V.codeOf Tryz.f330) (zq48.kt x0) R (zq48.s4 x0 v4_1 v4_2) = zq48.g4 x0 (fun v4_1 v4_2 => R (zq48.s4 x0 v4_1 v4_2)) v4_1 v4_2 := by kernel_rfl
theorem zq48.e4 (x0 : List Int) : ∀ (n : Nat) (v4_1 : Int) (v4_2 : Int), V.loopN (V.loopF zq48.E Tryz.f330.ntmps [1, 0, 1, 0] [] (V.codeOf Tryz.f330) (zq48.kt x0)) n (zq48.s4 x0 v4_1 v4_2) = zq48.l4 x0 n v4_1 v4_2 := by
  intro n
  induction n with
  | zero => intros; rw [V.loopN_z]; rfl
  | succ n ih =>
    intro v4_1 v4_2
    rw [V.loopN_s, zq48.r4]
    simp only [ih]
    first | exact (zq48.u4 ..).symm | rfl
theorem zq48.v (x0 : List Int) : V.evBody zq48.E zq48.con Tryz.f330 ((x0) : List Int) = zq48.b x0 (fun v4_1 v4_2 => V.loopN (V.loopF zq48.E Tryz.f330.ntmps [1, 0, 1, 0] [] (V.codeOf Tryz.f330) (zq48.kt x0)) V.KK (zq48.s4 x0 v4_1 v4_2)) := by kernel_rfl
theorem zq48.eq (x0 : List Int) : V.evBody zq48.E zq48.con Tryz.f330 ((x0) : List Int) = zq48 x0 := by
  rw [zq48.v]
  simp only [zq48.e4]
  rfl
theorem zq48.ok : V.Valid Tryz.prog 330 zq48.con :=
  V.fo V.tab_nil Tryz.func330 (by kernel_rfl) (fun x y h => (show V.evBody zq48.E zq48.con Tryz.f330 x = _ from zq48.eq x).trans (V.cfl (by kernel_rfl) h))
noncomputable abbrev zq58.con : V.Con := ⟨(.cons (.int .i64) .nil), (.cons .bool .nil), fun (x : Int) => zq58 x, [], [(false, 1)], [(false, 1)], [false], []⟩
noncomputable abbrev zq58.E : V.Env := V.mkE V.tys [(178, zq15.con)] [] [] [] [] []
theorem zq58.eq (x0 : Int) : V.evBody zq58.E zq58.con Tryz.f207 ((x0) : Int) = zq58 x0 := by kernel_rfl
theorem zq58.ok : V.Valid Tryz.prog 207 zq58.con :=
  V.fo (V.tab_cons zq15.ok V.tab_nil) Tryz.func207 (by kernel_rfl) (fun x y h => (show V.evBody zq58.E zq58.con Tryz.f207 x = _ from zq58.eq x).trans (V.cfl (by kernel_rfl) h))
noncomputable abbrev zq20.con : V.Con := ⟨(.cons (.sl (.cons (.int .i64) .nil)) (.cons (.int .i64) .nil)), (.cons .bool .nil), fun (x : List Int × Int) => zq20 x, [], [(true, 2)], [(false, 1)], [false], []⟩
noncomputable abbrev zq20.E : V.Env := V.mkE V.tys [(178, zq15.con), (207, zq58.con), (330, zq48.con)] [] [] [] [] []
theorem zq20.eq (x0 : TKeys) : V.evBody zq20.E zq20.con Tryz.f208 ((x0.1, x0.2) : List Int × Int) = zq20 x0 := by kernel_rfl
theorem zq20.ok : V.Valid Tryz.prog 208 zq20.con :=
  V.fo (V.tab_cons zq15.ok (V.tab_cons zq58.ok (V.tab_cons zq48.ok V.tab_nil))) Tryz.func208 (by kernel_rfl) (fun x y h => (show V.evBody zq20.E zq20.con Tryz.f208 x = _ from zq20.eq x).trans (V.cfl (by kernel_rfl) h))
noncomputable abbrev zq35.con : V.Con := ⟨(.cons (.sl (.cons (.int .i64) .nil)) (.cons (.int .i64) .nil)), (.cons .bool .nil), fun (x : List Int × Int) => zq35 x, [], [(true, 2)], [(false, 1)], [false], []⟩
noncomputable abbrev zq35.E : V.Env := V.mkE V.tys [] [] [] [] [] []
theorem zq35.eq (x0 : TKeys) : V.evBody zq35.E zq35.con Tryz.f226 ((x0.1, x0.2) : List Int × Int) = zq35 x0 := by kernel_rfl
theorem zq35.ok : V.Valid Tryz.prog 226 zq35.con :=
  V.fo V.tab_nil Tryz.func226 (by kernel_rfl) (fun x y h => (show V.evBody zq35.E zq35.con Tryz.f226 x = _ from zq35.eq x).trans (V.cfl (by kernel_rfl) h))
noncomputable abbrev zq59.con : V.Con := ⟨(.cons (.sl (.cons (.int .i64) .nil)) (.cons (.int .i64) .nil)), (.cons .bool .nil), fun (x : List Int × Int) => zq59 x, [], [(true, 2)], [(false, 1)], [false], []⟩
noncomputable abbrev zq59.E : V.Env := V.mkE V.tys [(208, zq20.con), (226, zq35.con)] [] [] [] [] []
theorem zq59.eq (x0 : TKeys) : V.evBody zq59.E zq59.con Tryz.f394 ((x0.1, x0.2) : List Int × Int) = zq59 x0 := by kernel_rfl
theorem zq59.ok : V.Valid Tryz.prog 394 zq59.con :=
  V.fo (V.tab_cons zq20.ok (V.tab_cons zq35.ok V.tab_nil)) Tryz.func394 (by kernel_rfl) (fun x y h => (show V.evBody zq59.E zq59.con Tryz.f394 x = _ from zq59.eq x).trans (V.cfl (by kernel_rfl) h))
noncomputable abbrev zq62.con : V.Con := ⟨(.cons (.int .i64) (.cons (.sl (.cons (.int .i64) .nil)) (.cons (.int .i64) .nil))), (.cons .bool .nil), fun (x : Int × List Int × Int) => zq62 x.1 x.2, [], [(false, 1), (true, 2)], [(false, 1)], [false], []⟩
noncomputable abbrev zq62.E : V.Env := V.mkE V.tys [(178, zq15.con), (226, zq35.con)] [] [] [] [] []
theorem zq62.eq (x0 : Int) (x1 : TKeys) : V.evBody zq62.E zq62.con Tryz.f395 ((x0, x1.1, x1.2) : Int × List Int × Int) = zq62 x0 x1 := by kernel_rfl
theorem zq62.ok : V.Valid Tryz.prog 395 zq62.con :=
  V.fo (V.tab_cons zq15.ok (V.tab_cons zq35.ok V.tab_nil)) Tryz.func395 (by kernel_rfl) (fun x y h => (show V.evBody zq62.E zq62.con Tryz.f395 x = _ from zq62.eq x.1 x.2).trans (V.cfl (by kernel_rfl) h))
noncomputable abbrev zq19.con : V.Con := ⟨V.A2, (.cons .bool .nil), fun (x : V.D2) => zq19 (V.p2_0 x), [], [(true, 16)], [(false, 1)], [false], []⟩
noncomputable abbrev zq19.E : V.Env := V.mkE V.tys [(178, zq15.con), (206, zq57.con), (208, zq20.con), (226, zq35.con), (393, zq61.con), (394, zq59.con), (395, zq62.con)] [] [] [] [] []
noncomputable abbrev zq19.kt (x0 : THead) : V.Kt Bool := V.ktOf zq19.E zq19.con Tryz.f306 (V.fl2 x0)
noncomputable abbrev zq19.s (x0 : THead) : V.St := ⟨[(0, .v true [.val (.int .i64 x0.1), .val (.int .i64 x0.2.1), .val (.int .i64 x0.2.2.1), .val (.int .i64 x0.2.2.2.1), .val (.int .i64 x0.2.2.2.2.1), .val (.int .i64 x0.2.2.2.2.2.1), .val (.int .i64 x0.2.2.2.2.2.2.1), .val (.int .i64 x0.2.2.2.2.2.2.2.1), .val (.sl (.cons (.int .i64) .nil) x0.2.2.2.2.2.2.2.2.1), .val (.int .i64 x0.2.2.2.2.2.2.2.2.2.1), .val (.sl (.cons (.int .i64) .nil) x0.2.2.2.2.2.2.2.2.2.2.1), .val (.int .i64 x0.2.2.2.2.2.2.2.2.2.2.2.1), .val (.int .i64 x0.2.2.2.2.2.2.2.2.2.2.2.2.1), .val (.sl (.cons (.int .i64) .nil) x0.2.2.2.2.2.2.2.2.2.2.2.2.2.1), .val (.int .i64 x0.2.2.2.2.2.2.2.2.2.2.2.2.2.2.1), .val (.bool x0.2.2.2.2.2.2.2.2.2.2.2.2.2.2.2)])], []⟩
theorem zq19.v0 (x0 : THead) : V.evBody zq19.E zq19.con Tryz.f306 (V.fl2 x0) = V.evC zq19.E Tryz.f306.ntmps (V.codeOf Tryz.f306) (zq19.kt x0) (zq19.s x0) := by kernel_rfl
theorem zq19.v (x0 : THead) : V.evC zq19.E Tryz.f306.ntmps (V.codeOf Tryz.f306) (zq19.kt x0) (zq19.s x0) = zq19 x0 := by kernel_rfl
theorem zq19.eq (x0 : THead) : V.evBody zq19.E zq19.con Tryz.f306 (V.fl2 x0) = zq19 x0 := (zq19.v0 x0).trans (zq19.v x0)
theorem zq19.ok : V.Valid Tryz.prog 306 zq19.con :=
  V.fo (V.tab_cons zq15.ok (V.tab_cons zq57.ok (V.tab_cons zq20.ok (V.tab_cons zq35.ok (V.tab_cons zq61.ok (V.tab_cons zq59.ok (V.tab_cons zq62.ok V.tab_nil))))))) Tryz.func306 (by kernel_rfl) (fun x y h => (show V.evBody zq19.E zq19.con Tryz.f306 x = _ from zq19.eq (V.p2_0 x)).trans (V.cfl (by kernel_rfl) h))
noncomputable abbrev zq28.con : V.Con := ⟨(.cons (.sl (.cons (.int .i64) .nil)) (.cons (.int .i64) .nil)), (.cons (.sl (.cons (.int .i64) .nil)) .nil), fun (x : List Int × Int) => zq28 x, [], [(true, 2)], [(false, 1)], [true], []⟩
noncomputable abbrev zq28.E : V.Env := V.mkE V.tys [] [] [] [] [] []
theorem zq28.eq (x0 : TKeys) : V.evBody zq28.E zq28.con Tryz.f263 ((x0.1, x0.2) : List Int × Int) = zq28 x0 := by kernel_rfl
theorem zq28.ok : V.Valid Tryz.prog 263 zq28.con :=
  V.fo V.tab_nil Tryz.func263 (by kernel_rfl) (fun x y h => (show V.evBody zq28.E zq28.con Tryz.f263 x = _ from zq28.eq x).trans (V.cfl (by kernel_rfl) h))
noncomputable abbrev zq33.con : V.Con := ⟨(.cons (.int .i64) (.cons (.int .i64) .nil)), (.cons (.int .i64) .nil), fun (x : Int × Int) => zq33 x.1 x.2, [], [(false, 1), (false, 1)], [(false, 1)], [false], []⟩
noncomputable abbrev zq33.E : V.Env := V.mkE V.tys [(178, zq15.con)] [] [] [] [] []
theorem zq33.eq (x0 : Int) (x1 : Int) : V.evBody zq33.E zq33.con Tryz.f364 ((x0, x1) : Int × Int) = zq33 x0 x1 := by kernel_rfl
theorem zq33.ok : V.Valid Tryz.prog 364 zq33.con :=
  V.fo (V.tab_cons zq15.ok V.tab_nil) Tryz.func364 (by kernel_rfl) (fun x y h => (show V.evBody zq33.E zq33.con Tryz.f364 x = _ from zq33.eq x.1 x.2).trans (V.cfl (by kernel_rfl) h))
noncomputable abbrev zq12.con : V.Con := ⟨(.cons (.sl (.cons (.int .i64) .nil)) .nil), (.cons (.int .i64) .nil), fun (x : List Int) => zq12 x, [], [(false, 1)], [(false, 1)], [false], []⟩
noncomputable abbrev zq12.E : V.Env := V.mkE V.tys [(364, zq33.con)] [(6, [3, 6, 7, 8], [])] [] [] [] []
noncomputable abbrev zq12.kt (x0 : List Int) : V.Kt Int := V.ktOf zq12.E zq12.con Tryz.f262 ((x0) : List Int)
noncomputable abbrev zq12.s6 (x0 : List Int) (v6_0 : Int) (v6_2 : Int) (v6_3 : Int) : V.St := ⟨[(3, .v false [.val (.int .i64 v6_0)]), (6, .v false [.val (.sl (.cons (.int .i64) .nil) x0)]), (7, .v false [.val (.int .i64 v6_2)]), (8, .v false [.val (.int .i64 v6_3)])], []⟩
theorem zq12.r6 (x0 : List Int) (R : V.St → Option Int) (v6_0 : Int) (v6_2 : Int) (v6_3 : Int) : V.loopF zq12.E Tryz.f262.ntmps [1, 1, 0, 1, 0] [] (V.codeOf Tryz.f262) (zq12.kt x0) R (zq12.s6 x0 v6_0 v6_2 v6_3) = zq12.g6 x0 (fun v6_0 v6_2 v6_3 => R (zq12.s6 x0 v6_0 v6_2 v6_3)) v6_0 v6_2 v6_3 := by kernel_rfl
theorem zq12.e6 (x0 : List Int) : ∀ (n : Nat) (v6_0 : Int) (v6_2 : Int) (v6_3 : Int), V.loopN (V.loopF zq12.E Tryz.f262.ntmps [1, 1, 0, 1, 0] [] (V.codeOf Tryz.f262) (zq12.kt x0)) n (zq12.s6 x0 v6_0 v6_2 v6_3) = zq12.l6 x0 n v6_0 v6_2 v6_3 := by
  intro n
  induction n with
  | zero => intros; rw [V.loopN_z]; rfl
  | succ n ih =>
    intro v6_0 v6_2 v6_3
    rw [V.loopN_s, zq12.r6]
    simp only [ih]
    first | exact (zq12.u6 ..).symm | rfl
theorem zq12.v (x0 : List Int) : V.evBody zq12.E zq12.con Tryz.f262 ((x0) : List Int) = zq12.b x0 (fun v6_0 v6_2 v6_3 => V.loopN (V.loopF zq12.E Tryz.f262.ntmps [1, 1, 0, 1, 0] [] (V.codeOf Tryz.f262) (zq12.kt x0)) V.KK (zq12.s6 x0 v6_0 v6_2 v6_3)) := by kernel_rfl
theorem zq12.eq (x0 : List Int) : V.evBody zq12.E zq12.con Tryz.f262 ((x0) : List Int) = zq12 x0 := by
  rw [zq12.v]
  simp only [zq12.e6]
  rfl
theorem zq12.ok : V.Valid Tryz.prog 262 zq12.con :=
  V.fo (V.tab_cons zq33.ok V.tab_nil) Tryz.func262 (by kernel_rfl) (fun x y h => (show V.evBody zq12.E zq12.con Tryz.f262 x = _ from zq12.eq x).trans (V.cfl (by kernel_rfl) h))
noncomputable abbrev zq46.con : V.Con := ⟨(.cons (.sl (.cons (.int .i64) .nil)) (.cons (.int .i64) (.cons (.int .i64) .nil))), (.cons (.int .i64) .nil), fun (x : List Int × Int × Int) => zq46 (x.1, x.2.1) x.2.2, [], [(true, 2), (false, 1)], [(false, 1)], [false], []⟩
noncomputable abbrev zq46.E : V.Env := V.mkE V.tys [(262, zq12.con), (263, zq28.con)] [] [] [] [] []
theorem zq46.eq (x0 : TKeys) (x1 : Int) : V.evBody zq46.E zq46.con Tryz.f109 ((x0.1, x0.2, x1) : List Int × Int × Int) = zq46 x0 x1 := by kernel_rfl
theorem zq46.ok : V.Valid Tryz.prog 109 zq46.con :=
  V.fo (V.tab_cons zq12.ok (V.tab_cons zq28.ok V.tab_nil)) Tryz.func109 (by kernel_rfl) (fun x y h => (show V.evBody zq46.E zq46.con Tryz.f109 x = _ from zq46.eq (x.1, x.2.1) x.2.2).trans (V.cfl (by kernel_rfl) h))
noncomputable abbrev zq49.con : V.Con := ⟨(.cons .bool .nil), (.cons (.int .i64) .nil), fun (x : Bool) => zq49 x, [], [(false, 1)], [(false, 1)], [false], []⟩
noncomputable abbrev zq49.E : V.Env := V.mkE V.tys [] [] [] [] [] []
theorem zq49.eq (x0 : Bool) : V.evBody zq49.E zq49.con Tryz.f322 ((x0) : Bool) = zq49 x0 := by kernel_rfl
theorem zq49.ok : V.Valid Tryz.prog 322 zq49.con :=
  V.fo V.tab_nil Tryz.func322 (by kernel_rfl) (fun x y h => (show V.evBody zq49.E zq49.con Tryz.f322 x = _ from zq49.eq x).trans (V.cfl (by kernel_rfl) h))
noncomputable abbrev zq130.con : V.Con := ⟨(.cons (.sl (.cons (.int .i64) .nil)) (.cons (.int .i64) .nil)), (.cons (.sl (.cons (.int .i64) .nil)) .nil), fun (x : List Int × Int) => zq130 x.1 x.2, [], [(false, 1), (false, 1)], [(false, 1)], [true], [0]⟩
noncomputable abbrev zq130.E : V.Env := V.mkE V.tys [] [(7, [0, 1], [])] [] [] [] []
noncomputable abbrev zq130.kt (x0 : List Int) (x1 : Int) : V.Kt (List Int) := V.ktOf zq130.E zq130.con Tryz.f400 ((x0, x1) : List Int × Int)
noncomputable abbrev zq130.s7 (x1 : Int) : V.St := ⟨[(0, .v false [.nil0]), (1, .v false [.val (.int .i64 x1)])], []⟩
theorem zq130.r7 (x0 : List Int) (x1 : Int) : V.joinF zq130.E Tryz.f400.ntmps [1] [] (V.codeOf Tryz.f400) (zq130.kt x0 x1) (zq130.s7 x1) = zq130.g7 x1 := by kernel_rfl
theorem zq130.e7 (x0 : List Int) (x1 : Int) : V.jn (V.joinF zq130.E Tryz.f400.ntmps [1] [] (V.codeOf Tryz.f400) (zq130.kt x0 x1)) (zq130.s7 x1) = zq130.l7 x1 := by
  rw [V.jn_eq, zq130.r7]
  rfl
theorem zq130.v (x0 : List Int) (x1 : Int) : V.evBody zq130.E zq130.con Tryz.f400 ((x0, x1) : List Int × Int) = zq130.b x0 x1 (V.jn (V.joinF zq130.E Tryz.f400.ntmps [1] [] (V.codeOf Tryz.f400) (zq130.kt x0 x1)) (zq130.s7 x1)) := by kernel_rfl
theorem zq130.eq (x0 : List Int) (x1 : Int) : V.evBody zq130.E zq130.con Tryz.f400 ((x0, x1) : List Int × Int) = zq130 x0 x1 := by
  rw [zq130.v]
  simp only [zq130.e7]
  rfl
theorem zq130.ok : V.Valid Tryz.prog 400 zq130.con :=
  V.fo V.tab_nil Tryz.func400 (by kernel_rfl) (fun x y h => (show V.evBody zq130.E zq130.con Tryz.f400 x = _ from zq130.eq x.1 x.2).trans (V.cfl (by kernel_rfl) h))
noncomputable abbrev zq126.con : V.Con := ⟨(.cons (.sl (.cons (.sl (.cons (.int .i64) .nil)) .nil)) .nil), (.cons (.sl (.cons (.int .i64) .nil)) .nil), fun (x : List (List Int)) => zq126 x, [], [(false, 1)], [(false, 1)], [true], []⟩
noncomputable abbrev zq126.E : V.Env := V.mkE V.tys [(400, zq130.con)] [(6, [0, 3, 9, 10, 11], []), (22, [6, 25, 26, 27], [])] [] [] [] []
noncomputable abbrev zq126.kt (x0 : List (List Int)) : V.Kt (List Int) := V.ktOf zq126.E zq126.con Tryz.f321 ((x0) : List (List Int))
noncomputable abbrev zq126.s22 (x0 : List (List Int)) (v22_1 : Int) (v22_2 : Int) (v22_3 : List Int) : V.St := ⟨[(6, .v false [.ref 64000140800384]), (25, .v false [.val (.sl (.cons (.sl (.cons (.int .i64) .nil)) .nil) x0)]), (26, .v false [.val (.int .i64 v22_1)]), (27, .v false [.val (.int .i64 v22_2)])], [(64000140800384, .row (.cons (.int .i64) .nil) true v22_3)]⟩
noncomputable abbrev zq126.s6 (x0 : List (List Int)) (v6_1 : Int) (v6_3 : Int) (v6_4 : Int) : V.St := ⟨[(0, .v false [.val (.sl (.cons (.sl (.cons (.int .i64) .nil)) .nil) x0)]), (3, .v false [.val (.int .i64 v6_1)]), (9, .v false [.val (.sl (.cons (.sl (.cons (.int .i64) .nil)) .nil) x0)]), (10, .v false [.val (.int .i64 v6_3)]), (11, .v false [.val (.int .i64 v6_4)])], []⟩
theorem zq126.r22 (x0 : List (List Int)) (R : V.St → Option (List Int)) (v22_1 : Int) (v22_2 : Int) (v22_3 : List Int) : V.loopF zq126.E Tryz.f321.ntmps [1, 1, 1, 1, 0, 1, 0] [] (V.codeOf Tryz.f321) (zq126.kt x0) R (zq126.s22 x0 v22_1 v22_2 v22_3) = zq126.g22 x0 (fun v22_1 v22_2 v22_3 => R (zq126.s22 x0 v22_1 v22_2 v22_3)) v22_1 v22_2 v22_3 := by kernel_rfl
theorem zq126.e22 (x0 : List (List Int)) : ∀ (n : Nat) (v22_1 : Int) (v22_2 : Int) (v22_3 : List Int), V.loopN (V.loopF zq126.E Tryz.f321.ntmps [1, 1, 1, 1, 0, 1, 0] [] (V.codeOf Tryz.f321) (zq126.kt x0)) n (zq126.s22 x0 v22_1 v22_2 v22_3) = zq126.l22 x0 n v22_1 v22_2 v22_3 := by
  intro n
  induction n with
  | zero => intros; rw [V.loopN_z]; rfl
  | succ n ih =>
    intro v22_1 v22_2 v22_3
    rw [V.loopN_s, zq126.r22]
    simp only [ih]
    first | exact (zq126.u22 ..).symm | rfl
theorem zq126.r6 (x0 : List (List Int)) (R : V.St → Option (List Int)) (v6_1 : Int) (v6_3 : Int) (v6_4 : Int) : V.loopF zq126.E Tryz.f321.ntmps [1, 1, 0, 1, 0] [] (V.codeOf Tryz.f321) (zq126.kt x0) R (zq126.s6 x0 v6_1 v6_3 v6_4) = zq126.g6 x0 (fun v6_1 v6_3 v6_4 => R (zq126.s6 x0 v6_1 v6_3 v6_4)) (fun v22_1 v22_2 v22_3 => V.loopN (V.loopF zq126.E Tryz.f321.ntmps [1, 1, 1, 1, 0, 1, 0] [] (V.codeOf Tryz.f321) (zq126.kt x0)) V.KK (zq126.s22 x0 v22_1 v22_2 v22_3)) v6_1 v6_3 v6_4 := by kernel_rfl
theorem zq126.e6 (x0 : List (List Int)) : ∀ (n : Nat) (v6_1 : Int) (v6_3 : Int) (v6_4 : Int), V.loopN (V.loopF zq126.E Tryz.f321.ntmps [1, 1, 0, 1, 0] [] (V.codeOf Tryz.f321) (zq126.kt x0)) n (zq126.s6 x0 v6_1 v6_3 v6_4) = zq126.l6 x0 n v6_1 v6_3 v6_4 := by
  intro n
  induction n with
  | zero => intros; rw [V.loopN_z]; rfl
  | succ n ih =>
    intro v6_1 v6_3 v6_4
    rw [V.loopN_s, zq126.r6]
    simp only [zq126.e22, ih]
    first | exact (zq126.u6 ..).symm | rfl
theorem zq126.v (x0 : List (List Int)) : V.evBody zq126.E zq126.con Tryz.f321 ((x0) : List (List Int)) = zq126.b x0 (fun v6_1 v6_3 v6_4 => V.loopN (V.loopF zq126.E Tryz.f321.ntmps [1, 1, 0, 1, 0] [] (V.codeOf Tryz.f321) (zq126.kt x0)) V.KK (zq126.s6 x0 v6_1 v6_3 v6_4)) := by kernel_rfl
theorem zq126.eq (x0 : List (List Int)) : V.evBody zq126.E zq126.con Tryz.f321 ((x0) : List (List Int)) = zq126 x0 := by
  rw [zq126.v]
  simp only [zq126.e6]
  rfl
theorem zq126.ok : V.Valid Tryz.prog 321 zq126.con :=
  V.fo (V.tab_cons zq130.ok V.tab_nil) Tryz.func321 (by kernel_rfl) (fun x y h => (show V.evBody zq126.E zq126.con Tryz.f321 x = _ from zq126.eq x).trans (V.cfl (by kernel_rfl) h))
noncomputable abbrev zq14.con : V.Con := ⟨V.A2, (.cons (.sl (.cons (.int .i64) .nil)) .nil), fun (x : V.D2) => zq14 (V.p2_0 x), [], [(true, 16)], [(false, 1)], [true], []⟩
noncomputable abbrev zq14.E : V.Env := V.mkE V.tys [(263, zq28.con), (321, zq126.con), (322, zq49.con)] [] [(1, 33)] [] [] []
noncomputable abbrev zq14.kt (x0 : THead) : V.Kt (List Int) := V.ktOf zq14.E zq14.con Tryz.f188 (V.fl2 x0)
noncomputable abbrev zq14.s (x0 : THead) : V.St := ⟨[(0, .v true [.val (.int .i64 x0.1), .val (.int .i64 x0.2.1), .val (.int .i64 x0.2.2.1), .val (.int .i64 x0.2.2.2.1), .val (.int .i64 x0.2.2.2.2.1), .val (.int .i64 x0.2.2.2.2.2.1), .val (.int .i64 x0.2.2.2.2.2.2.1), .val (.int .i64 x0.2.2.2.2.2.2.2.1), .val (.sl (.cons (.int .i64) .nil) x0.2.2.2.2.2.2.2.2.1), .val (.int .i64 x0.2.2.2.2.2.2.2.2.2.1), .val (.sl (.cons (.int .i64) .nil) x0.2.2.2.2.2.2.2.2.2.2.1), .val (.int .i64 x0.2.2.2.2.2.2.2.2.2.2.2.1), .val (.int .i64 x0.2.2.2.2.2.2.2.2.2.2.2.2.1), .val (.sl (.cons (.int .i64) .nil) x0.2.2.2.2.2.2.2.2.2.2.2.2.2.1), .val (.int .i64 x0.2.2.2.2.2.2.2.2.2.2.2.2.2.2.1), .val (.bool x0.2.2.2.2.2.2.2.2.2.2.2.2.2.2.2)])], []⟩
theorem zq14.v0 (x0 : THead) : V.evBody zq14.E zq14.con Tryz.f188 (V.fl2 x0) = V.evC zq14.E Tryz.f188.ntmps (V.codeOf Tryz.f188) (zq14.kt x0) (zq14.s x0) := by kernel_rfl
theorem zq14.v (x0 : THead) : V.evC zq14.E Tryz.f188.ntmps (V.codeOf Tryz.f188) (zq14.kt x0) (zq14.s x0) = zq14 x0 := by kernel_rfl
theorem zq14.eq (x0 : THead) : V.evBody zq14.E zq14.con Tryz.f188 (V.fl2 x0) = zq14 x0 := (zq14.v0 x0).trans (zq14.v x0)
theorem zq14.ok : V.Valid Tryz.prog 188 zq14.con :=
  V.fo (V.tab_cons zq28.ok (V.tab_cons zq126.ok (V.tab_cons zq49.ok V.tab_nil))) Tryz.func188 (by kernel_rfl) (fun x y h => (show V.evBody zq14.E zq14.con Tryz.f188 x = _ from zq14.eq (V.p2_0 x)).trans (V.cfl (by kernel_rfl) h))
noncomputable abbrev zq27.con : V.Con := ⟨(.cons (.int .i64) (.cons (.sl (.cons (.int .i64) .nil)) .nil)), (.cons (.int .i64) .nil), fun (x : Int × List Int) => zq27 x.1 x.2, [], [(false, 1), (false, 1)], [(false, 1)], [false], []⟩
noncomputable abbrev zq27.E : V.Env := V.mkE V.tys [(262, zq12.con), (321, zq126.con)] [] [] [128320] [] []
theorem zq27.eq (x0 : Int) (x1 : List Int) : V.evBody zq27.E zq27.con Tryz.f327 ((x0, x1) : Int × List Int) = zq27 x0 x1 := by kernel_rfl
theorem zq27.ok : V.Valid Tryz.prog 327 zq27.con :=
  V.fo (V.tab_cons zq12.ok (V.tab_cons zq126.ok V.tab_nil)) Tryz.func327 (by kernel_rfl) (fun x y h => (show V.evBody zq27.E zq27.con Tryz.f327 x = _ from zq27.eq x.1 x.2).trans (V.cfl (by kernel_rfl) h))
noncomputable abbrev zq44.con : V.Con := ⟨(.cons (.int .i64) (.cons (.sl (.cons (.int .i64) .nil)) .nil)), (.cons (.int .i64) .nil), fun (x : Int × List Int) => zq44 x.1 x.2, [], [(false, 1), (false, 1)], [(false, 1)], [false], []⟩
noncomputable abbrev zq44.E : V.Env := V.mkE V.tys [(327, zq27.con)] [] [] [] [] []
theorem zq44.eq (x0 : Int) (x1 : List Int) : V.evBody zq44.E zq44.con Tryz.f197 ((x0, x1) : Int × List Int) = zq44 x0 x1 := by kernel_rfl
theorem zq44.ok : V.Valid Tryz.prog 197 zq44.con :=
  V.fo (V.tab_cons zq27.ok V.tab_nil) Tryz.func197 (by kernel_rfl) (fun x y h => (show V.evBody zq44.E zq44.con Tryz.f197 x = _ from zq44.eq x.1 x.2).trans (V.cfl (by kernel_rfl) h))
noncomputable abbrev zq24.con : V.Con := ⟨(.cons (.int .i64) (.cons (.int .i64) (.cons (.sl (.cons (.int .i64) .nil)) .nil))), (.cons .bool .nil), fun (x : Int × Int × List Int) => zq24 (x.1, x.2.1) x.2.2, [], [(true, 2), (false, 1)], [(false, 1)], [false], []⟩
noncomputable abbrev zq24.E : V.Env := V.mkE V.tys [(197, zq44.con), (207, zq58.con)] [] [(1, 10)] [] [] []
theorem zq24.eq (x0 : TSig) (x1 : List Int) : V.evBody zq24.E zq24.con Tryz.f270 ((x0.1, x0.2, x1) : Int × Int × List Int) = zq24 x0 x1 := by kernel_rfl
theorem zq24.ok : V.Valid Tryz.prog 270 zq24.con :=
  V.fo (V.tab_cons zq44.ok (V.tab_cons zq58.ok V.tab_nil)) Tryz.func270 (by kernel_rfl) (fun x y h => (show V.evBody zq24.E zq24.con Tryz.f270 x = _ from zq24.eq (x.1, x.2.1) x.2.2).trans (V.cfl (by kernel_rfl) h))
noncomputable abbrev zq6.con : V.Con := ⟨(.cons (.int .i64) (.cons (.int .i64) (.cons (.ptr (.cons (.int .i64) .nil)) (.cons (.ptr (.cons (.sl (.cons (.int .i64) .nil)) .nil)) .nil)))), (.cons .bool .nil), fun (x : Int × Int × Int × List Int) => zq6 (x.1, x.2.1) x.2.2.1 x.2.2.2, [], [(true, 2), (false, 1), (false, 1)], [(false, 1)], [false], []⟩
noncomputable abbrev zq6.E : V.Env := V.mkE V.tys [(270, zq24.con)] [] [] [] [] []
theorem zq6.eq (x0 : TSig) (x1 : Int) (x2 : List Int) : V.evBody zq6.E zq6.con Tryz.f335 ((x0.1, x0.2, x1, x2) : Int × Int × Int × List Int) = zq6 x0 x1 x2 := by kernel_rfl
theorem zq6.ok : V.Valid Tryz.prog 335 zq6.con :=
  V.fo (V.tab_cons zq24.ok V.tab_nil) Tryz.func335 (by kernel_rfl) (fun x y h => (show V.evBody zq6.E zq6.con Tryz.f335 x = _ from zq6.eq (x.1, x.2.1) x.2.2.1 x.2.2.2).trans (V.cfl (by kernel_rfl) h))
noncomputable abbrev zq132.con : V.Con := ⟨(.cons (.sl (.cons (.int .i64) (.cons (.int .i64) .nil))) (.cons (.fn 335 false .nil (.cons (.ptr (.cons (.int .i64) .nil)) (.cons (.ptr (.cons (.sl (.cons (.int .i64) .nil)) .nil)) .nil))) .nil)), (.cons (.int .i64) .nil), fun (x : List TSig × (Unit) × (Int × List Int)) => zq132 x.1 x.2, [], [(false, 1), (false, 1)], [(false, 1)], [false], []⟩
noncomputable abbrev zq132.E : V.Env := V.mkE V.tys [(335, zq6.con)] [(4, [0, 1, 7, 8], [])] [] [] [] []
noncomputable abbrev zq132.kt (x0 : List TSig) (x1 : (Unit) × (Int × List Int)) : V.Kt Int := V.ktOf zq132.E zq132.con Tryz.f402 ((x0, x1) : List TSig × (Unit) × (Int × List Int))
noncomputable abbrev zq132.s4 (x0 : List TSig) (x1 : (Unit) × (Int × List Int)) (v4_2 : Int) (v4_3 : Int) : V.St := ⟨[(0, .v false [.val (.sl (.cons (.int .i64) (.cons (.int .i64) .nil)) x0)]), (1, .v false [.val (.fn 335 false .nil (.cons (.ptr (.cons (.int .i64) .nil)) (.cons (.ptr (.cons (.sl (.cons (.int .i64) .nil)) .nil)) .nil)) () x1.2)]), (7, .v false [.val (.int .i64 v4_2)]), (8, .v false [.val (.int .i64 v4_3)])], []⟩
theorem zq132.r4 (x0 : List TSig) (x1 : (Unit) × (Int × List Int)) (R : V.St → Option Int) (v4_2 : Int) (v4_3 : Int) : V.loopF zq132.E Tryz.f402.ntmps [1, 0, 1, 0] [] (V.codeOf Tryz.f402) (zq132.kt x0 x1) R (zq132.s4 x0 x1 v4_2 v4_3) = zq132.g4 x0 x1 (fun v4_2 v4_3 => R (zq132.s4 x0 x1 v4_2 v4_3)) v4_2 v4_3 := by kernel_rfl
theorem zq132.e4 (x0 : List TSig) (x1 : (Unit) × (Int × List Int)) : ∀ (n : Nat) (v4_2 : Int) (v4_3 : Int), V.loopN (V.loopF zq132.E Tryz.f402.ntmps [1, 0, 1, 0] [] (V.codeOf Tryz.f402) (zq132.kt x0 x1)) n (zq132.s4 x0 x1 v4_2 v4_3) = zq132.l4 x0 x1 n v4_2 v4_3 := by
  intro n
  induction n with
  | zero => intros; rw [V.loopN_z]; rfl
  | succ n ih =>
    intro v4_2 v4_3
    rw [V.loopN_s, zq132.r4]
    simp only [ih]
    first | exact (zq132.u4 ..).symm | rfl
theorem zq132.v (x0 : List TSig) (x1 : (Unit) × (Int × List Int)) : V.evBody zq132.E zq132.con Tryz.f402 ((x0, x1) : List TSig × (Unit) × (Int × List Int)) = zq132.b x0 x1 (fun v4_2 v4_3 => V.loopN (V.loopF zq132.E Tryz.f402.ntmps [1, 0, 1, 0] [] (V.codeOf Tryz.f402) (zq132.kt x0 x1)) V.KK (zq132.s4 x0 x1 v4_2 v4_3)) := by kernel_rfl
theorem zq132.eq (x0 : List TSig) (x1 : (Unit) × (Int × List Int)) : V.evBody zq132.E zq132.con Tryz.f402 ((x0, x1) : List TSig × (Unit) × (Int × List Int)) = zq132 x0 x1 := by
  rw [zq132.v]
  simp only [zq132.e4]
  rfl
theorem zq132.ok : V.Valid Tryz.prog 402 zq132.con :=
  V.fo (V.tab_cons zq6.ok V.tab_nil) Tryz.func402 (by kernel_rfl) (fun x y h => (show V.evBody zq132.E zq132.con Tryz.f402 x = _ from zq132.eq x.1 x.2).trans (V.cfl (by kernel_rfl) h))
noncomputable abbrev zq127.con : V.Con := ⟨(.cons (.sl (.cons (.int .i64) (.cons (.int .i64) .nil))) (.cons (.fn 335 false .nil (.cons (.ptr (.cons (.int .i64) .nil)) (.cons (.ptr (.cons (.sl (.cons (.int .i64) .nil)) .nil)) .nil))) .nil)), (.cons .bool .nil), fun (x : List TSig × (Unit) × (Int × List Int)) => zq127 x.1 x.2, [], [(false, 1), (false, 1)], [(false, 1)], [false], []⟩
noncomputable abbrev zq127.E : V.Env := V.mkE V.tys [(402, zq132.con)] [] [] [] [] []
theorem zq127.eq (x0 : List TSig) (x1 : (Unit) × (Int × List Int)) : V.evBody zq127.E zq127.con Tryz.f334 ((x0, x1) : List TSig × (Unit) × (Int × List Int)) = zq127 x0 x1 := by kernel_rfl
theorem zq127.ok : V.Valid Tryz.prog 334 zq127.con :=
  V.fo (V.tab_cons zq132.ok V.tab_nil) Tryz.func334 (by kernel_rfl) (fun x y h => (show V.evBody zq127.E zq127.con Tryz.f334 x = _ from zq127.eq x.1 x.2).trans (V.cfl (by kernel_rfl) h))
noncomputable abbrev zq5.con : V.Con := ⟨(.cons (.sl (.cons (.int .i64) .nil)) (.cons (.int .i64) (.cons (.sl (.cons (.int .i64) .nil)) (.cons (.sl (.cons (.int .i64) (.cons (.int .i64) .nil))) .nil)))), (.cons (.int .i64) .nil), fun (x : List Int × Int × List Int × List TSig) => zq5 (x.1, x.2.1) x.2.2.1 x.2.2.2, [], [(true, 2), (false, 1), (false, 1)], [(false, 1)], [false], []⟩
noncomputable abbrev zq5.E : V.Env := V.mkE V.tys [(334, zq127.con)] [(6, [2, 4, 7, 11, 12, 13], [])] [] [] [] []
noncomputable abbrev zq5.kt (x0 : TKeys) (x1 : List Int) (x2 : List TSig) : V.Kt Int := V.ktOf zq5.E zq5.con Tryz.f212 ((x0.1, x0.2, x1, x2) : List Int × Int × List Int × List TSig)
noncomputable abbrev zq5.s6 (x0 : TKeys) (x1 : List Int) (x2 : List TSig) (v6_1 : Int) (v6_3 : Int) (v6_4 : Int) : V.St := ⟨[(2, .v false [.val (.sl (.cons (.int .i64) (.cons (.int .i64) .nil)) x2)]), (4, .v false [.ptr 64064 0]), (7, .v false [.val (.int .i64 v6_1)]), (11, .v false [.val (.sl (.cons (.int .i64) .nil) x0.1)]), (12, .v false [.val (.int .i64 v6_3)]), (13, .v false [.val (.int .i64 v6_4)])], [(64064, .box [.val (.sl (.cons (.int .i64) .nil) x1)])]⟩
theorem zq5.r6 (x0 : TKeys) (x1 : List Int) (x2 : List TSig) (R : V.St → Option Int) (v6_1 : Int) (v6_3 : Int) (v6_4 : Int) : V.loopF zq5.E Tryz.f212.ntmps [1, 1, 0, 1, 0] [] (V.codeOf Tryz.f212) (zq5.kt x0 x1 x2) R (zq5.s6 x0 x1 x2 v6_1 v6_3 v6_4) = zq5.g6 x0 x1 x2 (fun v6_1 v6_3 v6_4 => R (zq5.s6 x0 x1 x2 v6_1 v6_3 v6_4)) v6_1 v6_3 v6_4 := by kernel_rfl
theorem zq5.e6 (x0 : TKeys) (x1 : List Int) (x2 : List TSig) : ∀ (n : Nat) (v6_1 : Int) (v6_3 : Int) (v6_4 : Int), V.loopN (V.loopF zq5.E Tryz.f212.ntmps [1, 1, 0, 1, 0] [] (V.codeOf Tryz.f212) (zq5.kt x0 x1 x2)) n (zq5.s6 x0 x1 x2 v6_1 v6_3 v6_4) = zq5.l6 x0 x1 x2 n v6_1 v6_3 v6_4 := by
  intro n
  induction n with
  | zero => intros; rw [V.loopN_z]; rfl
  | succ n ih =>
    intro v6_1 v6_3 v6_4
    rw [V.loopN_s, zq5.r6]
    simp only [ih]
    first | exact (zq5.u6 ..).symm | rfl
theorem zq5.v (x0 : TKeys) (x1 : List Int) (x2 : List TSig) : V.evBody zq5.E zq5.con Tryz.f212 ((x0.1, x0.2, x1, x2) : List Int × Int × List Int × List TSig) = zq5.b x0 x1 x2 (fun v6_1 v6_3 v6_4 => V.loopN (V.loopF zq5.E Tryz.f212.ntmps [1, 1, 0, 1, 0] [] (V.codeOf Tryz.f212) (zq5.kt x0 x1 x2)) V.KK (zq5.s6 x0 x1 x2 v6_1 v6_3 v6_4)) := by kernel_rfl
theorem zq5.eq (x0 : TKeys) (x1 : List Int) (x2 : List TSig) : V.evBody zq5.E zq5.con Tryz.f212 ((x0.1, x0.2, x1, x2) : List Int × Int × List Int × List TSig) = zq5 x0 x1 x2 := by
  rw [zq5.v]
  simp only [zq5.e6]
  rfl
theorem zq5.ok : V.Valid Tryz.prog 212 zq5.con :=
  V.fo (V.tab_cons zq127.ok V.tab_nil) Tryz.func212 (by kernel_rfl) (fun x y h => (show V.evBody zq5.E zq5.con Tryz.f212 x = _ from zq5.eq (x.1, x.2.1) x.2.2.1 x.2.2.2).trans (V.cfl (by kernel_rfl) h))
noncomputable abbrev zq25.con : V.Con := ⟨(.cons (.sl (.cons (.int .i64) .nil)) (.cons (.int .i64) (.cons (.sl (.cons (.int .i64) .nil)) (.cons (.sl (.cons (.int .i64) (.cons (.int .i64) .nil))) .nil)))), (.cons .bool .nil), fun (x : List Int × Int × List Int × List TSig) => zq25 (x.1, x.2.1) x.2.2.1 x.2.2.2, [], [(true, 2), (false, 1), (false, 1)], [(false, 1)], [false], []⟩
noncomputable abbrev zq25.E : V.Env := V.mkE V.tys [(208, zq20.con), (212, zq5.con)] [] [(1, 9)] [] [] []
theorem zq25.eq (x0 : TKeys) (x1 : List Int) (x2 : List TSig) : V.evBody zq25.E zq25.con Tryz.f399 ((x0.1, x0.2, x1, x2) : List Int × Int × List Int × List TSig) = zq25 x0 x1 x2 := by kernel_rfl
theorem zq25.ok : V.Valid Tryz.prog 399 zq25.con :=
  V.fo (V.tab_cons zq20.ok (V.tab_cons zq5.ok V.tab_nil)) Tryz.func399 (by kernel_rfl) (fun x y h => (show V.evBody zq25.E zq25.con Tryz.f399 x = _ from zq25.eq (x.1, x.2.1) x.2.2.1 x.2.2.2).trans (V.cfl (by kernel_rfl) h))
noncomputable abbrev zq43.con : V.Con := ⟨V.A6, (.cons .bool .nil), fun (x : V.D6) => zq43 (V.p6_0 x) (V.p6_1 x), [], [(true, 17), (true, 2)], [(false, 1)], [false], []⟩
noncomputable abbrev zq43.E : V.Env := V.mkE V.tys [(188, zq14.con), (399, zq25.con)] [] [(1, 6)] [] [] []
noncomputable abbrev zq43.kt (x0 : TSigned) (x1 : TKeys) : V.Kt Bool := V.ktOf zq43.E zq43.con Tryz.f317 (V.fl6 x0 x1)
noncomputable abbrev zq43.s (x0 : TSigned) (x1 : TKeys) : V.St := ⟨[(0, .v true [.val (.int .i64 x0.1), .val (.int .i64 x0.2.1), .val (.int .i64 x0.2.2.1), .val (.int .i64 x0.2.2.2.1), .val (.int .i64 x0.2.2.2.2.1), .val (.int .i64 x0.2.2.2.2.2.1), .val (.int .i64 x0.2.2.2.2.2.2.1), .val (.int .i64 x0.2.2.2.2.2.2.2.1), .val (.sl (.cons (.int .i64) .nil) x0.2.2.2.2.2.2.2.2.1), .val (.int .i64 x0.2.2.2.2.2.2.2.2.2.1), .val (.sl (.cons (.int .i64) .nil) x0.2.2.2.2.2.2.2.2.2.2.1), .val (.int .i64 x0.2.2.2.2.2.2.2.2.2.2.2.1), .val (.int .i64 x0.2.2.2.2.2.2.2.2.2.2.2.2.1), .val (.sl (.cons (.int .i64) .nil) x0.2.2.2.2.2.2.2.2.2.2.2.2.2.1), .val (.int .i64 x0.2.2.2.2.2.2.2.2.2.2.2.2.2.2.1), .val (.bool x0.2.2.2.2.2.2.2.2.2.2.2.2.2.2.2.1), .val (.sl (.cons (.int .i64) (.cons (.int .i64) .nil)) x0.2.2.2.2.2.2.2.2.2.2.2.2.2.2.2.2)]), (1, .v true [.val (.sl (.cons (.int .i64) .nil) x1.1), .val (.int .i64 x1.2)])], []⟩
theorem zq43.v0 (x0 : TSigned) (x1 : TKeys) : V.evBody zq43.E zq43.con Tryz.f317 (V.fl6 x0 x1) = V.evC zq43.E Tryz.f317.ntmps (V.codeOf Tryz.f317) (zq43.kt x0 x1) (zq43.s x0 x1) := by kernel_rfl
theorem zq43.v (x0 : TSigned) (x1 : TKeys) : V.evC zq43.E Tryz.f317.ntmps (V.codeOf Tryz.f317) (zq43.kt x0 x1) (zq43.s x0 x1) = zq43 x0 x1 := by kernel_rfl
theorem zq43.eq (x0 : TSigned) (x1 : TKeys) : V.evBody zq43.E zq43.con Tryz.f317 (V.fl6 x0 x1) = zq43 x0 x1 := (zq43.v0 x0 x1).trans (zq43.v x0 x1)
theorem zq43.ok : V.Valid Tryz.prog 317 zq43.con :=
  V.fo (V.tab_cons zq14.ok (V.tab_cons zq25.ok V.tab_nil)) Tryz.func317 (by kernel_rfl) (fun x y h => (show V.evBody zq43.E zq43.con Tryz.f317 x = _ from zq43.eq (V.p6_0 x) (V.p6_1 x)).trans (V.cfl (by kernel_rfl) h))
noncomputable abbrev zq18.con : V.Con := ⟨V.A3, (.cons .bool .nil), fun (x : V.D3) => zq18 (V.p3_0 x), [], [(true, 17)], [(false, 1)], [false], []⟩
noncomputable abbrev zq18.E : V.Env := V.mkE V.tys [(109, zq46.con), (306, zq19.con), (317, zq43.con)] [] [(2, 31)] [] [] []
noncomputable abbrev zq18.kt (x0 : TSigned) : V.Kt Bool := V.ktOf zq18.E zq18.con Tryz.f180 (V.fl3 x0)
noncomputable abbrev zq18.s (x0 : TSigned) : V.St := ⟨[(0, .v true [.val (.int .i64 x0.1), .val (.int .i64 x0.2.1), .val (.int .i64 x0.2.2.1), .val (.int .i64 x0.2.2.2.1), .val (.int .i64 x0.2.2.2.2.1), .val (.int .i64 x0.2.2.2.2.2.1), .val (.int .i64 x0.2.2.2.2.2.2.1), .val (.int .i64 x0.2.2.2.2.2.2.2.1), .val (.sl (.cons (.int .i64) .nil) x0.2.2.2.2.2.2.2.2.1), .val (.int .i64 x0.2.2.2.2.2.2.2.2.2.1), .val (.sl (.cons (.int .i64) .nil) x0.2.2.2.2.2.2.2.2.2.2.1), .val (.int .i64 x0.2.2.2.2.2.2.2.2.2.2.2.1), .val (.int .i64 x0.2.2.2.2.2.2.2.2.2.2.2.2.1), .val (.sl (.cons (.int .i64) .nil) x0.2.2.2.2.2.2.2.2.2.2.2.2.2.1), .val (.int .i64 x0.2.2.2.2.2.2.2.2.2.2.2.2.2.2.1), .val (.bool x0.2.2.2.2.2.2.2.2.2.2.2.2.2.2.2.1), .val (.sl (.cons (.int .i64) (.cons (.int .i64) .nil)) x0.2.2.2.2.2.2.2.2.2.2.2.2.2.2.2.2)])], []⟩
theorem zq18.v0 (x0 : TSigned) : V.evBody zq18.E zq18.con Tryz.f180 (V.fl3 x0) = V.evC zq18.E Tryz.f180.ntmps (V.codeOf Tryz.f180) (zq18.kt x0) (zq18.s x0) := by kernel_rfl
theorem zq18.v (x0 : TSigned) : V.evC zq18.E Tryz.f180.ntmps (V.codeOf Tryz.f180) (zq18.kt x0) (zq18.s x0) = zq18 x0 := by kernel_rfl
theorem zq18.eq (x0 : TSigned) : V.evBody zq18.E zq18.con Tryz.f180 (V.fl3 x0) = zq18 x0 := (zq18.v0 x0).trans (zq18.v x0)
theorem zq18.ok : V.Valid Tryz.prog 180 zq18.con :=
  V.fo (V.tab_cons zq46.ok (V.tab_cons zq19.ok (V.tab_cons zq43.ok V.tab_nil))) Tryz.func180 (by kernel_rfl) (fun x y h => (show V.evBody zq18.E zq18.con Tryz.f180 x = _ from zq18.eq (V.p3_0 x)).trans (V.cfl (by kernel_rfl) h))
noncomputable abbrev zq13.con : V.Con := ⟨V.A2, (.cons (.int .i64) .nil), fun (x : V.D2) => zq13 (V.p2_0 x), [], [(true, 16)], [(false, 1)], [false], []⟩
noncomputable abbrev zq13.E : V.Env := V.mkE V.tys [(188, zq14.con), (262, zq12.con)] [] [] [] [] []
noncomputable abbrev zq13.kt (x0 : THead) : V.Kt Int := V.ktOf zq13.E zq13.con Tryz.f215 (V.fl2 x0)
noncomputable abbrev zq13.s (x0 : THead) : V.St := ⟨[(0, .v true [.val (.int .i64 x0.1), .val (.int .i64 x0.2.1), .val (.int .i64 x0.2.2.1), .val (.int .i64 x0.2.2.2.1), .val (.int .i64 x0.2.2.2.2.1), .val (.int .i64 x0.2.2.2.2.2.1), .val (.int .i64 x0.2.2.2.2.2.2.1), .val (.int .i64 x0.2.2.2.2.2.2.2.1), .val (.sl (.cons (.int .i64) .nil) x0.2.2.2.2.2.2.2.2.1), .val (.int .i64 x0.2.2.2.2.2.2.2.2.2.1), .val (.sl (.cons (.int .i64) .nil) x0.2.2.2.2.2.2.2.2.2.2.1), .val (.int .i64 x0.2.2.2.2.2.2.2.2.2.2.2.1), .val (.int .i64 x0.2.2.2.2.2.2.2.2.2.2.2.2.1), .val (.sl (.cons (.int .i64) .nil) x0.2.2.2.2.2.2.2.2.2.2.2.2.2.1), .val (.int .i64 x0.2.2.2.2.2.2.2.2.2.2.2.2.2.2.1), .val (.bool x0.2.2.2.2.2.2.2.2.2.2.2.2.2.2.2)])], []⟩
theorem zq13.v0 (x0 : THead) : V.evBody zq13.E zq13.con Tryz.f215 (V.fl2 x0) = V.evC zq13.E Tryz.f215.ntmps (V.codeOf Tryz.f215) (zq13.kt x0) (zq13.s x0) := by kernel_rfl
theorem zq13.v (x0 : THead) : V.evC zq13.E Tryz.f215.ntmps (V.codeOf Tryz.f215) (zq13.kt x0) (zq13.s x0) = zq13 x0 := by kernel_rfl
theorem zq13.eq (x0 : THead) : V.evBody zq13.E zq13.con Tryz.f215 (V.fl2 x0) = zq13 x0 := (zq13.v0 x0).trans (zq13.v x0)
theorem zq13.ok : V.Valid Tryz.prog 215 zq13.con :=
  V.fo (V.tab_cons zq14.ok (V.tab_cons zq12.ok V.tab_nil)) Tryz.func215 (by kernel_rfl) (fun x y h => (show V.evBody zq13.E zq13.con Tryz.f215 x = _ from zq13.eq (V.p2_0 x)).trans (V.cfl (by kernel_rfl) h))
noncomputable abbrev zq60.con : V.Con := ⟨V.A4, (.cons .bool .nil), fun (x : V.D4) => zq60 (V.p4_0 x) (V.p4_1 x), [], [(true, 16), (true, 16)], [(false, 1)], [false], []⟩
noncomputable abbrev zq60.E : V.Env := V.mkE V.tys [(215, zq13.con)] [] [(1, 25)] [] [] []
noncomputable abbrev zq60.kt (x0 : THead) (x1 : THead) : V.Kt Bool := V.ktOf zq60.E zq60.con Tryz.f307 (V.fl4 x0 x1)
noncomputable abbrev zq60.s (x0 : THead) (x1 : THead) : V.St := ⟨[(0, .v true [.val (.int .i64 x0.1), .val (.int .i64 x0.2.1), .val (.int .i64 x0.2.2.1), .val (.int .i64 x0.2.2.2.1), .val (.int .i64 x0.2.2.2.2.1), .val (.int .i64 x0.2.2.2.2.2.1), .val (.int .i64 x0.2.2.2.2.2.2.1), .val (.int .i64 x0.2.2.2.2.2.2.2.1), .val (.sl (.cons (.int .i64) .nil) x0.2.2.2.2.2.2.2.2.1), .val (.int .i64 x0.2.2.2.2.2.2.2.2.2.1), .val (.sl (.cons (.int .i64) .nil) x0.2.2.2.2.2.2.2.2.2.2.1), .val (.int .i64 x0.2.2.2.2.2.2.2.2.2.2.2.1), .val (.int .i64 x0.2.2.2.2.2.2.2.2.2.2.2.2.1), .val (.sl (.cons (.int .i64) .nil) x0.2.2.2.2.2.2.2.2.2.2.2.2.2.1), .val (.int .i64 x0.2.2.2.2.2.2.2.2.2.2.2.2.2.2.1), .val (.bool x0.2.2.2.2.2.2.2.2.2.2.2.2.2.2.2)]), (1, .v true [.val (.int .i64 x1.1), .val (.int .i64 x1.2.1), .val (.int .i64 x1.2.2.1), .val (.int .i64 x1.2.2.2.1), .val (.int .i64 x1.2.2.2.2.1), .val (.int .i64 x1.2.2.2.2.2.1), .val (.int .i64 x1.2.2.2.2.2.2.1), .val (.int .i64 x1.2.2.2.2.2.2.2.1), .val (.sl (.cons (.int .i64) .nil) x1.2.2.2.2.2.2.2.2.1), .val (.int .i64 x1.2.2.2.2.2.2.2.2.2.1), .val (.sl (.cons (.int .i64) .nil) x1.2.2.2.2.2.2.2.2.2.2.1), .val (.int .i64 x1.2.2.2.2.2.2.2.2.2.2.2.1), .val (.int .i64 x1.2.2.2.2.2.2.2.2.2.2.2.2.1), .val (.sl (.cons (.int .i64) .nil) x1.2.2.2.2.2.2.2.2.2.2.2.2.2.1), .val (.int .i64 x1.2.2.2.2.2.2.2.2.2.2.2.2.2.2.1), .val (.bool x1.2.2.2.2.2.2.2.2.2.2.2.2.2.2.2)])], []⟩
theorem zq60.v0 (x0 : THead) (x1 : THead) : V.evBody zq60.E zq60.con Tryz.f307 (V.fl4 x0 x1) = V.evC zq60.E Tryz.f307.ntmps (V.codeOf Tryz.f307) (zq60.kt x0 x1) (zq60.s x0 x1) := by kernel_rfl
theorem zq60.v (x0 : THead) (x1 : THead) : V.evC zq60.E Tryz.f307.ntmps (V.codeOf Tryz.f307) (zq60.kt x0 x1) (zq60.s x0 x1) = zq60 x0 x1 := by kernel_rfl
theorem zq60.eq (x0 : THead) (x1 : THead) : V.evBody zq60.E zq60.con Tryz.f307 (V.fl4 x0 x1) = zq60 x0 x1 := (zq60.v0 x0 x1).trans (zq60.v x0 x1)
theorem zq60.ok : V.Valid Tryz.prog 307 zq60.con :=
  V.fo (V.tab_cons zq13.ok V.tab_nil) Tryz.func307 (by kernel_rfl) (fun x y h => (show V.evBody zq60.E zq60.con Tryz.f307 x = _ from zq60.eq (V.p4_0 x) (V.p4_1 x)).trans (V.cfl (by kernel_rfl) h))
noncomputable abbrev zq65.con : V.Con := ⟨V.A5, (.cons (.int .i64) .nil), fun (x : V.D5) => zq65 (V.p5_0 x) (V.p5_1 x), [], [(true, 16), (true, 17)], [(false, 1)], [false], []⟩
noncomputable abbrev zq65.E : V.Env := V.mkE V.tys [(317, zq43.con)] [] [] [] [] []
noncomputable abbrev zq65.kt (x0 : THead) (x1 : TSigned) : V.Kt Int := V.ktOf zq65.E zq65.con Tryz.f308 (V.fl5 x0 x1)
noncomputable abbrev zq65.s (x0 : THead) (x1 : TSigned) : V.St := ⟨[(0, .v true [.val (.int .i64 x0.1), .val (.int .i64 x0.2.1), .val (.int .i64 x0.2.2.1), .val (.int .i64 x0.2.2.2.1), .val (.int .i64 x0.2.2.2.2.1), .val (.int .i64 x0.2.2.2.2.2.1), .val (.int .i64 x0.2.2.2.2.2.2.1), .val (.int .i64 x0.2.2.2.2.2.2.2.1), .val (.sl (.cons (.int .i64) .nil) x0.2.2.2.2.2.2.2.2.1), .val (.int .i64 x0.2.2.2.2.2.2.2.2.2.1), .val (.sl (.cons (.int .i64) .nil) x0.2.2.2.2.2.2.2.2.2.2.1), .val (.int .i64 x0.2.2.2.2.2.2.2.2.2.2.2.1), .val (.int .i64 x0.2.2.2.2.2.2.2.2.2.2.2.2.1), .val (.sl (.cons (.int .i64) .nil) x0.2.2.2.2.2.2.2.2.2.2.2.2.2.1), .val (.int .i64 x0.2.2.2.2.2.2.2.2.2.2.2.2.2.2.1), .val (.bool x0.2.2.2.2.2.2.2.2.2.2.2.2.2.2.2)]), (1, .v true [.val (.int .i64 x1.1), .val (.int .i64 x1.2.1), .val (.int .i64 x1.2.2.1), .val (.int .i64 x1.2.2.2.1), .val (.int .i64 x1.2.2.2.2.1), .val (.int .i64 x1.2.2.2.2.2.1), .val (.int .i64 x1.2.2.2.2.2.2.1), .val (.int .i64 x1.2.2.2.2.2.2.2.1), .val (.sl (.cons (.int .i64) .nil) x1.2.2.2.2.2.2.2.2.1), .val (.int .i64 x1.2.2.2.2.2.2.2.2.2.1), .val (.sl (.cons (.int .i64) .nil) x1.2.2.2.2.2.2.2.2.2.2.1), .val (.int .i64 x1.2.2.2.2.2.2.2.2.2.2.2.1), .val (.int .i64 x1.2.2.2.2.2.2.2.2.2.2.2.2.1), .val (.sl (.cons (.int .i64) .nil) x1.2.2.2.2.2.2.2.2.2.2.2.2.2.1), .val (.int .i64 x1.2.2.2.2.2.2.2.2.2.2.2.2.2.2.1), .val (.bool x1.2.2.2.2.2.2.2.2.2.2.2.2.2.2.2.1), .val (.sl (.cons (.int .i64) (.cons (.int .i64) .nil)) x1.2.2.2.2.2.2.2.2.2.2.2.2.2.2.2.2)])], []⟩
theorem zq65.v0 (x0 : THead) (x1 : TSigned) : V.evBody zq65.E zq65.con Tryz.f308 (V.fl5 x0 x1) = V.evC zq65.E Tryz.f308.ntmps (V.codeOf Tryz.f308) (zq65.kt x0 x1) (zq65.s x0 x1) := by kernel_rfl
theorem zq65.v (x0 : THead) (x1 : TSigned) : V.evC zq65.E Tryz.f308.ntmps (V.codeOf Tryz.f308) (zq65.kt x0 x1) (zq65.s x0 x1) = zq65 x0 x1 := by kernel_rfl
theorem zq65.eq (x0 : THead) (x1 : TSigned) : V.evBody zq65.E zq65.con Tryz.f308 (V.fl5 x0 x1) = zq65 x0 x1 := (zq65.v0 x0 x1).trans (zq65.v x0 x1)
theorem zq65.ok : V.Valid Tryz.prog 308 zq65.con :=
  V.fo (V.tab_cons zq43.ok V.tab_nil) Tryz.func308 (by kernel_rfl) (fun x y h => (show V.evBody zq65.E zq65.con Tryz.f308 x = _ from zq65.eq (V.p5_0 x) (V.p5_1 x)).trans (V.cfl (by kernel_rfl) h))
noncomputable abbrev zq129.con : V.Con := ⟨(.cons (.sl (.cons (.int .i64) .nil)) (.cons (.sl (.cons (.int .i64) .nil)) .nil)), (.cons .bool .nil), fun (x : List Int × List Int) => zq129 x.1 x.2, [], [(false, 1), (false, 1)], [(false, 1)], [false], []⟩
noncomputable abbrev zq129.E : V.Env := V.mkE V.tys [] [(8, [0, 1, 12, 13], [])] [(6, 8)] [] [] []
noncomputable abbrev zq129.kt (x0 : List Int) (x1 : List Int) : V.Kt Bool := V.ktOf zq129.E zq129.con Tryz.f187 ((x0, x1) : List Int × List Int)
noncomputable abbrev zq129.s8 (x0 : List Int) (x1 : List Int) (v8_2 : Int) (v8_3 : Int) : V.St := ⟨[(0, .v false [.val (.sl (.cons (.int .i64) .nil) x0)]), (1, .v false [.val (.sl (.cons (.int .i64) .nil) x1)]), (12, .v false [.val (.int .i64 v8_2)]), (13, .v false [.val (.int .i64 v8_3)])], []⟩
theorem zq129.r8 (x0 : List Int) (x1 : List Int) (R : V.St → Option Bool) (v8_2 : Int) (v8_3 : Int) : V.loopF zq129.E Tryz.f187.ntmps [1, 1, 0, 1, 0] [] (V.codeOf Tryz.f187) (zq129.kt x0 x1) R (zq129.s8 x0 x1 v8_2 v8_3) = zq129.g8 x0 x1 (fun v8_2 v8_3 => R (zq129.s8 x0 x1 v8_2 v8_3)) v8_2 v8_3 := by kernel_rfl
theorem zq129.e8 (x0 : List Int) (x1 : List Int) : ∀ (n : Nat) (v8_2 : Int) (v8_3 : Int), V.loopN (V.loopF zq129.E Tryz.f187.ntmps [1, 1, 0, 1, 0] [] (V.codeOf Tryz.f187) (zq129.kt x0 x1)) n (zq129.s8 x0 x1 v8_2 v8_3) = zq129.l8 x0 x1 n v8_2 v8_3 := by
  intro n
  induction n with
  | zero => intros; rw [V.loopN_z]; rfl
  | succ n ih =>
    intro v8_2 v8_3
    rw [V.loopN_s, zq129.r8]
    simp only [ih]
    first | exact (zq129.u8 ..).symm | rfl
theorem zq129.v (x0 : List Int) (x1 : List Int) : V.evBody zq129.E zq129.con Tryz.f187 ((x0, x1) : List Int × List Int) = zq129.b x0 x1 (fun v8_2 v8_3 => V.loopN (V.loopF zq129.E Tryz.f187.ntmps [1, 1, 0, 1, 0] [] (V.codeOf Tryz.f187) (zq129.kt x0 x1)) V.KK (zq129.s8 x0 x1 v8_2 v8_3)) := by kernel_rfl
theorem zq129.eq (x0 : List Int) (x1 : List Int) : V.evBody zq129.E zq129.con Tryz.f187 ((x0, x1) : List Int × List Int) = zq129 x0 x1 := by
  rw [zq129.v]
  simp only [zq129.e8]
  rfl
theorem zq129.ok : V.Valid Tryz.prog 187 zq129.con :=
  V.fo V.tab_nil Tryz.func187 (by kernel_rfl) (fun x y h => (show V.evBody zq129.E zq129.con Tryz.f187 x = _ from zq129.eq x.1 x.2).trans (V.cfl (by kernel_rfl) h))
noncomputable abbrev zq8.con : V.Con := ⟨(.cons (.sl (.cons (.int .i64) .nil)) (.cons (.int .i64) (.cons (.sl (.cons (.int .i64) .nil)) (.cons (.int .i64) .nil)))), (.cons .bool .nil), fun (x : List Int × Int × List Int × Int) => zq8 (x.1, x.2.1) x.2.2, [], [(true, 2), (true, 2)], [(false, 1)], [false], []⟩
noncomputable abbrev zq8.E : V.Env := V.mkE V.tys [(187, zq129.con)] [] [] [] [] []
theorem zq8.eq (x0 : TKeys) (x1 : TKeys) : V.evBody zq8.E zq8.con Tryz.f48 ((x0.1, x0.2, x1.1, x1.2) : List Int × Int × List Int × Int) = zq8 x0 x1 := by kernel_rfl
theorem zq8.ok : V.Valid Tryz.prog 48 zq8.con :=
  V.fo (V.tab_cons zq129.ok V.tab_nil) Tryz.func48 (by kernel_rfl) (fun x y h => (show V.evBody zq8.E zq8.con Tryz.f48 x = _ from zq8.eq (x.1, x.2.1) x.2.2).trans (V.cfl (by kernel_rfl) h))
noncomputable abbrev zq42.con : V.Con := ⟨V.A4, (.cons .bool .nil), fun (x : V.D4) => zq42 (V.p4_0 x) (V.p4_1 x), [], [(true, 16), (true, 16)], [(false, 1)], [false], []⟩
noncomputable abbrev zq42.E : V.Env := V.mkE V.tys [] [] [] [] [] []
noncomputable abbrev zq42.kt (x0 : THead) (x1 : THead) : V.Kt Bool := V.ktOf zq42.E zq42.con Tryz.f396 (V.fl4 x0 x1)
noncomputable abbrev zq42.s (x0 : THead) (x1 : THead) : V.St := ⟨[(0, .v true [.val (.int .i64 x0.1), .val (.int .i64 x0.2.1), .val (.int .i64 x0.2.2.1), .val (.int .i64 x0.2.2.2.1), .val (.int .i64 x0.2.2.2.2.1), .val (.int .i64 x0.2.2.2.2.2.1), .val (.int .i64 x0.2.2.2.2.2.2.1), .val (.int .i64 x0.2.2.2.2.2.2.2.1), .val (.sl (.cons (.int .i64) .nil) x0.2.2.2.2.2.2.2.2.1), .val (.int .i64 x0.2.2.2.2.2.2.2.2.2.1), .val (.sl (.cons (.int .i64) .nil) x0.2.2.2.2.2.2.2.2.2.2.1), .val (.int .i64 x0.2.2.2.2.2.2.2.2.2.2.2.1), .val (.int .i64 x0.2.2.2.2.2.2.2.2.2.2.2.2.1), .val (.sl (.cons (.int .i64) .nil) x0.2.2.2.2.2.2.2.2.2.2.2.2.2.1), .val (.int .i64 x0.2.2.2.2.2.2.2.2.2.2.2.2.2.2.1), .val (.bool x0.2.2.2.2.2.2.2.2.2.2.2.2.2.2.2)]), (1, .v true [.val (.int .i64 x1.1), .val (.int .i64 x1.2.1), .val (.int .i64 x1.2.2.1), .val (.int .i64 x1.2.2.2.1), .val (.int .i64 x1.2.2.2.2.1), .val (.int .i64 x1.2.2.2.2.2.1), .val (.int .i64 x1.2.2.2.2.2.2.1), .val (.int .i64 x1.2.2.2.2.2.2.2.1), .val (.sl (.cons (.int .i64) .nil) x1.2.2.2.2.2.2.2.2.1), .val (.int .i64 x1.2.2.2.2.2.2.2.2.2.1), .val (.sl (.cons (.int .i64) .nil) x1.2.2.2.2.2.2.2.2.2.2.1), .val (.int .i64 x1.2.2.2.2.2.2.2.2.2.2.2.1), .val (.int .i64 x1.2.2.2.2.2.2.2.2.2.2.2.2.1), .val (.sl (.cons (.int .i64) .nil) x1.2.2.2.2.2.2.2.2.2.2.2.2.2.1), .val (.int .i64 x1.2.2.2.2.2.2.2.2.2.2.2.2.2.2.1), .val (.bool x1.2.2.2.2.2.2.2.2.2.2.2.2.2.2.2)])], []⟩
theorem zq42.v0 (x0 : THead) (x1 : THead) : V.evBody zq42.E zq42.con Tryz.f396 (V.fl4 x0 x1) = V.evC zq42.E Tryz.f396.ntmps (V.codeOf Tryz.f396) (zq42.kt x0 x1) (zq42.s x0 x1) := by kernel_rfl
theorem zq42.v (x0 : THead) (x1 : THead) : V.evC zq42.E Tryz.f396.ntmps (V.codeOf Tryz.f396) (zq42.kt x0 x1) (zq42.s x0 x1) = zq42 x0 x1 := by kernel_rfl
theorem zq42.eq (x0 : THead) (x1 : THead) : V.evBody zq42.E zq42.con Tryz.f396 (V.fl4 x0 x1) = zq42 x0 x1 := (zq42.v0 x0 x1).trans (zq42.v x0 x1)
theorem zq42.ok : V.Valid Tryz.prog 396 zq42.con :=
  V.fo V.tab_nil Tryz.func396 (by kernel_rfl) (fun x y h => (show V.evBody zq42.E zq42.con Tryz.f396 x = _ from zq42.eq (V.p4_0 x) (V.p4_1 x)).trans (V.cfl (by kernel_rfl) h))
noncomputable abbrev zq56.con : V.Con := ⟨V.A5, (.cons (.int .i64) .nil), fun (x : V.D5) => zq56 (V.p5_0 x) (V.p5_1 x), [], [(true, 16), (true, 17)], [(false, 1)], [false], []⟩
noncomputable abbrev zq56.E : V.Env := V.mkE V.tys [(48, zq8.con), (226, zq35.con), (317, zq43.con), (396, zq42.con)] [(11, [2, 3, 5, 11], []), (15, [2, 3, 25], [])] [] [] [] []
noncomputable abbrev zq56.kt (x0 : THead) (x1 : TSigned) : V.Kt Int := V.ktOf zq56.E zq56.con Tryz.f309 (V.fl5 x0 x1)
noncomputable abbrev zq56.s15 (x0 : THead) (x1 : TSigned) (v15_0 : Bool) : V.St := ⟨[(2, .v false [.ptr 64000 0]), (3, .v false [.ptr 64064 0]), (25, .v false [.val (.bool v15_0)])], [(64000, .box [.val (.int .i64 x0.1), .val (.int .i64 x0.2.1), .val (.int .i64 x0.2.2.1), .val (.int .i64 x0.2.2.2.1), .val (.int .i64 x0.2.2.2.2.1), .val (.int .i64 x0.2.2.2.2.2.1), .val (.int .i64 x0.2.2.2.2.2.2.1), .val (.int .i64 x0.2.2.2.2.2.2.2.1), .val (.sl (.cons (.int .i64) .nil) x0.2.2.2.2.2.2.2.2.1), .val (.int .i64 x0.2.2.2.2.2.2.2.2.2.1), .val (.sl (.cons (.int .i64) .nil) x0.2.2.2.2.2.2.2.2.2.2.1), .val (.int .i64 x0.2.2.2.2.2.2.2.2.2.2.2.1), .val (.int .i64 x0.2.2.2.2.2.2.2.2.2.2.2.2.1), .val (.sl (.cons (.int .i64) .nil) x0.2.2.2.2.2.2.2.2.2.2.2.2.2.1), .val (.int .i64 x0.2.2.2.2.2.2.2.2.2.2.2.2.2.2.1), .val (.bool x0.2.2.2.2.2.2.2.2.2.2.2.2.2.2.2)]), (64064, .box [.val (.int .i64 x1.1), .val (.int .i64 x1.2.1), .val (.int .i64 x1.2.2.1), .val (.int .i64 x1.2.2.2.1), .val (.int .i64 x1.2.2.2.2.1), .val (.int .i64 x1.2.2.2.2.2.1), .val (.int .i64 x1.2.2.2.2.2.2.1), .val (.int .i64 x1.2.2.2.2.2.2.2.1), .val (.sl (.cons (.int .i64) .nil) x1.2.2.2.2.2.2.2.2.1), .val (.int .i64 x1.2.2.2.2.2.2.2.2.2.1), .val (.sl (.cons (.int .i64) .nil) x1.2.2.2.2.2.2.2.2.2.2.1), .val (.int .i64 x1.2.2.2.2.2.2.2.2.2.2.2.1), .val (.int .i64 x1.2.2.2.2.2.2.2.2.2.2.2.2.1), .val (.sl (.cons (.int .i64) .nil) x1.2.2.2.2.2.2.2.2.2.2.2.2.2.1), .val (.int .i64 x1.2.2.2.2.2.2.2.2.2.2.2.2.2.2.1), .val (.bool x1.2.2.2.2.2.2.2.2.2.2.2.2.2.2.2.1), .val (.sl (.cons (.int .i64) (.cons (.int .i64) .nil)) x1.2.2.2.2.2.2.2.2.2.2.2.2.2.2.2.2)])]⟩
noncomputable abbrev zq56.s11 (x0 : THead) (x1 : TSigned) (v11_0 : Bool) : V.St := ⟨[(2, .v false [.ptr 64000 0]), (3, .v false [.ptr 64064 0]), (5, .v false [.ptr 128128 0]), (11, .v false [.val (.bool v11_0)])], [(64000, .box [.val (.int .i64 x0.1), .val (.int .i64 x0.2.1), .val (.int .i64 x0.2.2.1), .val (.int .i64 x0.2.2.2.1), .val (.int .i64 x0.2.2.2.2.1), .val (.int .i64 x0.2.2.2.2.2.1), .val (.int .i64 x0.2.2.2.2.2.2.1), .val (.int .i64 x0.2.2.2.2.2.2.2.1), .val (.sl (.cons (.int .i64) .nil) x0.2.2.2.2.2.2.2.2.1), .val (.int .i64 x0.2.2.2.2.2.2.2.2.2.1), .val (.sl (.cons (.int .i64) .nil) x0.2.2.2.2.2.2.2.2.2.2.1), .val (.int .i64 x0.2.2.2.2.2.2.2.2.2.2.2.1), .val (.int .i64 x0.2.2.2.2.2.2.2.2.2.2.2.2.1), .val (.sl (.cons (.int .i64) .nil) x0.2.2.2.2.2.2.2.2.2.2.2.2.2.1), .val (.int .i64 x0.2.2.2.2.2.2.2.2.2.2.2.2.2.2.1), .val (.bool x0.2.2.2.2.2.2.2.2.2.2.2.2.2.2.2)]), (64064, .box [.val (.int .i64 x1.1), .val (.int .i64 x1.2.1), .val (.int .i64 x1.2.2.1), .val (.int .i64 x1.2.2.2.1), .val (.int .i64 x1.2.2.2.2.1), .val (.int .i64 x1.2.2.2.2.2.1), .val (.int .i64 x1.2.2.2.2.2.2.1), .val (.int .i64 x1.2.2.2.2.2.2.2.1), .val (.sl (.cons (.int .i64) .nil) x1.2.2.2.2.2.2.2.2.1), .val (.int .i64 x1.2.2.2.2.2.2.2.2.2.1), .val (.sl (.cons (.int .i64) .nil) x1.2.2.2.2.2.2.2.2.2.2.1), .val (.int .i64 x1.2.2.2.2.2.2.2.2.2.2.2.1), .val (.int .i64 x1.2.2.2.2.2.2.2.2.2.2.2.2.1), .val (.sl (.cons (.int .i64) .nil) x1.2.2.2.2.2.2.2.2.2.2.2.2.2.1), .val (.int .i64 x1.2.2.2.2.2.2.2.2.2.2.2.2.2.2.1), .val (.bool x1.2.2.2.2.2.2.2.2.2.2.2.2.2.2.2.1), .val (.sl (.cons (.int .i64) (.cons (.int .i64) .nil)) x1.2.2.2.2.2.2.2.2.2.2.2.2.2.2.2.2)]), (128128, .box [.val (.int .i64 x1.1), .val (.int .i64 x1.2.1), .val (.int .i64 x1.2.2.1), .val (.int .i64 x1.2.2.2.1), .val (.int .i64 x1.2.2.2.2.1), .val (.int .i64 x1.2.2.2.2.2.1), .val (.int .i64 x1.2.2.2.2.2.2.1), .val (.int .i64 x1.2.2.2.2.2.2.2.1), .val (.sl (.cons (.int .i64) .nil) x1.2.2.2.2.2.2.2.2.1), .val (.int .i64 x1.2.2.2.2.2.2.2.2.2.1), .val (.sl (.cons (.int .i64) .nil) x1.2.2.2.2.2.2.2.2.2.2.1), .val (.int .i64 x1.2.2.2.2.2.2.2.2.2.2.2.1), .val (.int .i64 x1.2.2.2.2.2.2.2.2.2.2.2.2.1), .val (.sl (.cons (.int .i64) .nil) x1.2.2.2.2.2.2.2.2.2.2.2.2.2.1), .val (.int .i64 x1.2.2.2.2.2.2.2.2.2.2.2.2.2.2.1), .val (.bool x1.2.2.2.2.2.2.2.2.2.2.2.2.2.2.2.1)])]⟩
theorem zq56.r15 (x0 : THead) (x1 : TSigned) (v15_0 : Bool) : V.joinF zq56.E Tryz.f309.ntmps [1, 1, 0, 0, 1, 1, 1, 1] [] (V.codeOf Tryz.f309) (zq56.kt x0 x1) (zq56.s15 x0 x1 v15_0) = zq56.g15 x0 x1 v15_0 := by kernel_rfl
theorem zq56.e15 (x0 : THead) (x1 : TSigned) (v15_0 : Bool) : V.jn (V.joinF zq56.E Tryz.f309.ntmps [1, 1, 0, 0, 1, 1, 1, 1] [] (V.codeOf Tryz.f309) (zq56.kt x0 x1)) (zq56.s15 x0 x1 v15_0) = zq56.l15 x0 x1 v15_0 := by
  rw [V.jn_eq, zq56.r15]
  rfl
theorem zq56.r11 (x0 : THead) (x1 : TSigned) (v11_0 : Bool) : V.joinF zq56.E Tryz.f309.ntmps [1, 1, 0, 0, 1, 1] [] (V.codeOf Tryz.f309) (zq56.kt x0 x1) (zq56.s11 x0 x1 v11_0) = zq56.g11 x0 x1 (fun v15_0 => V.jn (V.joinF zq56.E Tryz.f309.ntmps [1, 1, 0, 0, 1, 1, 1, 1] [] (V.codeOf Tryz.f309) (zq56.kt x0 x1)) (zq56.s15 x0 x1 v15_0)) v11_0 := by kernel_rfl
theorem zq56.e11 (x0 : THead) (x1 : TSigned) (v11_0 : Bool) : V.jn (V.joinF zq56.E Tryz.f309.ntmps [1, 1, 0, 0, 1, 1] [] (V.codeOf Tryz.f309) (zq56.kt x0 x1)) (zq56.s11 x0 x1 v11_0) = zq56.l11 x0 x1 v11_0 := by
  rw [V.jn_eq, zq56.r11]
  simp only [zq56.e15]
  rfl
noncomputable abbrev zq56.s (x0 : THead) (x1 : TSigned) : V.St := ⟨[(0, .v true [.val (.int .i64 x0.1), .val (.int .i64 x0.2.1), .val (.int .i64 x0.2.2.1), .val (.int .i64 x0.2.2.2.1), .val (.int .i64 x0.2.2.2.2.1), .val (.int .i64 x0.2.2.2.2.2.1), .val (.int .i64 x0.2.2.2.2.2.2.1), .val (.int .i64 x0.2.2.2.2.2.2.2.1), .val (.sl (.cons (.int .i64) .nil) x0.2.2.2.2.2.2.2.2.1), .val (.int .i64 x0.2.2.2.2.2.2.2.2.2.1), .val (.sl (.cons (.int .i64) .nil) x0.2.2.2.2.2.2.2.2.2.2.1), .val (.int .i64 x0.2.2.2.2.2.2.2.2.2.2.2.1), .val (.int .i64 x0.2.2.2.2.2.2.2.2.2.2.2.2.1), .val (.sl (.cons (.int .i64) .nil) x0.2.2.2.2.2.2.2.2.2.2.2.2.2.1), .val (.int .i64 x0.2.2.2.2.2.2.2.2.2.2.2.2.2.2.1), .val (.bool x0.2.2.2.2.2.2.2.2.2.2.2.2.2.2.2)]), (1, .v true [.val (.int .i64 x1.1), .val (.int .i64 x1.2.1), .val (.int .i64 x1.2.2.1), .val (.int .i64 x1.2.2.2.1), .val (.int .i64 x1.2.2.2.2.1), .val (.int .i64 x1.2.2.2.2.2.1), .val (.int .i64 x1.2.2.2.2.2.2.1), .val (.int .i64 x1.2.2.2.2.2.2.2.1), .val (.sl (.cons (.int .i64) .nil) x1.2.2.2.2.2.2.2.2.1), .val (.int .i64 x1.2.2.2.2.2.2.2.2.2.1), .val (.sl (.cons (.int .i64) .nil) x1.2.2.2.2.2.2.2.2.2.2.1), .val (.int .i64 x1.2.2.2.2.2.2.2.2.2.2.2.1), .val (.int .i64 x1.2.2.2.2.2.2.2.2.2.2.2.2.1), .val (.sl (.cons (.int .i64) .nil) x1.2.2.2.2.2.2.2.2.2.2.2.2.2.1), .val (.int .i64 x1.2.2.2.2.2.2.2.2.2.2.2.2.2.2.1), .val (.bool x1.2.2.2.2.2.2.2.2.2.2.2.2.2.2.2.1), .val (.sl (.cons (.int .i64) (.cons (.int .i64) .nil)) x1.2.2.2.2.2.2.2.2.2.2.2.2.2.2.2.2)])], []⟩
theorem zq56.v0 (x0 : THead) (x1 : TSigned) : V.evBody zq56.E zq56.con Tryz.f309 (V.fl5 x0 x1) = V.evC zq56.E Tryz.f309.ntmps (V.codeOf Tryz.f309) (zq56.kt x0 x1) (zq56.s x0 x1) := by kernel_rfl
theorem zq56.v (x0 : THead) (x1 : TSigned) : V.evC zq56.E Tryz.f309.ntmps (V.codeOf Tryz.f309) (zq56.kt x0 x1) (zq56.s x0 x1) = zq56.b x0 x1 (fun v11_0 => V.jn (V.joinF zq56.E Tryz.f309.ntmps [1, 1, 0, 0, 1, 1] [] (V.codeOf Tryz.f309) (zq56.kt x0 x1)) (zq56.s11 x0 x1 v11_0)) := by kernel_rfl
theorem zq56.eq (x0 : THead) (x1 : TSigned) : V.evBody zq56.E zq56.con Tryz.f309 (V.fl5 x0 x1) = zq56 x0 x1 := by
  rw [zq56.v0, zq56.v]
  simp only [zq56.e11]
  rfl
theorem zq56.ok : V.Valid Tryz.prog 309 zq56.con :=
  V.fo (V.tab_cons zq8.ok (V.tab_cons zq35.ok (V.tab_cons zq43.ok (V.tab_cons zq42.ok V.tab_nil)))) Tryz.func309 (by kernel_rfl) (fun x y h => (show V.evBody zq56.E zq56.con Tryz.f309 x = _ from zq56.eq (V.p5_0 x) (V.p5_1 x)).trans (V.cfl (by kernel_rfl) h))
noncomputable abbrev zq63.con : V.Con := ⟨V.A5, (.cons (.int .i64) .nil), fun (x : V.D5) => zq63 (V.p5_0 x) (V.p5_1 x), [], [(true, 16), (true, 17)], [(false, 1)], [false], []⟩
noncomputable abbrev zq63.E : V.Env := V.mkE V.tys [(48, zq8.con), (226, zq35.con), (317, zq43.con), (396, zq42.con)] [(7, [2, 3, 5, 6], []), (13, [2, 3, 37], [])] [] [] [] []
noncomputable abbrev zq63.kt (x0 : THead) (x1 : TSigned) : V.Kt Int := V.ktOf zq63.E zq63.con Tryz.f310 (V.fl5 x0 x1)
noncomputable abbrev zq63.s13 (x0 : THead) (x1 : TSigned) (v13_0 : Bool) : V.St := ⟨[(2, .v false [.ptr 64000 0]), (3, .v false [.ptr 64064 0]), (37, .v false [.val (.bool v13_0)])], [(64000, .box [.val (.int .i64 x0.1), .val (.int .i64 x0.2.1), .val (.int .i64 x0.2.2.1), .val (.int .i64 x0.2.2.2.1), .val (.int .i64 x0.2.2.2.2.1), .val (.int .i64 x0.2.2.2.2.2.1), .val (.int .i64 x0.2.2.2.2.2.2.1), .val (.int .i64 x0.2.2.2.2.2.2.2.1), .val (.sl (.cons (.int .i64) .nil) x0.2.2.2.2.2.2.2.2.1), .val (.int .i64 x0.2.2.2.2.2.2.2.2.2.1), .val (.sl (.cons (.int .i64) .nil) x0.2.2.2.2.2.2.2.2.2.2.1), .val (.int .i64 x0.2.2.2.2.2.2.2.2.2.2.2.1), .val (.int .i64 x0.2.2.2.2.2.2.2.2.2.2.2.2.1), .val (.sl (.cons (.int .i64) .nil) x0.2.2.2.2.2.2.2.2.2.2.2.2.2.1), .val (.int .i64 x0.2.2.2.2.2.2.2.2.2.2.2.2.2.2.1), .val (.bool x0.2.2.2.2.2.2.2.2.2.2.2.2.2.2.2)]), (64064, .box [.val (.int .i64 x1.1), .val (.int .i64 x1.2.1), .val (.int .i64 x1.2.2.1), .val (.int .i64 x1.2.2.2.1), .val (.int .i64 x1.2.2.2.2.1), .val (.int .i64 x1.2.2.2.2.2.1), .val (.int .i64 x1.2.2.2.2.2.2.1), .val (.int .i64 x1.2.2.2.2.2.2.2.1), .val (.sl (.cons (.int .i64) .nil) x1.2.2.2.2.2.2.2.2.1), .val (.int .i64 x1.2.2.2.2.2.2.2.2.2.1), .val (.sl (.cons (.int .i64) .nil) x1.2.2.2.2.2.2.2.2.2.2.1), .val (.int .i64 x1.2.2.2.2.2.2.2.2.2.2.2.1), .val (.int .i64 x1.2.2.2.2.2.2.2.2.2.2.2.2.1), .val (.sl (.cons (.int .i64) .nil) x1.2.2.2.2.2.2.2.2.2.2.2.2.2.1), .val (.int .i64 x1.2.2.2.2.2.2.2.2.2.2.2.2.2.2.1), .val (.bool x1.2.2.2.2.2.2.2.2.2.2.2.2.2.2.2.1), .val (.sl (.cons (.int .i64) (.cons (.int .i64) .nil)) x1.2.2.2.2.2.2.2.2.2.2.2.2.2.2.2.2)])]⟩
noncomputable abbrev zq63.s7 (x0 : THead) (x1 : TSigned) (v7_0 : Bool) : V.St := ⟨[(2, .v false [.ptr 64000 0]), (3, .v false [.ptr 64064 0]), (5, .v false [.ptr 128128 0]), (6, .v false [.val (.bool v7_0)])], [(64000, .box [.val (.int .i64 x0.1), .val (.int .i64 x0.2.1), .val (.int .i64 x0.2.2.1), .val (.int .i64 x0.2.2.2.1), .val (.int .i64 x0.2.2.2.2.1), .val (.int .i64 x0.2.2.2.2.2.1), .val (.int .i64 x0.2.2.2.2.2.2.1), .val (.int .i64 x0.2.2.2.2.2.2.2.1), .val (.sl (.cons (.int .i64) .nil) x0.2.2.2.2.2.2.2.2.1), .val (.int .i64 x0.2.2.2.2.2.2.2.2.2.1), .val (.sl (.cons (.int .i64) .nil) x0.2.2.2.2.2.2.2.2.2.2.1), .val (.int .i64 x0.2.2.2.2.2.2.2.2.2.2.2.1), .val (.int .i64 x0.2.2.2.2.2.2.2.2.2.2.2.2.1), .val (.sl (.cons (.int .i64) .nil) x0.2.2.2.2.2.2.2.2.2.2.2.2.2.1), .val (.int .i64 x0.2.2.2.2.2.2.2.2.2.2.2.2.2.2.1), .val (.bool x0.2.2.2.2.2.2.2.2.2.2.2.2.2.2.2)]), (64064, .box [.val (.int .i64 x1.1), .val (.int .i64 x1.2.1), .val (.int .i64 x1.2.2.1), .val (.int .i64 x1.2.2.2.1), .val (.int .i64 x1.2.2.2.2.1), .val (.int .i64 x1.2.2.2.2.2.1), .val (.int .i64 x1.2.2.2.2.2.2.1), .val (.int .i64 x1.2.2.2.2.2.2.2.1), .val (.sl (.cons (.int .i64) .nil) x1.2.2.2.2.2.2.2.2.1), .val (.int .i64 x1.2.2.2.2.2.2.2.2.2.1), .val (.sl (.cons (.int .i64) .nil) x1.2.2.2.2.2.2.2.2.2.2.1), .val (.int .i64 x1.2.2.2.2.2.2.2.2.2.2.2.1), .val (.int .i64 x1.2.2.2.2.2.2.2.2.2.2.2.2.1), .val (.sl (.cons (.int .i64) .nil) x1.2.2.2.2.2.2.2.2.2.2.2.2.2.1), .val (.int .i64 x1.2.2.2.2.2.2.2.2.2.2.2.2.2.2.1), .val (.bool x1.2.2.2.2.2.2.2.2.2.2.2.2.2.2.2.1), .val (.sl (.cons (.int .i64) (.cons (.int .i64) .nil)) x1.2.2.2.2.2.2.2.2.2.2.2.2.2.2.2.2)]), (128128, .box [.val (.int .i64 x1.1), .val (.int .i64 x1.2.1), .val (.int .i64 x1.2.2.1), .val (.int .i64 x1.2.2.2.1), .val (.int .i64 x1.2.2.2.2.1), .val (.int .i64 x1.2.2.2.2.2.1), .val (.int .i64 x1.2.2.2.2.2.2.1), .val (.int .i64 x1.2.2.2.2.2.2.2.1), .val (.sl (.cons (.int .i64) .nil) x1.2.2.2.2.2.2.2.2.1), .val (.int .i64 x1.2.2.2.2.2.2.2.2.2.1), .val (.sl (.cons (.int .i64) .nil) x1.2.2.2.2.2.2.2.2.2.2.1), .val (.int .i64 x1.2.2.2.2.2.2.2.2.2.2.2.1), .val (.int .i64 x1.2.2.2.2.2.2.2.2.2.2.2.2.1), .val (.sl (.cons (.int .i64) .nil) x1.2.2.2.2.2.2.2.2.2.2.2.2.2.1), .val (.int .i64 x1.2.2.2.2.2.2.2.2.2.2.2.2.2.2.1), .val (.bool x1.2.2.2.2.2.2.2.2.2.2.2.2.2.2.2.1)])]⟩
theorem zq63.r13 (x0 : THead) (x1 : TSigned) (v13_0 : Bool) : V.joinF zq63.E Tryz.f310.ntmps [1, 1, 1, 0, 0, 1, 1] [] (V.codeOf Tryz.f310) (zq63.kt x0 x1) (zq63.s13 x0 x1 v13_0) = zq63.g13 x0 x1 v13_0 := by kernel_rfl
theorem zq63.e13 (x0 : THead) (x1 : TSigned) (v13_0 : Bool) : V.jn (V.joinF zq63.E Tryz.f310.ntmps [1, 1, 1, 0, 0, 1, 1] [] (V.codeOf Tryz.f310) (zq63.kt x0 x1)) (zq63.s13 x0 x1 v13_0) = zq63.l13 x0 x1 v13_0 := by
  rw [V.jn_eq, zq63.r13]
  rfl
theorem zq63.r7 (x0 : THead) (x1 : TSigned) (v7_0 : Bool) : V.joinF zq63.E Tryz.f310.ntmps [1, 1] [] (V.codeOf Tryz.f310) (zq63.kt x0 x1) (zq63.s7 x0 x1 v7_0) = zq63.g7 x0 x1 (fun v13_0 => V.jn (V.joinF zq63.E Tryz.f310.ntmps [1, 1, 1, 0, 0, 1, 1] [] (V.codeOf Tryz.f310) (zq63.kt x0 x1)) (zq63.s13 x0 x1 v13_0)) v7_0 := by kernel_rfl
theorem zq63.e7 (x0 : THead) (x1 : TSigned) (v7_0 : Bool) : V.jn (V.joinF zq63.E Tryz.f310.ntmps [1, 1] [] (V.codeOf Tryz.f310) (zq63.kt x0 x1)) (zq63.s7 x0 x1 v7_0) = zq63.l7 x0 x1 v7_0 := by
  rw [V.jn_eq, zq63.r7]
  simp only [zq63.e13]
  rfl
noncomputable abbrev zq63.s (x0 : THead) (x1 : TSigned) : V.St := ⟨[(0, .v true [.val (.int .i64 x0.1), .val (.int .i64 x0.2.1), .val (.int .i64 x0.2.2.1), .val (.int .i64 x0.2.2.2.1), .val (.int .i64 x0.2.2.2.2.1), .val (.int .i64 x0.2.2.2.2.2.1), .val (.int .i64 x0.2.2.2.2.2.2.1), .val (.int .i64 x0.2.2.2.2.2.2.2.1), .val (.sl (.cons (.int .i64) .nil) x0.2.2.2.2.2.2.2.2.1), .val (.int .i64 x0.2.2.2.2.2.2.2.2.2.1), .val (.sl (.cons (.int .i64) .nil) x0.2.2.2.2.2.2.2.2.2.2.1), .val (.int .i64 x0.2.2.2.2.2.2.2.2.2.2.2.1), .val (.int .i64 x0.2.2.2.2.2.2.2.2.2.2.2.2.1), .val (.sl (.cons (.int .i64) .nil) x0.2.2.2.2.2.2.2.2.2.2.2.2.2.1), .val (.int .i64 x0.2.2.2.2.2.2.2.2.2.2.2.2.2.2.1), .val (.bool x0.2.2.2.2.2.2.2.2.2.2.2.2.2.2.2)]), (1, .v true [.val (.int .i64 x1.1), .val (.int .i64 x1.2.1), .val (.int .i64 x1.2.2.1), .val (.int .i64 x1.2.2.2.1), .val (.int .i64 x1.2.2.2.2.1), .val (.int .i64 x1.2.2.2.2.2.1), .val (.int .i64 x1.2.2.2.2.2.2.1), .val (.int .i64 x1.2.2.2.2.2.2.2.1), .val (.sl (.cons (.int .i64) .nil) x1.2.2.2.2.2.2.2.2.1), .val (.int .i64 x1.2.2.2.2.2.2.2.2.2.1), .val (.sl (.cons (.int .i64) .nil) x1.2.2.2.2.2.2.2.2.2.2.1), .val (.int .i64 x1.2.2.2.2.2.2.2.2.2.2.2.1), .val (.int .i64 x1.2.2.2.2.2.2.2.2.2.2.2.2.1), .val (.sl (.cons (.int .i64) .nil) x1.2.2.2.2.2.2.2.2.2.2.2.2.2.1), .val (.int .i64 x1.2.2.2.2.2.2.2.2.2.2.2.2.2.2.1), .val (.bool x1.2.2.2.2.2.2.2.2.2.2.2.2.2.2.2.1), .val (.sl (.cons (.int .i64) (.cons (.int .i64) .nil)) x1.2.2.2.2.2.2.2.2.2.2.2.2.2.2.2.2)])], []⟩
theorem zq63.v0 (x0 : THead) (x1 : TSigned) : V.evBody zq63.E zq63.con Tryz.f310 (V.fl5 x0 x1) = V.evC zq63.E Tryz.f310.ntmps (V.codeOf Tryz.f310) (zq63.kt x0 x1) (zq63.s x0 x1) := by kernel_rfl
theorem zq63.v (x0 : THead) (x1 : TSigned) : V.evC zq63.E Tryz.f310.ntmps (V.codeOf Tryz.f310) (zq63.kt x0 x1) (zq63.s x0 x1) = zq63.b x0 x1 (fun v7_0 => V.jn (V.joinF zq63.E Tryz.f310.ntmps [1, 1] [] (V.codeOf Tryz.f310) (zq63.kt x0 x1)) (zq63.s7 x0 x1 v7_0)) := by kernel_rfl
theorem zq63.eq (x0 : THead) (x1 : TSigned) : V.evBody zq63.E zq63.con Tryz.f310 (V.fl5 x0 x1) = zq63 x0 x1 := by
  rw [zq63.v0, zq63.v]
  simp only [zq63.e7]
  rfl
theorem zq63.ok : V.Valid Tryz.prog 310 zq63.con :=
  V.fo (V.tab_cons zq8.ok (V.tab_cons zq35.ok (V.tab_cons zq43.ok (V.tab_cons zq42.ok V.tab_nil)))) Tryz.func310 (by kernel_rfl) (fun x y h => (show V.evBody zq63.E zq63.con Tryz.f310 x = _ from zq63.eq (V.p5_0 x) (V.p5_1 x)).trans (V.cfl (by kernel_rfl) h))
noncomputable abbrev zq34.con : V.Con := ⟨V.A5, (.cons (.int .i64) .nil), fun (x : V.D5) => zq34 (V.p5_0 x) (V.p5_1 x), [], [(true, 16), (true, 17)], [(false, 1)], [false], []⟩
noncomputable abbrev zq34.E : V.Env := V.mkE V.tys [(306, zq19.con), (307, zq60.con), (308, zq65.con), (309, zq56.con), (310, zq63.con)] [(5, [2, 3, 5], [])] [] [] [] []
noncomputable abbrev zq34.kt (x0 : THead) (x1 : TSigned) : V.Kt Int := V.ktOf zq34.E zq34.con Tryz.f172 (V.fl5 x0 x1)
noncomputable abbrev zq34.s5 (x0 : THead) (x1 : TSigned) (v5_0 : Bool) : V.St := ⟨[(2, .v false [.ptr 64000 0]), (3, .v false [.ptr 64064 0]), (5, .v false [.val (.bool v5_0)])], [(64000, .box [.val (.int .i64 x0.1), .val (.int .i64 x0.2.1), .val (.int .i64 x0.2.2.1), .val (.int .i64 x0.2.2.2.1), .val (.int .i64 x0.2.2.2.2.1), .val (.int .i64 x0.2.2.2.2.2.1), .val (.int .i64 x0.2.2.2.2.2.2.1), .val (.int .i64 x0.2.2.2.2.2.2.2.1), .val (.sl (.cons (.int .i64) .nil) x0.2.2.2.2.2.2.2.2.1), .val (.int .i64 x0.2.2.2.2.2.2.2.2.2.1), .val (.sl (.cons (.int .i64) .nil) x0.2.2.2.2.2.2.2.2.2.2.1), .val (.int .i64 x0.2.2.2.2.2.2.2.2.2.2.2.1), .val (.int .i64 x0.2.2.2.2.2.2.2.2.2.2.2.2.1), .val (.sl (.cons (.int .i64) .nil) x0.2.2.2.2.2.2.2.2.2.2.2.2.2.1), .val (.int .i64 x0.2.2.2.2.2.2.2.2.2.2.2.2.2.2.1), .val (.bool x0.2.2.2.2.2.2.2.2.2.2.2.2.2.2.2)]), (64064, .box [.val (.int .i64 x1.1), .val (.int .i64 x1.2.1), .val (.int .i64 x1.2.2.1), .val (.int .i64 x1.2.2.2.1), .val (.int .i64 x1.2.2.2.2.1), .val (.int .i64 x1.2.2.2.2.2.1), .val (.int .i64 x1.2.2.2.2.2.2.1), .val (.int .i64 x1.2.2.2.2.2.2.2.1), .val (.sl (.cons (.int .i64) .nil) x1.2.2.2.2.2.2.2.2.1), .val (.int .i64 x1.2.2.2.2.2.2.2.2.2.1), .val (.sl (.cons (.int .i64) .nil) x1.2.2.2.2.2.2.2.2.2.2.1), .val (.int .i64 x1.2.2.2.2.2.2.2.2.2.2.2.1), .val (.int .i64 x1.2.2.2.2.2.2.2.2.2.2.2.2.1), .val (.sl (.cons (.int .i64) .nil) x1.2.2.2.2.2.2.2.2.2.2.2.2.2.1), .val (.int .i64 x1.2.2.2.2.2.2.2.2.2.2.2.2.2.2.1), .val (.bool x1.2.2.2.2.2.2.2.2.2.2.2.2.2.2.2.1), .val (.sl (.cons (.int .i64) (.cons (.int .i64) .nil)) x1.2.2.2.2.2.2.2.2.2.2.2.2.2.2.2.2)])]⟩
theorem zq34.r5 (x0 : THead) (x1 : TSigned) (v5_0 : Bool) : V.joinF zq34.E Tryz.f172.ntmps [1, 0, 0] [] (V.codeOf Tryz.f172) (zq34.kt x0 x1) (zq34.s5 x0 x1 v5_0) = zq34.g5 x0 x1 v5_0 := by kernel_rfl
theorem zq34.e5 (x0 : THead) (x1 : TSigned) (v5_0 : Bool) : V.jn (V.joinF zq34.E Tryz.f172.ntmps [1, 0, 0] [] (V.codeOf Tryz.f172) (zq34.kt x0 x1)) (zq34.s5 x0 x1 v5_0) = zq34.l5 x0 x1 v5_0 := by
  rw [V.jn_eq, zq34.r5]
  rfl
noncomputable abbrev zq34.s (x0 : THead) (x1 : TSigned) : V.St := ⟨[(0, .v true [.val (.int .i64 x0.1), .val (.int .i64 x0.2.1), .val (.int .i64 x0.2.2.1), .val (.int .i64 x0.2.2.2.1), .val (.int .i64 x0.2.2.2.2.1), .val (.int .i64 x0.2.2.2.2.2.1), .val (.int .i64 x0.2.2.2.2.2.2.1), .val (.int .i64 x0.2.2.2.2.2.2.2.1), .val (.sl (.cons (.int .i64) .nil) x0.2.2.2.2.2.2.2.2.1), .val (.int .i64 x0.2.2.2.2.2.2.2.2.2.1), .val (.sl (.cons (.int .i64) .nil) x0.2.2.2.2.2.2.2.2.2.2.1), .val (.int .i64 x0.2.2.2.2.2.2.2.2.2.2.2.1), .val (.int .i64 x0.2.2.2.2.2.2.2.2.2.2.2.2.1), .val (.sl (.cons (.int .i64) .nil) x0.2.2.2.2.2.2.2.2.2.2.2.2.2.1), .val (.int .i64 x0.2.2.2.2.2.2.2.2.2.2.2.2.2.2.1), .val (.bool x0.2.2.2.2.2.2.2.2.2.2.2.2.2.2.2)]), (1, .v true [.val (.int .i64 x1.1), .val (.int .i64 x1.2.1), .val (.int .i64 x1.2.2.1), .val (.int .i64 x1.2.2.2.1), .val (.int .i64 x1.2.2.2.2.1), .val (.int .i64 x1.2.2.2.2.2.1), .val (.int .i64 x1.2.2.2.2.2.2.1), .val (.int .i64 x1.2.2.2.2.2.2.2.1), .val (.sl (.cons (.int .i64) .nil) x1.2.2.2.2.2.2.2.2.1), .val (.int .i64 x1.2.2.2.2.2.2.2.2.2.1), .val (.sl (.cons (.int .i64) .nil) x1.2.2.2.2.2.2.2.2.2.2.1), .val (.int .i64 x1.2.2.2.2.2.2.2.2.2.2.2.1), .val (.int .i64 x1.2.2.2.2.2.2.2.2.2.2.2.2.1), .val (.sl (.cons (.int .i64) .nil) x1.2.2.2.2.2.2.2.2.2.2.2.2.2.1), .val (.int .i64 x1.2.2.2.2.2.2.2.2.2.2.2.2.2.2.1), .val (.bool x1.2.2.2.2.2.2.2.2.2.2.2.2.2.2.2.1), .val (.sl (.cons (.int .i64) (.cons (.int .i64) .nil)) x1.2.2.2.2.2.2.2.2.2.2.2.2.2.2.2.2)])], []⟩
theorem zq34.v0 (x0 : THead) (x1 : TSigned) : V.evBody zq34.E zq34.con Tryz.f172 (V.fl5 x0 x1) = V.evC zq34.E Tryz.f172.ntmps (V.codeOf Tryz.f172) (zq34.kt x0 x1) (zq34.s x0 x1) := by kernel_rfl
theorem zq34.v (x0 : THead) (x1 : TSigned) : V.evC zq34.E Tryz.f172.ntmps (V.codeOf Tryz.f172) (zq34.kt x0 x1) (zq34.s x0 x1) = zq34.b x0 x1 (fun v5_0 => V.jn (V.joinF zq34.E Tryz.f172.ntmps [1, 0, 0] [] (V.codeOf Tryz.f172) (zq34.kt x0 x1)) (zq34.s5 x0 x1 v5_0)) := by kernel_rfl
theorem zq34.eq (x0 : THead) (x1 : TSigned) : V.evBody zq34.E zq34.con Tryz.f172 (V.fl5 x0 x1) = zq34 x0 x1 := by
  rw [zq34.v0, zq34.v]
  simp only [zq34.e5]
  rfl
theorem zq34.ok : V.Valid Tryz.prog 172 zq34.con :=
  V.fo (V.tab_cons zq19.ok (V.tab_cons zq60.ok (V.tab_cons zq65.ok (V.tab_cons zq56.ok (V.tab_cons zq63.ok V.tab_nil))))) Tryz.func172 (by kernel_rfl) (fun x y h => (show V.evBody zq34.E zq34.con Tryz.f172 x = _ from zq34.eq (V.p5_0 x) (V.p5_1 x)).trans (V.cfl (by kernel_rfl) h))
noncomputable abbrev zq32.con : V.Con := ⟨V.A5, (.cons .bool .nil), fun (x : V.D5) => zq32 (V.p5_0 x) (V.p5_1 x), [], [(true, 16), (true, 17)], [(false, 1)], [false], []⟩
noncomputable abbrev zq32.E : V.Env := V.mkE V.tys [(172, zq34.con)] [] [] [] [] []
noncomputable abbrev zq32.kt (x0 : THead) (x1 : TSigned) : V.Kt Bool := V.ktOf zq32.E zq32.con Tryz.f71 (V.fl5 x0 x1)
noncomputable abbrev zq32.s (x0 : THead) (x1 : TSigned) : V.St := ⟨[(0, .v true [.val (.int .i64 x0.1), .val (.int .i64 x0.2.1), .val (.int .i64 x0.2.2.1), .val (.int .i64 x0.2.2.2.1), .val (.int .i64 x0.2.2.2.2.1), .val (.int .i64 x0.2.2.2.2.2.1), .val (.int .i64 x0.2.2.2.2.2.2.1), .val (.int .i64 x0.2.2.2.2.2.2.2.1), .val (.sl (.cons (.int .i64) .nil) x0.2.2.2.2.2.2.2.2.1), .val (.int .i64 x0.2.2.2.2.2.2.2.2.2.1), .val (.sl (.cons (.int .i64) .nil) x0.2.2.2.2.2.2.2.2.2.2.1), .val (.int .i64 x0.2.2.2.2.2.2.2.2.2.2.2.1), .val (.int .i64 x0.2.2.2.2.2.2.2.2.2.2.2.2.1), .val (.sl (.cons (.int .i64) .nil) x0.2.2.2.2.2.2.2.2.2.2.2.2.2.1), .val (.int .i64 x0.2.2.2.2.2.2.2.2.2.2.2.2.2.2.1), .val (.bool x0.2.2.2.2.2.2.2.2.2.2.2.2.2.2.2)]), (1, .v true [.val (.int .i64 x1.1), .val (.int .i64 x1.2.1), .val (.int .i64 x1.2.2.1), .val (.int .i64 x1.2.2.2.1), .val (.int .i64 x1.2.2.2.2.1), .val (.int .i64 x1.2.2.2.2.2.1), .val (.int .i64 x1.2.2.2.2.2.2.1), .val (.int .i64 x1.2.2.2.2.2.2.2.1), .val (.sl (.cons (.int .i64) .nil) x1.2.2.2.2.2.2.2.2.1), .val (.int .i64 x1.2.2.2.2.2.2.2.2.2.1), .val (.sl (.cons (.int .i64) .nil) x1.2.2.2.2.2.2.2.2.2.2.1), .val (.int .i64 x1.2.2.2.2.2.2.2.2.2.2.2.1), .val (.int .i64 x1.2.2.2.2.2.2.2.2.2.2.2.2.1), .val (.sl (.cons (.int .i64) .nil) x1.2.2.2.2.2.2.2.2.2.2.2.2.2.1), .val (.int .i64 x1.2.2.2.2.2.2.2.2.2.2.2.2.2.2.1), .val (.bool x1.2.2.2.2.2.2.2.2.2.2.2.2.2.2.2.1), .val (.sl (.cons (.int .i64) (.cons (.int .i64) .nil)) x1.2.2.2.2.2.2.2.2.2.2.2.2.2.2.2.2)])], []⟩
theorem zq32.v0 (x0 : THead) (x1 : TSigned) : V.evBody zq32.E zq32.con Tryz.f71 (V.fl5 x0 x1) = V.evC zq32.E Tryz.f71.ntmps (V.codeOf Tryz.f71) (zq32.kt x0 x1) (zq32.s x0 x1) := by kernel_rfl
theorem zq32.v (x0 : THead) (x1 : TSigned) : V.evC zq32.E Tryz.f71.ntmps (V.codeOf Tryz.f71) (zq32.kt x0 x1) (zq32.s x0 x1) = zq32 x0 x1 := by kernel_rfl
theorem zq32.eq (x0 : THead) (x1 : TSigned) : V.evBody zq32.E zq32.con Tryz.f71 (V.fl5 x0 x1) = zq32 x0 x1 := (zq32.v0 x0 x1).trans (zq32.v x0 x1)
theorem zq32.ok : V.Valid Tryz.prog 71 zq32.con :=
  V.fo (V.tab_cons zq34.ok V.tab_nil) Tryz.func71 (by kernel_rfl) (fun x y h => (show V.evBody zq32.E zq32.con Tryz.f71 x = _ from zq32.eq (V.p5_0 x) (V.p5_1 x)).trans (V.cfl (by kernel_rfl) h))
noncomputable abbrev zq11.con : V.Con := ⟨(.cons (.sl V.eSigned) .nil), (.cons (.int .i64) .nil), fun (x : List TSigned) => zq11 x, [], [(false, 1)], [(false, 1)], [false], []⟩
noncomputable abbrev zq11.E : V.Env := V.mkE V.tys [(71, zq32.con), (180, zq18.con)] [(4, [0, 5, 6, 7], [])] [(4, 18)] [] [] []
noncomputable abbrev zq11.kt (x0 : List TSigned) : V.Kt Int := V.ktOf zq11.E zq11.con Tryz.f39 ((x0) : List TSigned)
noncomputable abbrev zq11.s4 (x0 : List TSigned) (v4_2 : Int) (v4_3 : Int) : V.St := ⟨[(0, .v false [.val (.sl V.eSigned x0)]), (5, .v false [.val (.sl V.eSigned x0)]), (6, .v false [.val (.int .i64 v4_2)]), (7, .v false [.val (.int .i64 v4_3)])], []⟩
theorem zq11.r4 (x0 : List TSigned) (R : V.St → Option Int) (v4_2 : Int) (v4_3 : Int) : V.loopF zq11.E Tryz.f39.ntmps [1, 0, 1, 0] [] (V.codeOf Tryz.f39) (zq11.kt x0) R (zq11.s4 x0 v4_2 v4_3) = zq11.g4 x0 (fun v4_2 v4_3 => R (zq11.s4 x0 v4_2 v4_3)) v4_2 v4_3 := by kernel_rfl
theorem zq11.e4 (x0 : List TSigned) : ∀ (n : Nat) (v4_2 : Int) (v4_3 : Int), V.loopN (V.loopF zq11.E Tryz.f39.ntmps [1, 0, 1, 0] [] (V.codeOf Tryz.f39) (zq11.kt x0)) n (zq11.s4 x0 v4_2 v4_3) = zq11.l4 x0 n v4_2 v4_3 := by
  intro n
  induction n with
  | zero => intros; rw [V.loopN_z]; rfl
  | succ n ih =>
    intro v4_2 v4_3
    rw [V.loopN_s, zq11.r4]
    simp only [ih]
    first | exact (zq11.u4 ..).symm | rfl
theorem zq11.v (x0 : List TSigned) : V.evBody zq11.E zq11.con Tryz.f39 ((x0) : List TSigned) = zq11.b x0 (fun v4_2 v4_3 => V.loopN (V.loopF zq11.E Tryz.f39.ntmps [1, 0, 1, 0] [] (V.codeOf Tryz.f39) (zq11.kt x0)) V.KK (zq11.s4 x0 v4_2 v4_3)) := by kernel_rfl
theorem zq11.eq (x0 : List TSigned) : V.evBody zq11.E zq11.con Tryz.f39 ((x0) : List TSigned) = zq11 x0 := by
  rw [zq11.v]
  simp only [zq11.e4]
  rfl
theorem zq11.ok : V.Valid Tryz.prog 39 zq11.con :=
  V.fo (V.tab_cons zq32.ok (V.tab_cons zq18.ok V.tab_nil)) Tryz.func39 (by kernel_rfl) (fun x y h => (show V.evBody zq11.E zq11.con Tryz.f39 x = _ from zq11.eq x).trans (V.cfl (by kernel_rfl) h))
noncomputable abbrev zq16.con : V.Con := ⟨(.cons (.sl V.eSigned) .nil), (.cons .bool .nil), fun (x : List TSigned) => zq16 x, [], [(false, 1)], [(false, 1)], [false], []⟩
noncomputable abbrev zq16.E : V.Env := V.mkE V.tys [(39, zq11.con), (178, zq15.con)] [] [] [] [] []
theorem zq16.eq (x0 : List TSigned) : V.evBody zq16.E zq16.con Tryz.f37 ((x0) : List TSigned) = zq16 x0 := by kernel_rfl
theorem zq16.ok : V.Valid Tryz.prog 37 zq16.con :=
  V.fo (V.tab_cons zq11.ok (V.tab_cons zq15.ok V.tab_nil)) Tryz.func37 (by kernel_rfl) (fun x y h => (show V.evBody zq16.E zq16.con Tryz.f37 x = _ from zq16.eq x).trans (V.cfl (by kernel_rfl) h))
noncomputable abbrev zq64.con : V.Con := ⟨(.cons (.sl V.eSigned) .nil), V.eHead, fun (x : List TSigned) => zq64 x, [], [(false, 1)], [(true, 16)], [false, false, false, false, false, false, false, false, false, false, false, false, false, false, false, false], []⟩
noncomputable abbrev zq64.E : V.Env := V.mkE V.tys [] [] [] [] [] []
theorem zq64.eq (x0 : List TSigned) : V.evBody zq64.E zq64.con Tryz.f173 ((x0) : List TSigned) = zq64 x0 := by kernel_rfl
theorem zq64.ok : V.Valid Tryz.prog 173 zq64.con :=
  V.fo V.tab_nil Tryz.func173 (by kernel_rfl) (fun x y h => (show V.evBody zq64.E zq64.con Tryz.f173 x = _ from zq64.eq x).trans (V.cfl (by kernel_rfl) h))
end Go.Proofs.YtmplinobompncaaGreat
