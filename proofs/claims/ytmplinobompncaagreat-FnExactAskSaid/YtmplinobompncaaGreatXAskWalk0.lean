/- That the functions compute it. -/
import Derived.Test.YtmplinobompncaaGreatXAskPure0
import Derived.Test.YtmplinobompncaaGreatProg
namespace Go.Proofs.YtmplinobompncaaGreat
set_option linter.unusedVariables false
set_option maxRecDepth 100000
namespace V
abbrev eSigned : ETy := (.cons (.int .i64) (.cons (.int .i64) (.cons (.int .i64) (.cons (.int .i64) (.cons (.int .i64) (.cons (.int .i64) (.cons (.int .i64) (.cons (.int .i64) (.cons (.sl (.cons (.int .i64) .nil)) (.cons (.int .i64) (.cons (.sl (.cons (.int .i64) .nil)) (.cons (.int .i64) (.cons (.int .i64) (.cons (.sl (.cons (.int .i64) .nil)) (.cons (.int .i64) (.cons .bool (.cons (.sl (.cons (.int .i64) (.cons (.int .i64) .nil))) .nil)))))))))))))))))
abbrev eAnswer : ETy := (.cons (.sl eSigned) (.cons .bool (.cons .str (.cons (.int .i64) (.cons (.int .i64) (.cons (.sl (.cons .str .nil)) (.cons (.int .i64) (.cons (.sl (.cons (.int .i64) .nil)) (.cons (.int .i64) (.cons .str (.cons (.int .i64) (.cons (.int .i64) (.cons (.sl (.cons .str .nil)) (.cons .str (.cons (.int .i64) (.cons (.int .i64) (.cons (.sl (.cons .str .nil)) (.cons (.int .i64) (.cons (.sl (.cons (.int .i64) .nil)) (.cons (.int .i64) (.cons (.sl (.cons (.int .i64) .nil)) .nil)))))))))))))))))))))
abbrev eEntry : ETy := (.cons .str (.cons (.int .i64) (.cons (.int .i64) (.cons (.sl (.cons .str .nil)) .nil))))
abbrev eGap : ETy := (.cons (.int .i64) (.cons .str (.cons (.int .i64) (.cons (.int .i64) (.cons (.sl (.cons .str .nil)) (.cons .str (.cons (.int .i64) (.cons (.int .i64) (.cons (.sl (.cons .str .nil)) (.cons (.int .i64) (.cons (.sl (.cons (.int .i64) .nil)) (.cons (.int .i64) (.cons (.sl (.cons (.int .i64) .nil)) .nil)))))))))))))
abbrev eHead : ETy := (.cons (.int .i64) (.cons (.int .i64) (.cons (.int .i64) (.cons (.int .i64) (.cons (.int .i64) (.cons (.int .i64) (.cons (.int .i64) (.cons (.int .i64) (.cons (.sl (.cons (.int .i64) .nil)) (.cons (.int .i64) (.cons (.sl (.cons (.int .i64) .nil)) (.cons (.int .i64) (.cons (.int .i64) (.cons (.sl (.cons (.int .i64) .nil)) (.cons (.int .i64) (.cons .bool .nil))))))))))))))))
abbrev eRGapBool : ETy := (.cons (.int .i64) (.cons .str (.cons (.int .i64) (.cons (.int .i64) (.cons (.sl (.cons .str .nil)) (.cons .str (.cons (.int .i64) (.cons (.int .i64) (.cons (.sl (.cons .str .nil)) (.cons (.int .i64) (.cons (.sl (.cons (.int .i64) .nil)) (.cons (.int .i64) (.cons (.sl (.cons (.int .i64) .nil)) (.cons .bool .nil))))))))))))))
abbrev eRHeadBool : ETy := (.cons (.int .i64) (.cons (.int .i64) (.cons (.int .i64) (.cons (.int .i64) (.cons (.int .i64) (.cons (.int .i64) (.cons (.int .i64) (.cons (.int .i64) (.cons (.sl (.cons (.int .i64) .nil)) (.cons (.int .i64) (.cons (.sl (.cons (.int .i64) .nil)) (.cons (.int .i64) (.cons (.int .i64) (.cons (.sl (.cons (.int .i64) .nil)) (.cons (.int .i64) (.cons .bool (.cons .bool .nil)))))))))))))))))
abbrev D0 : Type := Int × Int × Int × Int × Int × Int × Int × Int × List Int × Int × List Int × Int × Int × List Int × Int × Bool × Int
abbrev A0 : ETy := (.cons (.int .i64) (.cons (.int .i64) (.cons (.int .i64) (.cons (.int .i64) (.cons (.int .i64) (.cons (.int .i64) (.cons (.int .i64) (.cons (.int .i64) (.cons (.sl (.cons (.int .i64) .nil)) (.cons (.int .i64) (.cons (.sl (.cons (.int .i64) .nil)) (.cons (.int .i64) (.cons (.int .i64) (.cons (.sl (.cons (.int .i64) .nil)) (.cons (.int .i64) (.cons .bool (.cons (.int .i64) .nil)))))))))))))))))
abbrev fl0 (x0 : THead) (x1 : Int) : D0 := (x0.1, x0.2.1, x0.2.2.1, x0.2.2.2.1, x0.2.2.2.2.1, x0.2.2.2.2.2.1, x0.2.2.2.2.2.2.1, x0.2.2.2.2.2.2.2.1, x0.2.2.2.2.2.2.2.2.1, x0.2.2.2.2.2.2.2.2.2.1, x0.2.2.2.2.2.2.2.2.2.2.1, x0.2.2.2.2.2.2.2.2.2.2.2.1, x0.2.2.2.2.2.2.2.2.2.2.2.2.1, x0.2.2.2.2.2.2.2.2.2.2.2.2.2.1, x0.2.2.2.2.2.2.2.2.2.2.2.2.2.2.1, x0.2.2.2.2.2.2.2.2.2.2.2.2.2.2.2, x1)
abbrev p0_0 (x : D0) : THead := (x.1, x.2.1, x.2.2.1, x.2.2.2.1, x.2.2.2.2.1, x.2.2.2.2.2.1, x.2.2.2.2.2.2.1, x.2.2.2.2.2.2.2.1, x.2.2.2.2.2.2.2.2.1, x.2.2.2.2.2.2.2.2.2.1, x.2.2.2.2.2.2.2.2.2.2.1, x.2.2.2.2.2.2.2.2.2.2.2.1, x.2.2.2.2.2.2.2.2.2.2.2.2.1, x.2.2.2.2.2.2.2.2.2.2.2.2.2.1, x.2.2.2.2.2.2.2.2.2.2.2.2.2.2.1, x.2.2.2.2.2.2.2.2.2.2.2.2.2.2.2.1)
abbrev p0_1 (x : D0) : Int := x.2.2.2.2.2.2.2.2.2.2.2.2.2.2.2.2
abbrev D1 : Type := Int × Int × Int × Int × Int × Int × Int × Int × List Int × Int × List Int × Int × Int × List Int × Int × Bool × List TSig × Int
abbrev A1 : ETy := (.cons (.int .i64) (.cons (.int .i64) (.cons (.int .i64) (.cons (.int .i64) (.cons (.int .i64) (.cons (.int .i64) (.cons (.int .i64) (.cons (.int .i64) (.cons (.sl (.cons (.int .i64) .nil)) (.cons (.int .i64) (.cons (.sl (.cons (.int .i64) .nil)) (.cons (.int .i64) (.cons (.int .i64) (.cons (.sl (.cons (.int .i64) .nil)) (.cons (.int .i64) (.cons .bool (.cons (.sl (.cons (.int .i64) (.cons (.int .i64) .nil))) (.cons (.int .i64) .nil))))))))))))))))))
abbrev fl1 (x0 : TSigned) (x1 : Int) : D1 := (x0.1, x0.2.1, x0.2.2.1, x0.2.2.2.1, x0.2.2.2.2.1, x0.2.2.2.2.2.1, x0.2.2.2.2.2.2.1, x0.2.2.2.2.2.2.2.1, x0.2.2.2.2.2.2.2.2.1, x0.2.2.2.2.2.2.2.2.2.1, x0.2.2.2.2.2.2.2.2.2.2.1, x0.2.2.2.2.2.2.2.2.2.2.2.1, x0.2.2.2.2.2.2.2.2.2.2.2.2.1, x0.2.2.2.2.2.2.2.2.2.2.2.2.2.1, x0.2.2.2.2.2.2.2.2.2.2.2.2.2.2.1, x0.2.2.2.2.2.2.2.2.2.2.2.2.2.2.2.1, x0.2.2.2.2.2.2.2.2.2.2.2.2.2.2.2.2, x1)
abbrev p1_0 (x : D1) : TSigned := (x.1, x.2.1, x.2.2.1, x.2.2.2.1, x.2.2.2.2.1, x.2.2.2.2.2.1, x.2.2.2.2.2.2.1, x.2.2.2.2.2.2.2.1, x.2.2.2.2.2.2.2.2.1, x.2.2.2.2.2.2.2.2.2.1, x.2.2.2.2.2.2.2.2.2.2.1, x.2.2.2.2.2.2.2.2.2.2.2.1, x.2.2.2.2.2.2.2.2.2.2.2.2.1, x.2.2.2.2.2.2.2.2.2.2.2.2.2.1, x.2.2.2.2.2.2.2.2.2.2.2.2.2.2.1, x.2.2.2.2.2.2.2.2.2.2.2.2.2.2.2.1, x.2.2.2.2.2.2.2.2.2.2.2.2.2.2.2.2.1)
abbrev p1_1 (x : D1) : Int := x.2.2.2.2.2.2.2.2.2.2.2.2.2.2.2.2.2
abbrev D2 : Type := Int × Int × Int × Int × Int × Int × Int × Int × List Int × Int × List Int × Int × Int × List Int × Int × Bool
abbrev A2 : ETy := eHead
abbrev fl2 (x0 : THead) : D2 := (x0.1, x0.2.1, x0.2.2.1, x0.2.2.2.1, x0.2.2.2.2.1, x0.2.2.2.2.2.1, x0.2.2.2.2.2.2.1, x0.2.2.2.2.2.2.2.1, x0.2.2.2.2.2.2.2.2.1, x0.2.2.2.2.2.2.2.2.2.1, x0.2.2.2.2.2.2.2.2.2.2.1, x0.2.2.2.2.2.2.2.2.2.2.2.1, x0.2.2.2.2.2.2.2.2.2.2.2.2.1, x0.2.2.2.2.2.2.2.2.2.2.2.2.2.1, x0.2.2.2.2.2.2.2.2.2.2.2.2.2.2.1, x0.2.2.2.2.2.2.2.2.2.2.2.2.2.2.2)
abbrev p2_0 (x : D2) : THead := x
abbrev D3 : Type := Int × Int × Int × Int × Int × Int × Int × Int × List Int × Int × List Int × Int × Int × List Int × Int × Bool × List TSig
abbrev A3 : ETy := eSigned
abbrev fl3 (x0 : TSigned) : D3 := (x0.1, x0.2.1, x0.2.2.1, x0.2.2.2.1, x0.2.2.2.2.1, x0.2.2.2.2.2.1, x0.2.2.2.2.2.2.1, x0.2.2.2.2.2.2.2.1, x0.2.2.2.2.2.2.2.2.1, x0.2.2.2.2.2.2.2.2.2.1, x0.2.2.2.2.2.2.2.2.2.2.1, x0.2.2.2.2.2.2.2.2.2.2.2.1, x0.2.2.2.2.2.2.2.2.2.2.2.2.1, x0.2.2.2.2.2.2.2.2.2.2.2.2.2.1, x0.2.2.2.2.2.2.2.2.2.2.2.2.2.2.1, x0.2.2.2.2.2.2.2.2.2.2.2.2.2.2.2.1, x0.2.2.2.2.2.2.2.2.2.2.2.2.2.2.2.2)
abbrev p3_0 (x : D3) : TSigned := x
abbrev D4 : Type := Int × Int × Int × Int × Int × Int × Int × Int × List Int × Int × List Int × Int × Int × List Int × Int × Bool × Int × Int × Int × Int × Int × Int × Int × Int × List Int × Int × List Int × Int × Int × List Int × Int × Bool
abbrev A4 : ETy := (.cons (.int .i64) (.cons (.int .i64) (.cons (.int .i64) (.cons (.int .i64) (.cons (.int .i64) (.cons (.int .i64) (.cons (.int .i64) (.cons (.int .i64) (.cons (.sl (.cons (.int .i64) .nil)) (.cons (.int .i64) (.cons (.sl (.cons (.int .i64) .nil)) (.cons (.int .i64) (.cons (.int .i64) (.cons (.sl (.cons (.int .i64) .nil)) (.cons (.int .i64) (.cons .bool (.cons (.int .i64) (.cons (.int .i64) (.cons (.int .i64) (.cons (.int .i64) (.cons (.int .i64) (.cons (.int .i64) (.cons (.int .i64) (.cons (.int .i64) (.cons (.sl (.cons (.int .i64) .nil)) (.cons (.int .i64) (.cons (.sl (.cons (.int .i64) .nil)) (.cons (.int .i64) (.cons (.int .i64) (.cons (.sl (.cons (.int .i64) .nil)) (.cons (.int .i64) (.cons .bool .nil))))))))))))))))))))))))))))))))
abbrev fl4 (x0 : THead) (x1 : THead) : D4 := (x0.1, x0.2.1, x0.2.2.1, x0.2.2.2.1, x0.2.2.2.2.1, x0.2.2.2.2.2.1, x0.2.2.2.2.2.2.1, x0.2.2.2.2.2.2.2.1, x0.2.2.2.2.2.2.2.2.1, x0.2.2.2.2.2.2.2.2.2.1, x0.2.2.2.2.2.2.2.2.2.2.1, x0.2.2.2.2.2.2.2.2.2.2.2.1, x0.2.2.2.2.2.2.2.2.2.2.2.2.1, x0.2.2.2.2.2.2.2.2.2.2.2.2.2.1, x0.2.2.2.2.2.2.2.2.2.2.2.2.2.2.1, x0.2.2.2.2.2.2.2.2.2.2.2.2.2.2.2, x1.1, x1.2.1, x1.2.2.1, x1.2.2.2.1, x1.2.2.2.2.1, x1.2.2.2.2.2.1, x1.2.2.2.2.2.2.1, x1.2.2.2.2.2.2.2.1, x1.2.2.2.2.2.2.2.2.1, x1.2.2.2.2.2.2.2.2.2.1, x1.2.2.2.2.2.2.2.2.2.2.1, x1.2.2.2.2.2.2.2.2.2.2.2.1, x1.2.2.2.2.2.2.2.2.2.2.2.2.1, x1.2.2.2.2.2.2.2.2.2.2.2.2.2.1, x1.2.2.2.2.2.2.2.2.2.2.2.2.2.2.1, x1.2.2.2.2.2.2.2.2.2.2.2.2.2.2.2)
abbrev p4_0 (x : D4) : THead := (x.1, x.2.1, x.2.2.1, x.2.2.2.1, x.2.2.2.2.1, x.2.2.2.2.2.1, x.2.2.2.2.2.2.1, x.2.2.2.2.2.2.2.1, x.2.2.2.2.2.2.2.2.1, x.2.2.2.2.2.2.2.2.2.1, x.2.2.2.2.2.2.2.2.2.2.1, x.2.2.2.2.2.2.2.2.2.2.2.1, x.2.2.2.2.2.2.2.2.2.2.2.2.1, x.2.2.2.2.2.2.2.2.2.2.2.2.2.1, x.2.2.2.2.2.2.2.2.2.2.2.2.2.2.1, x.2.2.2.2.2.2.2.2.2.2.2.2.2.2.2.1)
abbrev p4_1 (x : D4) : THead := x.2.2.2.2.2.2.2.2.2.2.2.2.2.2.2.2
abbrev D5 : Type := Int × Int × Int × Int × Int × Int × Int × Int × List Int × Int × List Int × Int × Int × List Int × Int × Bool × Int × Int × Int × Int × Int × Int × Int × Int × List Int × Int × List Int × Int × Int × List Int × Int × Bool × List TSig
abbrev A5 : ETy := (.cons (.int .i64) (.cons (.int .i64) (.cons (.int .i64) (.cons (.int .i64) (.cons (.int .i64) (.cons (.int .i64) (.cons (.int .i64) (.cons (.int .i64) (.cons (.sl (.cons (.int .i64) .nil)) (.cons (.int .i64) (.cons (.sl (.cons (.int .i64) .nil)) (.cons (.int .i64) (.cons (.int .i64) (.cons (.sl (.cons (.int .i64) .nil)) (.cons (.int .i64) (.cons .bool (.cons (.int .i64) (.cons (.int .i64) (.cons (.int .i64) (.cons (.int .i64) (.cons (.int .i64) (.cons (.int .i64) (.cons (.int .i64) (.cons (.int .i64) (.cons (.sl (.cons (.int .i64) .nil)) (.cons (.int .i64) (.cons (.sl (.cons (.int .i64) .nil)) (.cons (.int .i64) (.cons (.int .i64) (.cons (.sl (.cons (.int .i64) .nil)) (.cons (.int .i64) (.cons .bool (.cons (.sl (.cons (.int .i64) (.cons (.int .i64) .nil))) .nil)))))))))))))))))))))))))))))))))
abbrev fl5 (x0 : THead) (x1 : TSigned) : D5 := (x0.1, x0.2.1, x0.2.2.1, x0.2.2.2.1, x0.2.2.2.2.1, x0.2.2.2.2.2.1, x0.2.2.2.2.2.2.1, x0.2.2.2.2.2.2.2.1, x0.2.2.2.2.2.2.2.2.1, x0.2.2.2.2.2.2.2.2.2.1, x0.2.2.2.2.2.2.2.2.2.2.1, x0.2.2.2.2.2.2.2.2.2.2.2.1, x0.2.2.2.2.2.2.2.2.2.2.2.2.1, x0.2.2.2.2.2.2.2.2.2.2.2.2.2.1, x0.2.2.2.2.2.2.2.2.2.2.2.2.2.2.1, x0.2.2.2.2.2.2.2.2.2.2.2.2.2.2.2, x1.1, x1.2.1, x1.2.2.1, x1.2.2.2.1, x1.2.2.2.2.1, x1.2.2.2.2.2.1, x1.2.2.2.2.2.2.1, x1.2.2.2.2.2.2.2.1, x1.2.2.2.2.2.2.2.2.1, x1.2.2.2.2.2.2.2.2.2.1, x1.2.2.2.2.2.2.2.2.2.2.1, x1.2.2.2.2.2.2.2.2.2.2.2.1, x1.2.2.2.2.2.2.2.2.2.2.2.2.1, x1.2.2.2.2.2.2.2.2.2.2.2.2.2.1, x1.2.2.2.2.2.2.2.2.2.2.2.2.2.2.1, x1.2.2.2.2.2.2.2.2.2.2.2.2.2.2.2.1, x1.2.2.2.2.2.2.2.2.2.2.2.2.2.2.2.2)
abbrev p5_0 (x : D5) : THead := (x.1, x.2.1, x.2.2.1, x.2.2.2.1, x.2.2.2.2.1, x.2.2.2.2.2.1, x.2.2.2.2.2.2.1, x.2.2.2.2.2.2.2.1, x.2.2.2.2.2.2.2.2.1, x.2.2.2.2.2.2.2.2.2.1, x.2.2.2.2.2.2.2.2.2.2.1, x.2.2.2.2.2.2.2.2.2.2.2.1, x.2.2.2.2.2.2.2.2.2.2.2.2.1, x.2.2.2.2.2.2.2.2.2.2.2.2.2.1, x.2.2.2.2.2.2.2.2.2.2.2.2.2.2.1, x.2.2.2.2.2.2.2.2.2.2.2.2.2.2.2.1)
abbrev p5_1 (x : D5) : TSigned := x.2.2.2.2.2.2.2.2.2.2.2.2.2.2.2.2
abbrev D6 : Type := Int × Int × Int × Int × Int × Int × Int × Int × List Int × Int × List Int × Int × Int × List Int × Int × Bool × List TSig × List Int × Int
abbrev A6 : ETy := (.cons (.int .i64) (.cons (.int .i64) (.cons (.int .i64) (.cons (.int .i64) (.cons (.int .i64) (.cons (.int .i64) (.cons (.int .i64) (.cons (.int .i64) (.cons (.sl (.cons (.int .i64) .nil)) (.cons (.int .i64) (.cons (.sl (.cons (.int .i64) .nil)) (.cons (.int .i64) (.cons (.int .i64) (.cons (.sl (.cons (.int .i64) .nil)) (.cons (.int .i64) (.cons .bool (.cons (.sl (.cons (.int .i64) (.cons (.int .i64) .nil))) (.cons (.sl (.cons (.int .i64) .nil)) (.cons (.int .i64) .nil)))))))))))))))))))
abbrev fl6 (x0 : TSigned) (x1 : TKeys) : D6 := (x0.1, x0.2.1, x0.2.2.1, x0.2.2.2.1, x0.2.2.2.2.1, x0.2.2.2.2.2.1, x0.2.2.2.2.2.2.1, x0.2.2.2.2.2.2.2.1, x0.2.2.2.2.2.2.2.2.1, x0.2.2.2.2.2.2.2.2.2.1, x0.2.2.2.2.2.2.2.2.2.2.1, x0.2.2.2.2.2.2.2.2.2.2.2.1, x0.2.2.2.2.2.2.2.2.2.2.2.2.1, x0.2.2.2.2.2.2.2.2.2.2.2.2.2.1, x0.2.2.2.2.2.2.2.2.2.2.2.2.2.2.1, x0.2.2.2.2.2.2.2.2.2.2.2.2.2.2.2.1, x0.2.2.2.2.2.2.2.2.2.2.2.2.2.2.2.2, x1.1, x1.2)
abbrev p6_0 (x : D6) : TSigned := (x.1, x.2.1, x.2.2.1, x.2.2.2.1, x.2.2.2.2.1, x.2.2.2.2.2.1, x.2.2.2.2.2.2.1, x.2.2.2.2.2.2.2.1, x.2.2.2.2.2.2.2.2.1, x.2.2.2.2.2.2.2.2.2.1, x.2.2.2.2.2.2.2.2.2.2.1, x.2.2.2.2.2.2.2.2.2.2.2.1, x.2.2.2.2.2.2.2.2.2.2.2.2.1, x.2.2.2.2.2.2.2.2.2.2.2.2.2.1, x.2.2.2.2.2.2.2.2.2.2.2.2.2.2.1, x.2.2.2.2.2.2.2.2.2.2.2.2.2.2.2.1, x.2.2.2.2.2.2.2.2.2.2.2.2.2.2.2.2.1)
abbrev p6_1 (x : D6) : TKeys := x.2.2.2.2.2.2.2.2.2.2.2.2.2.2.2.2.2
abbrev D7 : Type := Int × Int × Int × Int × Int × Int × Int × Int × List Int × Int × List Int × Int × Int × List Int × Int × Bool × List TSig × Int × Int × Int × Int × Int × Int × Int × Int × List Int × Int × List Int × Int × Int × List Int × Int × Bool × List TSig
abbrev A7 : ETy := (.cons (.int .i64) (.cons (.int .i64) (.cons (.int .i64) (.cons (.int .i64) (.cons (.int .i64) (.cons (.int .i64) (.cons (.int .i64) (.cons (.int .i64) (.cons (.sl (.cons (.int .i64) .nil)) (.cons (.int .i64) (.cons (.sl (.cons (.int .i64) .nil)) (.cons (.int .i64) (.cons (.int .i64) (.cons (.sl (.cons (.int .i64) .nil)) (.cons (.int .i64) (.cons .bool (.cons (.sl (.cons (.int .i64) (.cons (.int .i64) .nil))) (.cons (.int .i64) (.cons (.int .i64) (.cons (.int .i64) (.cons (.int .i64) (.cons (.int .i64) (.cons (.int .i64) (.cons (.int .i64) (.cons (.int .i64) (.cons (.sl (.cons (.int .i64) .nil)) (.cons (.int .i64) (.cons (.sl (.cons (.int .i64) .nil)) (.cons (.int .i64) (.cons (.int .i64) (.cons (.sl (.cons (.int .i64) .nil)) (.cons (.int .i64) (.cons .bool (.cons (.sl (.cons (.int .i64) (.cons (.int .i64) .nil))) .nil))))))))))))))))))))))))))))))))))
abbrev fl7 (x0 : TSigned) (x1 : TSigned) : D7 := (x0.1, x0.2.1, x0.2.2.1, x0.2.2.2.1, x0.2.2.2.2.1, x0.2.2.2.2.2.1, x0.2.2.2.2.2.2.1, x0.2.2.2.2.2.2.2.1, x0.2.2.2.2.2.2.2.2.1, x0.2.2.2.2.2.2.2.2.2.1, x0.2.2.2.2.2.2.2.2.2.2.1, x0.2.2.2.2.2.2.2.2.2.2.2.1, x0.2.2.2.2.2.2.2.2.2.2.2.2.1, x0.2.2.2.2.2.2.2.2.2.2.2.2.2.1, x0.2.2.2.2.2.2.2.2.2.2.2.2.2.2.1, x0.2.2.2.2.2.2.2.2.2.2.2.2.2.2.2.1, x0.2.2.2.2.2.2.2.2.2.2.2.2.2.2.2.2, x1.1, x1.2.1, x1.2.2.1, x1.2.2.2.1, x1.2.2.2.2.1, x1.2.2.2.2.2.1, x1.2.2.2.2.2.2.1, x1.2.2.2.2.2.2.2.1, x1.2.2.2.2.2.2.2.2.1, x1.2.2.2.2.2.2.2.2.2.1, x1.2.2.2.2.2.2.2.2.2.2.1, x1.2.2.2.2.2.2.2.2.2.2.2.1, x1.2.2.2.2.2.2.2.2.2.2.2.2.1, x1.2.2.2.2.2.2.2.2.2.2.2.2.2.1, x1.2.2.2.2.2.2.2.2.2.2.2.2.2.2.1, x1.2.2.2.2.2.2.2.2.2.2.2.2.2.2.2.1, x1.2.2.2.2.2.2.2.2.2.2.2.2.2.2.2.2)
abbrev p7_0 (x : D7) : TSigned := (x.1, x.2.1, x.2.2.1, x.2.2.2.1, x.2.2.2.2.1, x.2.2.2.2.2.1, x.2.2.2.2.2.2.1, x.2.2.2.2.2.2.2.1, x.2.2.2.2.2.2.2.2.1, x.2.2.2.2.2.2.2.2.2.1, x.2.2.2.2.2.2.2.2.2.2.1, x.2.2.2.2.2.2.2.2.2.2.2.1, x.2.2.2.2.2.2.2.2.2.2.2.2.1, x.2.2.2.2.2.2.2.2.2.2.2.2.2.1, x.2.2.2.2.2.2.2.2.2.2.2.2.2.2.1, x.2.2.2.2.2.2.2.2.2.2.2.2.2.2.2.1, x.2.2.2.2.2.2.2.2.2.2.2.2.2.2.2.2.1)
abbrev p7_1 (x : D7) : TSigned := x.2.2.2.2.2.2.2.2.2.2.2.2.2.2.2.2.2
abbrev D8 : Type := Int × ByteArray × Int × Int × List ByteArray × ByteArray × Int × Int × List ByteArray × Int × List Int × Int × List Int × Int × ByteArray × Int × Int × List ByteArray × ByteArray × Int × Int × List ByteArray × Int × List Int × Int × List Int
abbrev A8 : ETy := (.cons (.int .i64) (.cons .str (.cons (.int .i64) (.cons (.int .i64) (.cons (.sl (.cons .str .nil)) (.cons .str (.cons (.int .i64) (.cons (.int .i64) (.cons (.sl (.cons .str .nil)) (.cons (.int .i64) (.cons (.sl (.cons (.int .i64) .nil)) (.cons (.int .i64) (.cons (.sl (.cons (.int .i64) .nil)) (.cons (.int .i64) (.cons .str (.cons (.int .i64) (.cons (.int .i64) (.cons (.sl (.cons .str .nil)) (.cons .str (.cons (.int .i64) (.cons (.int .i64) (.cons (.sl (.cons .str .nil)) (.cons (.int .i64) (.cons (.sl (.cons (.int .i64) .nil)) (.cons (.int .i64) (.cons (.sl (.cons (.int .i64) .nil)) .nil))))))))))))))))))))))))))
abbrev fl8 (x0 : TGap) (x1 : TGap) : D8 := (x0.1, x0.2.1, x0.2.2.1, x0.2.2.2.1, x0.2.2.2.2.1, x0.2.2.2.2.2.1, x0.2.2.2.2.2.2.1, x0.2.2.2.2.2.2.2.1, x0.2.2.2.2.2.2.2.2.1, x0.2.2.2.2.2.2.2.2.2.1, x0.2.2.2.2.2.2.2.2.2.2.1, x0.2.2.2.2.2.2.2.2.2.2.2.1, x0.2.2.2.2.2.2.2.2.2.2.2.2, x1.1, x1.2.1, x1.2.2.1, x1.2.2.2.1, x1.2.2.2.2.1, x1.2.2.2.2.2.1, x1.2.2.2.2.2.2.1, x1.2.2.2.2.2.2.2.1, x1.2.2.2.2.2.2.2.2.1, x1.2.2.2.2.2.2.2.2.2.1, x1.2.2.2.2.2.2.2.2.2.2.1, x1.2.2.2.2.2.2.2.2.2.2.2.1, x1.2.2.2.2.2.2.2.2.2.2.2.2)
abbrev p8_0 (x : D8) : TGap := (x.1, x.2.1, x.2.2.1, x.2.2.2.1, x.2.2.2.2.1, x.2.2.2.2.2.1, x.2.2.2.2.2.2.1, x.2.2.2.2.2.2.2.1, x.2.2.2.2.2.2.2.2.1, x.2.2.2.2.2.2.2.2.2.1, x.2.2.2.2.2.2.2.2.2.2.1, x.2.2.2.2.2.2.2.2.2.2.2.1, x.2.2.2.2.2.2.2.2.2.2.2.2.1)
abbrev p8_1 (x : D8) : TGap := x.2.2.2.2.2.2.2.2.2.2.2.2.2
abbrev D9 : Type := List TSigned × Bool × ByteArray × Int × Int × List ByteArray × Int × List Int × Int × ByteArray × Int × Int × List ByteArray × ByteArray × Int × Int × List ByteArray × Int × List Int × Int × List Int × List TSigned × Bool × ByteArray × Int × Int × List ByteArray × Int × List Int × Int × ByteArray × Int × Int × List ByteArray × ByteArray × Int × Int × List ByteArray × Int × List Int × Int × List Int
abbrev A9 : ETy := (.cons (.sl eSigned) (.cons .bool (.cons .str (.cons (.int .i64) (.cons (.int .i64) (.cons (.sl (.cons .str .nil)) (.cons (.int .i64) (.cons (.sl (.cons (.int .i64) .nil)) (.cons (.int .i64) (.cons .str (.cons (.int .i64) (.cons (.int .i64) (.cons (.sl (.cons .str .nil)) (.cons .str (.cons (.int .i64) (.cons (.int .i64) (.cons (.sl (.cons .str .nil)) (.cons (.int .i64) (.cons (.sl (.cons (.int .i64) .nil)) (.cons (.int .i64) (.cons (.sl (.cons (.int .i64) .nil)) (.cons (.sl eSigned) (.cons .bool (.cons .str (.cons (.int .i64) (.cons (.int .i64) (.cons (.sl (.cons .str .nil)) (.cons (.int .i64) (.cons (.sl (.cons (.int .i64) .nil)) (.cons (.int .i64) (.cons .str (.cons (.int .i64) (.cons (.int .i64) (.cons (.sl (.cons .str .nil)) (.cons .str (.cons (.int .i64) (.cons (.int .i64) (.cons (.sl (.cons .str .nil)) (.cons (.int .i64) (.cons (.sl (.cons (.int .i64) .nil)) (.cons (.int .i64) (.cons (.sl (.cons (.int .i64) .nil)) .nil))))))))))))))))))))))))))))))))))))))))))
abbrev fl9 (x0 : TAnswer) (x1 : TAnswer) : D9 := (x0.1, x0.2.1, x0.2.2.1, x0.2.2.2.1, x0.2.2.2.2.1, x0.2.2.2.2.2.1, x0.2.2.2.2.2.2.1, x0.2.2.2.2.2.2.2.1, x0.2.2.2.2.2.2.2.2.1, x0.2.2.2.2.2.2.2.2.2.1, x0.2.2.2.2.2.2.2.2.2.2.1, x0.2.2.2.2.2.2.2.2.2.2.2.1, x0.2.2.2.2.2.2.2.2.2.2.2.2.1, x0.2.2.2.2.2.2.2.2.2.2.2.2.2.1, x0.2.2.2.2.2.2.2.2.2.2.2.2.2.2.1, x0.2.2.2.2.2.2.2.2.2.2.2.2.2.2.2.1, x0.2.2.2.2.2.2.2.2.2.2.2.2.2.2.2.2.1, x0.2.2.2.2.2.2.2.2.2.2.2.2.2.2.2.2.2.1, x0.2.2.2.2.2.2.2.2.2.2.2.2.2.2.2.2.2.2.1, x0.2.2.2.2.2.2.2.2.2.2.2.2.2.2.2.2.2.2.2.1, x0.2.2.2.2.2.2.2.2.2.2.2.2.2.2.2.2.2.2.2.2, x1.1, x1.2.1, x1.2.2.1, x1.2.2.2.1, x1.2.2.2.2.1, x1.2.2.2.2.2.1, x1.2.2.2.2.2.2.1, x1.2.2.2.2.2.2.2.1, x1.2.2.2.2.2.2.2.2.1, x1.2.2.2.2.2.2.2.2.2.1, x1.2.2.2.2.2.2.2.2.2.2.1, x1.2.2.2.2.2.2.2.2.2.2.2.1, x1.2.2.2.2.2.2.2.2.2.2.2.2.1, x1.2.2.2.2.2.2.2.2.2.2.2.2.2.1, x1.2.2.2.2.2.2.2.2.2.2.2.2.2.2.1, x1.2.2.2.2.2.2.2.2.2.2.2.2.2.2.2.1, x1.2.2.2.2.2.2.2.2.2.2.2.2.2.2.2.2.1, x1.2.2.2.2.2.2.2.2.2.2.2.2.2.2.2.2.2.1, x1.2.2.2.2.2.2.2.2.2.2.2.2.2.2.2.2.2.2.1, x1.2.2.2.2.2.2.2.2.2.2.2.2.2.2.2.2.2.2.2.1, x1.2.2.2.2.2.2.2.2.2.2.2.2.2.2.2.2.2.2.2.2)
abbrev p9_0 (x : D9) : TAnswer := (x.1, x.2.1, x.2.2.1, x.2.2.2.1, x.2.2.2.2.1, x.2.2.2.2.2.1, x.2.2.2.2.2.2.1, x.2.2.2.2.2.2.2.1, x.2.2.2.2.2.2.2.2.1, x.2.2.2.2.2.2.2.2.2.1, x.2.2.2.2.2.2.2.2.2.2.1, x.2.2.2.2.2.2.2.2.2.2.2.1, x.2.2.2.2.2.2.2.2.2.2.2.2.1, x.2.2.2.2.2.2.2.2.2.2.2.2.2.1, x.2.2.2.2.2.2.2.2.2.2.2.2.2.2.1, x.2.2.2.2.2.2.2.2.2.2.2.2.2.2.2.1, x.2.2.2.2.2.2.2.2.2.2.2.2.2.2.2.2.1, x.2.2.2.2.2.2.2.2.2.2.2.2.2.2.2.2.2.1, x.2.2.2.2.2.2.2.2.2.2.2.2.2.2.2.2.2.2.1, x.2.2.2.2.2.2.2.2.2.2.2.2.2.2.2.2.2.2.2.1, x.2.2.2.2.2.2.2.2.2.2.2.2.2.2.2.2.2.2.2.2.1)
abbrev p9_1 (x : D9) : TAnswer := x.2.2.2.2.2.2.2.2.2.2.2.2.2.2.2.2.2.2.2.2.2
abbrev D10 : Type := Int × ByteArray × Int × Int × List ByteArray × ByteArray × Int × Int × List ByteArray × Int × List Int × Int × List Int × Int
abbrev A10 : ETy := (.cons (.int .i64) (.cons .str (.cons (.int .i64) (.cons (.int .i64) (.cons (.sl (.cons .str .nil)) (.cons .str (.cons (.int .i64) (.cons (.int .i64) (.cons (.sl (.cons .str .nil)) (.cons (.int .i64) (.cons (.sl (.cons (.int .i64) .nil)) (.cons (.int .i64) (.cons (.sl (.cons (.int .i64) .nil)) (.cons (.int .i64) .nil))))))))))))))
abbrev fl10 (x0 : TGap) (x1 : Int) : D10 := (x0.1, x0.2.1, x0.2.2.1, x0.2.2.2.1, x0.2.2.2.2.1, x0.2.2.2.2.2.1, x0.2.2.2.2.2.2.1, x0.2.2.2.2.2.2.2.1, x0.2.2.2.2.2.2.2.2.1, x0.2.2.2.2.2.2.2.2.2.1, x0.2.2.2.2.2.2.2.2.2.2.1, x0.2.2.2.2.2.2.2.2.2.2.2.1, x0.2.2.2.2.2.2.2.2.2.2.2.2, x1)
abbrev p10_0 (x : D10) : TGap := (x.1, x.2.1, x.2.2.1, x.2.2.2.1, x.2.2.2.2.1, x.2.2.2.2.2.1, x.2.2.2.2.2.2.1, x.2.2.2.2.2.2.2.1, x.2.2.2.2.2.2.2.2.1, x.2.2.2.2.2.2.2.2.2.1, x.2.2.2.2.2.2.2.2.2.2.1, x.2.2.2.2.2.2.2.2.2.2.2.1, x.2.2.2.2.2.2.2.2.2.2.2.2.1)
abbrev p10_1 (x : D10) : Int := x.2.2.2.2.2.2.2.2.2.2.2.2.2
abbrev D11 : Type := List TSigned × Bool × ByteArray × Int × Int × List ByteArray × Int × List Int × Int × ByteArray × Int × Int × List ByteArray × ByteArray × Int × Int × List ByteArray × Int × List Int × Int × List Int × Int
abbrev A11 : ETy := (.cons (.sl eSigned) (.cons .bool (.cons .str (.cons (.int .i64) (.cons (.int .i64) (.cons (.sl (.cons .str .nil)) (.cons (.int .i64) (.cons (.sl (.cons (.int .i64) .nil)) (.cons (.int .i64) (.cons .str (.cons (.int .i64) (.cons (.int .i64) (.cons (.sl (.cons .str .nil)) (.cons .str (.cons (.int .i64) (.cons (.int .i64) (.cons (.sl (.cons .str .nil)) (.cons (.int .i64) (.cons (.sl (.cons (.int .i64) .nil)) (.cons (.int .i64) (.cons (.sl (.cons (.int .i64) .nil)) (.cons (.int .i64) .nil))))))))))))))))))))))
abbrev fl11 (x0 : TAnswer) (x1 : Int) : D11 := (x0.1, x0.2.1, x0.2.2.1, x0.2.2.2.1, x0.2.2.2.2.1, x0.2.2.2.2.2.1, x0.2.2.2.2.2.2.1, x0.2.2.2.2.2.2.2.1, x0.2.2.2.2.2.2.2.2.1, x0.2.2.2.2.2.2.2.2.2.1, x0.2.2.2.2.2.2.2.2.2.2.1, x0.2.2.2.2.2.2.2.2.2.2.2.1, x0.2.2.2.2.2.2.2.2.2.2.2.2.1, x0.2.2.2.2.2.2.2.2.2.2.2.2.2.1, x0.2.2.2.2.2.2.2.2.2.2.2.2.2.2.1, x0.2.2.2.2.2.2.2.2.2.2.2.2.2.2.2.1, x0.2.2.2.2.2.2.2.2.2.2.2.2.2.2.2.2.1, x0.2.2.2.2.2.2.2.2.2.2.2.2.2.2.2.2.2.1, x0.2.2.2.2.2.2.2.2.2.2.2.2.2.2.2.2.2.2.1, x0.2.2.2.2.2.2.2.2.2.2.2.2.2.2.2.2.2.2.2.1, x0.2.2.2.2.2.2.2.2.2.2.2.2.2.2.2.2.2.2.2.2, x1)
abbrev p11_0 (x : D11) : TAnswer := (x.1, x.2.1, x.2.2.1, x.2.2.2.1, x.2.2.2.2.1, x.2.2.2.2.2.1, x.2.2.2.2.2.2.1, x.2.2.2.2.2.2.2.1, x.2.2.2.2.2.2.2.2.1, x.2.2.2.2.2.2.2.2.2.1, x.2.2.2.2.2.2.2.2.2.2.1, x.2.2.2.2.2.2.2.2.2.2.2.1, x.2.2.2.2.2.2.2.2.2.2.2.2.1, x.2.2.2.2.2.2.2.2.2.2.2.2.2.1, x.2.2.2.2.2.2.2.2.2.2.2.2.2.2.1, x.2.2.2.2.2.2.2.2.2.2.2.2.2.2.2.1, x.2.2.2.2.2.2.2.2.2.2.2.2.2.2.2.2.1, x.2.2.2.2.2.2.2.2.2.2.2.2.2.2.2.2.2.1, x.2.2.2.2.2.2.2.2.2.2.2.2.2.2.2.2.2.2.1, x.2.2.2.2.2.2.2.2.2.2.2.2.2.2.2.2.2.2.2.1, x.2.2.2.2.2.2.2.2.2.2.2.2.2.2.2.2.2.2.2.2.1)
abbrev p11_1 (x : D11) : Int := x.2.2.2.2.2.2.2.2.2.2.2.2.2.2.2.2.2.2.2.2.2
noncomputable abbrev lsHead (x : THead) : List Lf := [.val (.int .i64 x.1), .val (.int .i64 x.2.1), .val (.int .i64 x.2.2.1), .val (.int .i64 x.2.2.2.1), .val (.int .i64 x.2.2.2.2.1), .val (.int .i64 x.2.2.2.2.2.1), .val (.int .i64 x.2.2.2.2.2.2.1), .val (.int .i64 x.2.2.2.2.2.2.2.1), .val (.sl (.cons (.int .i64) .nil) x.2.2.2.2.2.2.2.2.1), .val (.int .i64 x.2.2.2.2.2.2.2.2.2.1), .val (.sl (.cons (.int .i64) .nil) x.2.2.2.2.2.2.2.2.2.2.1), .val (.int .i64 x.2.2.2.2.2.2.2.2.2.2.2.1), .val (.int .i64 x.2.2.2.2.2.2.2.2.2.2.2.2.1), .val (.sl (.cons (.int .i64) .nil) x.2.2.2.2.2.2.2.2.2.2.2.2.2.1), .val (.int .i64 x.2.2.2.2.2.2.2.2.2.2.2.2.2.2.1), .val (.bool x.2.2.2.2.2.2.2.2.2.2.2.2.2.2.2)]
noncomputable abbrev lsSigned (x : TSigned) : List Lf := [.val (.int .i64 x.1), .val (.int .i64 x.2.1), .val (.int .i64 x.2.2.1), .val (.int .i64 x.2.2.2.1), .val (.int .i64 x.2.2.2.2.1), .val (.int .i64 x.2.2.2.2.2.1), .val (.int .i64 x.2.2.2.2.2.2.1), .val (.int .i64 x.2.2.2.2.2.2.2.1), .val (.sl (.cons (.int .i64) .nil) x.2.2.2.2.2.2.2.2.1), .val (.int .i64 x.2.2.2.2.2.2.2.2.2.1), .val (.sl (.cons (.int .i64) .nil) x.2.2.2.2.2.2.2.2.2.2.1), .val (.int .i64 x.2.2.2.2.2.2.2.2.2.2.2.1), .val (.int .i64 x.2.2.2.2.2.2.2.2.2.2.2.2.1), .val (.sl (.cons (.int .i64) .nil) x.2.2.2.2.2.2.2.2.2.2.2.2.2.1), .val (.int .i64 x.2.2.2.2.2.2.2.2.2.2.2.2.2.2.1), .val (.bool x.2.2.2.2.2.2.2.2.2.2.2.2.2.2.2.1), .val (.sl (.cons (.int .i64) (.cons (.int .i64) .nil)) x.2.2.2.2.2.2.2.2.2.2.2.2.2.2.2.2)]
noncomputable abbrev lsGap (x : TGap) : List Lf := [.val (.int .i64 x.1), .val (.str x.2.1), .val (.int .i64 x.2.2.1), .val (.int .i64 x.2.2.2.1), .val (.sl (.cons .str .nil) x.2.2.2.2.1), .val (.str x.2.2.2.2.2.1), .val (.int .i64 x.2.2.2.2.2.2.1), .val (.int .i64 x.2.2.2.2.2.2.2.1), .val (.sl (.cons .str .nil) x.2.2.2.2.2.2.2.2.1), .val (.int .i64 x.2.2.2.2.2.2.2.2.2.1), .val (.sl (.cons (.int .i64) .nil) x.2.2.2.2.2.2.2.2.2.2.1), .val (.int .i64 x.2.2.2.2.2.2.2.2.2.2.2.1), .val (.sl (.cons (.int .i64) .nil) x.2.2.2.2.2.2.2.2.2.2.2.2)]
noncomputable abbrev lsAnswer (x : TAnswer) : List Lf := [.val (.sl eSigned x.1), .val (.bool x.2.1), .val (.str x.2.2.1), .val (.int .i64 x.2.2.2.1), .val (.int .i64 x.2.2.2.2.1), .val (.sl (.cons .str .nil) x.2.2.2.2.2.1), .val (.int .i64 x.2.2.2.2.2.2.1), .val (.sl (.cons (.int .i64) .nil) x.2.2.2.2.2.2.2.1), .val (.int .i64 x.2.2.2.2.2.2.2.2.1), .val (.str x.2.2.2.2.2.2.2.2.2.1), .val (.int .i64 x.2.2.2.2.2.2.2.2.2.2.1), .val (.int .i64 x.2.2.2.2.2.2.2.2.2.2.2.1), .val (.sl (.cons .str .nil) x.2.2.2.2.2.2.2.2.2.2.2.2.1), .val (.str x.2.2.2.2.2.2.2.2.2.2.2.2.2.1), .val (.int .i64 x.2.2.2.2.2.2.2.2.2.2.2.2.2.2.1), .val (.int .i64 x.2.2.2.2.2.2.2.2.2.2.2.2.2.2.2.1), .val (.sl (.cons .str .nil) x.2.2.2.2.2.2.2.2.2.2.2.2.2.2.2.2.1), .val (.int .i64 x.2.2.2.2.2.2.2.2.2.2.2.2.2.2.2.2.2.1), .val (.sl (.cons (.int .i64) .nil) x.2.2.2.2.2.2.2.2.2.2.2.2.2.2.2.2.2.2.1), .val (.int .i64 x.2.2.2.2.2.2.2.2.2.2.2.2.2.2.2.2.2.2.2.1), .val (.sl (.cons (.int .i64) .nil) x.2.2.2.2.2.2.2.2.2.2.2.2.2.2.2.2.2.2.2.2)]
abbrev tys : List (Nat × TI) := [(3, ⟨.int .i64, false, [.val (.int .i64 (0 : Int))], 8, [], (.cons (.int .i64) .nil)⟩),
  (4, ⟨.bool, false, [.val (.bool false)], 1, [], (.cons .bool .nil)⟩),
  (5, ⟨.int .u8, false, [.val (.int .u8 (0 : Int))], 1, [], (.cons (.int .u8) .nil)⟩),
  (9, ⟨.str, false, [.val (.str (⟨#[]⟩ : ByteArray))], 16, [], (.cons .str .nil)⟩),
  (22, ⟨.sl 163, false, [.nil0], 24, [], (.cons (.sl (.cons (.sl V.eSigned) (.cons (.sl V.eEntry) .nil))) .nil)⟩),
  (24, ⟨.st, false, [.nil0, .val (.int .i64 (0 : Int))], 32, [(0, 1, false), (1, 1, false)], (.cons (.sl (.cons (.sl V.eSigned) (.cons (.sl V.eEntry) .nil))) (.cons (.int .i64) .nil))⟩),
  (26, ⟨.sl 66, false, [.nil0], 24, [], (.cons (.sl V.eSigned) .nil)⟩),
  (27, ⟨.sl 9, false, [.nil0], 24, [], (.cons (.sl (.cons .str .nil)) .nil)⟩),
  (29, ⟨.st, false, [.val (.str (⟨#[]⟩ : ByteArray)), .val (.int .i64 (0 : Int)), .val (.int .i64 (0 : Int)), .nil0], 56, [(0, 1, false), (1, 1, false), (2, 1, false), (3, 1, false)], V.eEntry⟩),
  (30, ⟨.sl 3, false, [.nil0], 24, [], (.cons (.sl (.cons (.int .i64) .nil)) .nil)⟩),
  (32, ⟨.st, false, [.val (.int .i64 (0 : Int)), .nil0], 32, [(0, 1, false), (1, 1, false)], (.cons (.int .i64) (.cons (.sl (.cons (.int .i64) .nil)) .nil))⟩),
  (34, ⟨.st, false, [.val (.int .i64 (0 : Int)), .val (.str (⟨#[]⟩ : ByteArray)), .val (.int .i64 (0 : Int)), .val (.int .i64 (0 : Int)), .nil0, .val (.str (⟨#[]⟩ : ByteArray)), .val (.int .i64 (0 : Int)), .val (.int .i64 (0 : Int)), .nil0, .val (.int .i64 (0 : Int)), .nil0, .val (.int .i64 (0 : Int)), .nil0], 184, [(0, 1, false), (1, 4, true), (5, 4, true), (9, 2, true), (11, 2, true)], V.eGap⟩),
  (36, ⟨.st, false, [.nil0, .val (.bool false), .val (.str (⟨#[]⟩ : ByteArray)), .val (.int .i64 (0 : Int)), .val (.int .i64 (0 : Int)), .nil0, .val (.int .i64 (0 : Int)), .nil0, .val (.int .i64 (0 : Int)), .val (.str (⟨#[]⟩ : ByteArray)), .val (.int .i64 (0 : Int)), .val (.int .i64 (0 : Int)), .nil0, .val (.str (⟨#[]⟩ : ByteArray)), .val (.int .i64 (0 : Int)), .val (.int .i64 (0 : Int)), .nil0, .val (.int .i64 (0 : Int)), .nil0, .val (.int .i64 (0 : Int)), .nil0], 304, [(0, 1, false), (1, 1, false), (2, 4, true), (6, 2, true), (8, 13, true)], V.eAnswer⟩),
  (38, ⟨.sl 142, false, [.nil0], 24, [], (.cons (.sl (.cons (.sl V.eSigned) (.cons (.sl V.eEntry) .nil))) .nil)⟩),
  (40, ⟨.st, false, [.nil0, .val (.int .i64 (0 : Int))], 32, [(0, 1, false), (1, 1, false)], (.cons (.sl (.cons (.sl V.eSigned) (.cons (.sl V.eEntry) .nil))) (.cons (.int .i64) .nil))⟩),
  (58, ⟨.sl 5, false, [.nil0], 24, [], (.cons (.sl (.cons (.int .u8) .nil)) .nil)⟩),
  (61, ⟨.st, false, [.nil0, .val (.int .i64 (0 : Int))], 32, [(0, 1, false), (1, 1, false)], (.cons (.sl (.cons (.int .i64) .nil)) (.cons (.int .i64) .nil))⟩),
  (63, ⟨.st, false, [.val (.int .i64 (0 : Int)), .val (.int .i64 (0 : Int)), .val (.int .i64 (0 : Int)), .val (.int .i64 (0 : Int)), .val (.int .i64 (0 : Int)), .val (.int .i64 (0 : Int)), .val (.int .i64 (0 : Int)), .val (.int .i64 (0 : Int)), .nil0, .val (.int .i64 (0 : Int)), .nil0, .val (.int .i64 (0 : Int)), .val (.int .i64 (0 : Int)), .nil0, .val (.int .i64 (0 : Int)), .val (.bool false)], 176, [(0, 1, false), (1, 1, false), (2, 1, false), (3, 1, false), (4, 1, false), (5, 1, false), (6, 1, false), (7, 1, false), (8, 2, true), (10, 2, true), (12, 1, false), (13, 2, true), (15, 1, false)], V.eHead⟩),
  (64, ⟨.sl 88, false, [.nil0], 24, [], (.cons (.sl (.cons (.int .i64) (.cons (.int .i64) .nil))) .nil)⟩),
  (66, ⟨.st, false, [.val (.int .i64 (0 : Int)), .val (.int .i64 (0 : Int)), .val (.int .i64 (0 : Int)), .val (.int .i64 (0 : Int)), .val (.int .i64 (0 : Int)), .val (.int .i64 (0 : Int)), .val (.int .i64 (0 : Int)), .val (.int .i64 (0 : Int)), .nil0, .val (.int .i64 (0 : Int)), .nil0, .val (.int .i64 (0 : Int)), .val (.int .i64 (0 : Int)), .nil0, .val (.int .i64 (0 : Int)), .val (.bool false), .nil0], 200, [(0, 16, true), (16, 1, false)], V.eSigned⟩),
  (88, ⟨.st, true, [.val (.int .i64 (0 : Int)), .val (.int .i64 (0 : Int))], 16, [(0, 1, false), (1, 1, false)], (.cons (.int .i64) (.cons (.int .i64) .nil))⟩),
  (111, ⟨.sl 29, false, [.nil0], 24, [], (.cons (.sl V.eEntry) .nil)⟩),
  (126, ⟨.st, false, [.nil0, .val (.int .i64 (0 : Int))], 32, [(0, 1, false), (1, 1, false)], (.cons (.sl (.cons (.int .i64) .nil)) (.cons (.int .i64) .nil))⟩),
  (128, ⟨.st, false, [.val (.int .i64 (0 : Int)), .val (.int .i64 (0 : Int)), .val (.int .i64 (0 : Int)), .val (.int .i64 (0 : Int)), .val (.int .i64 (0 : Int)), .val (.int .i64 (0 : Int)), .val (.int .i64 (0 : Int)), .val (.int .i64 (0 : Int)), .nil0, .val (.int .i64 (0 : Int)), .nil0, .val (.int .i64 (0 : Int)), .val (.int .i64 (0 : Int)), .nil0, .val (.int .i64 (0 : Int)), .val (.bool false)], 176, [(0, 1, false), (1, 1, false), (2, 1, false), (3, 1, false), (4, 1, false), (5, 1, false), (6, 1, false), (7, 1, false), (8, 2, true), (10, 2, true), (12, 1, false), (13, 2, true), (15, 1, false)], V.eHead⟩),
  (129, ⟨.sl 343, false, [.nil0], 24, [], (.cons (.sl (.cons (.int .i64) (.cons (.int .i64) .nil))) .nil)⟩),
  (131, ⟨.st, false, [.val (.int .i64 (0 : Int)), .val (.int .i64 (0 : Int)), .val (.int .i64 (0 : Int)), .val (.int .i64 (0 : Int)), .val (.int .i64 (0 : Int)), .val (.int .i64 (0 : Int)), .val (.int .i64 (0 : Int)), .val (.int .i64 (0 : Int)), .nil0, .val (.int .i64 (0 : Int)), .nil0, .val (.int .i64 (0 : Int)), .val (.int .i64 (0 : Int)), .nil0, .val (.int .i64 (0 : Int)), .val (.bool false), .nil0], 200, [(0, 16, true), (16, 1, false)], V.eSigned⟩),
  (142, ⟨.st, false, [.nil0, .nil0], 48, [(0, 1, false), (1, 1, false)], (.cons (.sl V.eSigned) (.cons (.sl V.eEntry) .nil))⟩),
  (160, ⟨.sl 131, false, [.nil0], 24, [], (.cons (.sl V.eSigned) .nil)⟩),
  (161, ⟨.sl 266, false, [.nil0], 24, [], (.cons (.sl V.eEntry) .nil)⟩),
  (163, ⟨.st, false, [.nil0, .nil0], 48, [(0, 1, false), (1, 1, false)], (.cons (.sl V.eSigned) (.cons (.sl V.eEntry) .nil))⟩),
  (266, ⟨.st, false, [.val (.str (⟨#[]⟩ : ByteArray)), .val (.int .i64 (0 : Int)), .val (.int .i64 (0 : Int)), .nil0], 56, [(0, 1, false), (1, 1, false), (2, 1, false), (3, 1, false)], V.eEntry⟩),
  (333, ⟨.sl 30, false, [.nil0], 24, [], (.cons (.sl (.cons (.sl (.cons (.int .i64) .nil)) .nil)) .nil)⟩),
  (343, ⟨.st, true, [.val (.int .i64 (0 : Int)), .val (.int .i64 (0 : Int))], 16, [(0, 1, false), (1, 1, false)], (.cons (.int .i64) (.cons (.int .i64) .nil))⟩)]
theorem tysOk : tyAll Tryz.prog tys = true := by kernel_rfl
theorem mixed : Tryz.prog.follows .mixedOrders = true := by kernel_rfl
theorem cfl {α : Type} {a b c : α} (e : a = b) (h : a = c) : b = c := e.symm.trans h
theorem fo {g : Nat} {fn : Func} {con : Con} {tab : List (Nat × Con)} {heads : List (Nat × List Nat × Cv)} {pre : List (Nat × Nat)} {shallow : List Nat} {movs flts : List (Nat × List Nat)} (h : TabOk Tryz.prog tab) (hf : Tryz.prog.funcs[g]? = some fn) (hq : (!(fn.name == "runtime.NumGoroutine") && (!fn.body.isNone && conOk con fn.ntmps)) = true) (hev : ∀ x y, con.f x = some y → evBody (mkE tys tab heads pre shallow movs flts) con fn x = some y) : Valid Tryz.prog g con := by
  simp only [Bool.and_eq_true, Bool.not_eq_true'] at hq
  exact body_ok (env_ok mixed tysOk h) hf hq.1 hq.2.1 hq.2.2 hev
theorem fo2 {g : Nat} {fn : Func} {con : Con} {tab tab2 : List (Nat × Con)} {sites : List Nat} {heads : List (Nat × List Nat × Cv)} {pre : List (Nat × Nat)} {shallow : List Nat} {movs flts : List (Nat × List Nat)} (h : TabOk Tryz.prog tab) (h2 : TabOk Tryz.prog tab2) (hf : Tryz.prog.funcs[g]? = some fn) (hq : (!(fn.name == "runtime.NumGoroutine") && (!fn.body.isNone && conOk con fn.ntmps)) = true) (hev : ∀ x y, con.f x = some y → evBody (mkE2 tys tab sites tab2 heads pre shallow movs flts) con fn x = some y) : Valid Tryz.prog g con := by
  simp only [Bool.and_eq_true, Bool.not_eq_true'] at hq
  exact body_ok (env_ok2 mixed tysOk h h2) hf hq.1 hq.2.1 hq.2.2 hev
end V
noncomputable abbrev Z176.con : V.Con := ⟨(.cons (.sl (.cons (.int .i64) .nil)) (.cons (.int .i64) .nil)), (.cons (.int .i64) .nil), fun (x : List Int × Int) => Z176 x.1 x.2, [], [(false, 1), (false, 1)], [(false, 1)], [false], []⟩
noncomputable abbrev Z176.E : V.Env := V.mkE V.tys [] [] [] [] [] []
theorem Z176.eq (x0 : List Int) (x1 : Int) : V.evBody Z176.E Z176.con Tryz.f445 ((x0, x1) : List Int × Int) = Z176 x0 x1 := by kernel_rfl
theorem Z176.ok : V.Valid Tryz.prog 445 Z176.con :=
  V.fo V.tab_nil Tryz.func445 (by kernel_rfl) (fun x y h => (show V.evBody Z176.E Z176.con Tryz.f445 x = _ from Z176.eq x.1 x.2).trans (V.cfl (by kernel_rfl) h))
noncomputable abbrev Z147.con : V.Con := ⟨(.cons (.sl (.cons (.int .i64) .nil)) (.cons (.int .i64) (.cons (.int .i64) .nil))), (.cons (.int .i64) .nil), fun (x : List Int × Int × Int) => Z147 (x.1, x.2.1) x.2.2, [], [(true, 2), (false, 1)], [(false, 1)], [false], []⟩
noncomputable abbrev Z147.E : V.Env := V.mkE V.tys [(445, Z176.con)] [] [] [] [] []
theorem Z147.eq (x0 : TKeys) (x1 : Int) : V.evBody Z147.E Z147.con Tryz.f413 ((x0.1, x0.2, x1) : List Int × Int × Int) = Z147 x0 x1 := by kernel_rfl
theorem Z147.ok : V.Valid Tryz.prog 413 Z147.con :=
  V.fo (V.tab_cons Z176.ok V.tab_nil) Tryz.func413 (by kernel_rfl) (fun x y h => (show V.evBody Z147.E Z147.con Tryz.f413 x = _ from Z147.eq (x.1, x.2.1) x.2.2).trans (V.cfl (by kernel_rfl) h))
noncomputable abbrev Z107.con : V.Con := ⟨V.A0, (.cons (.int .i64) .nil), fun (x : V.D0) => Z107 (V.p0_0 x) (V.p0_1 x), [], [(true, 16), (false, 1)], [(false, 1)], [false], []⟩
noncomputable abbrev Z107.E : V.Env := V.mkE V.tys [(413, Z147.con)] [] [] [] [] []
noncomputable abbrev Z107.kt (x0 : THead) (x1 : Int) : V.Kt Int := V.ktOf Z107.E Z107.con Tryz.f353 (V.fl0 x0 x1)
noncomputable abbrev Z107.s (x0 : THead) (x1 : Int) : V.St := ⟨[(0, .v true (V.lsHead x0)), (1, .v false [.val (.int .i64 x1)])], []⟩
theorem Z107.v0 (x0 : THead) (x1 : Int) : V.evBody Z107.E Z107.con Tryz.f353 (V.fl0 x0 x1) = V.evC Z107.E Tryz.f353.ntmps (V.codeOf Tryz.f353) (Z107.kt x0 x1) (Z107.s x0 x1) := by kernel_rfl
theorem Z107.v (x0 : THead) (x1 : Int) : V.evC Z107.E Tryz.f353.ntmps (V.codeOf Tryz.f353) (Z107.kt x0 x1) (Z107.s x0 x1) = Z107 x0 x1 := by kernel_rfl
theorem Z107.eq (x0 : THead) (x1 : Int) : V.evBody Z107.E Z107.con Tryz.f353 (V.fl0 x0 x1) = Z107 x0 x1 := (Z107.v0 x0 x1).trans (Z107.v x0 x1)
theorem Z107.ok : V.Valid Tryz.prog 353 Z107.con :=
  V.fo (V.tab_cons Z147.ok V.tab_nil) Tryz.func353 (by kernel_rfl) (fun x y h => (show V.evBody Z107.E Z107.con Tryz.f353 x = _ from Z107.eq (V.p0_0 x) (V.p0_1 x)).trans (V.cfl (by kernel_rfl) h))
noncomputable abbrev Z178.con : V.Con := ⟨(.cons (.sl (.cons (.int .i64) (.cons (.int .i64) .nil))) (.cons (.int .i64) .nil)), (.cons (.int .i64) .nil), fun (x : List TSig × Int) => Z178 x.1 x.2, [], [(false, 1), (false, 1)], [(false, 1)], [false], []⟩
noncomputable abbrev Z178.E : V.Env := V.mkE V.tys [] [] [] [] [] []
theorem Z178.eq (x0 : List TSig) (x1 : Int) : V.evBody Z178.E Z178.con Tryz.f354 ((x0, x1) : List TSig × Int) = Z178 x0 x1 := by kernel_rfl
theorem Z178.ok : V.Valid Tryz.prog 354 Z178.con :=
  V.fo V.tab_nil Tryz.func354 (by kernel_rfl) (fun x y h => (show V.evBody Z178.E Z178.con Tryz.f354 x = _ from Z178.eq x.1 x.2).trans (V.cfl (by kernel_rfl) h))
noncomputable abbrev Z93.con : V.Con := ⟨V.A1, (.cons (.int .i64) .nil), fun (x : V.D1) => Z93 (V.p1_0 x) (V.p1_1 x), [], [(true, 17), (false, 1)], [(false, 1)], [false], []⟩
noncomputable abbrev Z93.E : V.Env := V.mkE V.tys [(353, Z107.con), (354, Z178.con)] [] [] [] [] []
noncomputable abbrev Z93.kt (x0 : TSigned) (x1 : Int) : V.Kt Int := V.ktOf Z93.E Z93.con Tryz.f239 (V.fl1 x0 x1)
noncomputable abbrev Z93.s (x0 : TSigned) (x1 : Int) : V.St := ⟨[(0, .v true (V.lsSigned x0)), (1, .v false [.val (.int .i64 x1)])], []⟩
theorem Z93.v0 (x0 : TSigned) (x1 : Int) : V.evBody Z93.E Z93.con Tryz.f239 (V.fl1 x0 x1) = V.evC Z93.E Tryz.f239.ntmps (V.codeOf Tryz.f239) (Z93.kt x0 x1) (Z93.s x0 x1) := by kernel_rfl
theorem Z93.v (x0 : TSigned) (x1 : Int) : V.evC Z93.E Tryz.f239.ntmps (V.codeOf Tryz.f239) (Z93.kt x0 x1) (Z93.s x0 x1) = Z93 x0 x1 := by kernel_rfl
theorem Z93.eq (x0 : TSigned) (x1 : Int) : V.evBody Z93.E Z93.con Tryz.f239 (V.fl1 x0 x1) = Z93 x0 x1 := (Z93.v0 x0 x1).trans (Z93.v x0 x1)
theorem Z93.ok : V.Valid Tryz.prog 239 Z93.con :=
  V.fo (V.tab_cons Z107.ok (V.tab_cons Z178.ok V.tab_nil)) Tryz.func239 (by kernel_rfl) (fun x y h => (show V.evBody Z93.E Z93.con Tryz.f239 x = _ from Z93.eq (V.p1_0 x) (V.p1_1 x)).trans (V.cfl (by kernel_rfl) h))
noncomputable abbrev Z59.con : V.Con := ⟨(.cons (.sl V.eSigned) (.cons (.int .i64) .nil)), (.cons (.int .i64) .nil), fun (x : List TSigned × Int) => Z59 x.1 x.2, [], [(false, 1), (false, 1)], [(false, 1)], [false], []⟩
noncomputable abbrev Z59.E : V.Env := V.mkE V.tys [(239, Z93.con)] [(10, [0, 1, 5], [])] [] [] [] []
noncomputable abbrev Z59.kt (x0 : List TSigned) (x1 : Int) : V.Kt Int := V.ktOf Z59.E Z59.con Tryz.f264 ((x0, x1) : List TSigned × Int)
noncomputable abbrev Z59.s10 (x0 : List TSigned) (v10_1 : Int) (v10_2 : Int) : V.St := ⟨[(0, .v false [.val (.sl V.eSigned x0)]), (1, .v false [.val (.int .i64 v10_1)]), (5, .v false [.val (.int .i64 v10_2)])], []⟩
theorem Z59.r10 (x0 : List TSigned) (x1 : Int) (R : V.St → Option Int) (v10_1 : Int) (v10_2 : Int) : V.loopF Z59.E Tryz.f264.ntmps [1, 1, 1, 0, 1, 0] [] (V.codeOf Tryz.f264) (Z59.kt x0 x1) R (Z59.s10 x0 v10_1 v10_2) = Z59.g10 x0 (fun v10_1 v10_2 => R (Z59.s10 x0 v10_1 v10_2)) v10_1 v10_2 := by kernel_rfl
theorem Z59.e10 (x0 : List TSigned) (x1 : Int) : ∀ (n : Nat) (v10_1 : Int) (v10_2 : Int), V.loopN (V.loopF Z59.E Tryz.f264.ntmps [1, 1, 1, 0, 1, 0] [] (V.codeOf Tryz.f264) (Z59.kt x0 x1)) n (Z59.s10 x0 v10_1 v10_2) = Z59.l10 x0 n v10_1 v10_2 := by
  intro n
  induction n with
  | zero => intros; rw [V.loopN_z]; rfl
  | succ n ih =>
    intro v10_1 v10_2
    rw [V.loopN_s, Z59.r10]
    simp only [ih]
    first | exact (Z59.u10 ..).symm | rfl
theorem Z59.v (x0 : List TSigned) (x1 : Int) : V.evBody Z59.E Z59.con Tryz.f264 ((x0, x1) : List TSigned × Int) = Z59.b x0 x1 (fun v10_1 v10_2 => V.loopN (V.loopF Z59.E Tryz.f264.ntmps [1, 1, 1, 0, 1, 0] [] (V.codeOf Tryz.f264) (Z59.kt x0 x1)) V.KK (Z59.s10 x0 v10_1 v10_2)) := by kernel_rfl
theorem Z59.eq (x0 : List TSigned) (x1 : Int) : V.evBody Z59.E Z59.con Tryz.f264 ((x0, x1) : List TSigned × Int) = Z59 x0 x1 := by
  rw [Z59.v]
  simp only [Z59.e10]
  rfl
theorem Z59.ok : V.Valid Tryz.prog 264 Z59.con :=
  V.fo (V.tab_cons Z93.ok V.tab_nil) Tryz.func264 (by kernel_rfl) (fun x y h => (show V.evBody Z59.E Z59.con Tryz.f264 x = _ from Z59.eq x.1 x.2).trans (V.cfl (by kernel_rfl) h))
noncomputable abbrev Z47.con : V.Con := ⟨(.cons (.sl (.cons .str .nil)) (.cons (.int .i64) .nil)), (.cons (.int .i64) .nil), fun (x : List ByteArray × Int) => Z47 x.1 x.2, [], [(false, 1), (false, 1)], [(false, 1)], [false], []⟩
noncomputable abbrev Z47.E : V.Env := V.mkE V.tys [] [(10, [0, 1, 5], [])] [] [] [] []
noncomputable abbrev Z47.kt (x0 : List ByteArray) (x1 : Int) : V.Kt Int := V.ktOf Z47.E Z47.con Tryz.f365 ((x0, x1) : List ByteArray × Int)
noncomputable abbrev Z47.s10 (x0 : List ByteArray) (v10_1 : Int) (v10_2 : Int) : V.St := ⟨[(0, .v false [.val (.sl (.cons .str .nil) x0)]), (1, .v false [.val (.int .i64 v10_1)]), (5, .v false [.val (.int .i64 v10_2)])], []⟩
theorem Z47.r10 (x0 : List ByteArray) (x1 : Int) (R : V.St → Option Int) (v10_1 : Int) (v10_2 : Int) : V.loopF Z47.E Tryz.f365.ntmps [1, 1, 1, 0, 1, 0] [] (V.codeOf Tryz.f365) (Z47.kt x0 x1) R (Z47.s10 x0 v10_1 v10_2) = Z47.g10 x0 (fun v10_1 v10_2 => R (Z47.s10 x0 v10_1 v10_2)) v10_1 v10_2 := by kernel_rfl
theorem Z47.e10 (x0 : List ByteArray) (x1 : Int) : ∀ (n : Nat) (v10_1 : Int) (v10_2 : Int), V.loopN (V.loopF Z47.E Tryz.f365.ntmps [1, 1, 1, 0, 1, 0] [] (V.codeOf Tryz.f365) (Z47.kt x0 x1)) n (Z47.s10 x0 v10_1 v10_2) = Z47.l10 x0 n v10_1 v10_2 := by
  intro n
  induction n with
  | zero => intros; rw [V.loopN_z]; rfl
  | succ n ih =>
    intro v10_1 v10_2
    rw [V.loopN_s, Z47.r10]
    simp only [ih]
    first | exact (Z47.u10 ..).symm | rfl
theorem Z47.v (x0 : List ByteArray) (x1 : Int) : V.evBody Z47.E Z47.con Tryz.f365 ((x0, x1) : List ByteArray × Int) = Z47.b x0 x1 (fun v10_1 v10_2 => V.loopN (V.loopF Z47.E Tryz.f365.ntmps [1, 1, 1, 0, 1, 0] [] (V.codeOf Tryz.f365) (Z47.kt x0 x1)) V.KK (Z47.s10 x0 v10_1 v10_2)) := by kernel_rfl
theorem Z47.eq (x0 : List ByteArray) (x1 : Int) : V.evBody Z47.E Z47.con Tryz.f365 ((x0, x1) : List ByteArray × Int) = Z47 x0 x1 := by
  rw [Z47.v]
  simp only [Z47.e10]
  rfl
theorem Z47.ok : V.Valid Tryz.prog 365 Z47.con :=
  V.fo V.tab_nil Tryz.func365 (by kernel_rfl) (fun x y h => (show V.evBody Z47.E Z47.con Tryz.f365 x = _ from Z47.eq x.1 x.2).trans (V.cfl (by kernel_rfl) h))
noncomputable abbrev Z155.con : V.Con := ⟨(.cons .str (.cons (.int .i64) (.cons (.int .i64) (.cons (.sl (.cons .str .nil)) (.cons (.int .i64) .nil))))), (.cons (.int .i64) .nil), fun (x : ByteArray × Int × Int × List ByteArray × Int) => Z155 (x.1, x.2.1, x.2.2.1, x.2.2.2.1) x.2.2.2.2, [], [(true, 4), (false, 1)], [(false, 1)], [false], []⟩
noncomputable abbrev Z155.E : V.Env := V.mkE V.tys [(365, Z47.con)] [] [] [] [] []
theorem Z155.eq (x0 : TEntry) (x1 : Int) : V.evBody Z155.E Z155.con Tryz.f265 ((x0.1, x0.2.1, x0.2.2.1, x0.2.2.2, x1) : ByteArray × Int × Int × List ByteArray × Int) = Z155 x0 x1 := by kernel_rfl
theorem Z155.ok : V.Valid Tryz.prog 265 Z155.con :=
  V.fo (V.tab_cons Z47.ok V.tab_nil) Tryz.func265 (by kernel_rfl) (fun x y h => (show V.evBody Z155.E Z155.con Tryz.f265 x = _ from Z155.eq (x.1, x.2.1, x.2.2.1, x.2.2.2.1) x.2.2.2.2).trans (V.cfl (by kernel_rfl) h))
noncomputable abbrev Z58.con : V.Con := ⟨(.cons (.sl V.eEntry) (.cons (.int .i64) .nil)), (.cons (.int .i64) .nil), fun (x : List TEntry × Int) => Z58 x.1 x.2, [], [(false, 1), (false, 1)], [(false, 1)], [false], []⟩
noncomputable abbrev Z58.E : V.Env := V.mkE V.tys [(265, Z155.con)] [(10, [0, 1, 5], [])] [] [] [] []
noncomputable abbrev Z58.kt (x0 : List TEntry) (x1 : Int) : V.Kt Int := V.ktOf Z58.E Z58.con Tryz.f111 ((x0, x1) : List TEntry × Int)
noncomputable abbrev Z58.s10 (x0 : List TEntry) (v10_1 : Int) (v10_2 : Int) : V.St := ⟨[(0, .v false [.val (.sl V.eEntry x0)]), (1, .v false [.val (.int .i64 v10_1)]), (5, .v false [.val (.int .i64 v10_2)])], []⟩
theorem Z58.r10 (x0 : List TEntry) (x1 : Int) (R : V.St → Option Int) (v10_1 : Int) (v10_2 : Int) : V.loopF Z58.E Tryz.f111.ntmps [1, 1, 1, 0, 1, 0] [] (V.codeOf Tryz.f111) (Z58.kt x0 x1) R (Z58.s10 x0 v10_1 v10_2) = Z58.g10 x0 (fun v10_1 v10_2 => R (Z58.s10 x0 v10_1 v10_2)) v10_1 v10_2 := by kernel_rfl
theorem Z58.e10 (x0 : List TEntry) (x1 : Int) : ∀ (n : Nat) (v10_1 : Int) (v10_2 : Int), V.loopN (V.loopF Z58.E Tryz.f111.ntmps [1, 1, 1, 0, 1, 0] [] (V.codeOf Tryz.f111) (Z58.kt x0 x1)) n (Z58.s10 x0 v10_1 v10_2) = Z58.l10 x0 n v10_1 v10_2 := by
  intro n
  induction n with
  | zero => intros; rw [V.loopN_z]; rfl
  | succ n ih =>
    intro v10_1 v10_2
    rw [V.loopN_s, Z58.r10]
    simp only [ih]
    first | exact (Z58.u10 ..).symm | rfl
theorem Z58.v (x0 : List TEntry) (x1 : Int) : V.evBody Z58.E Z58.con Tryz.f111 ((x0, x1) : List TEntry × Int) = Z58.b x0 x1 (fun v10_1 v10_2 => V.loopN (V.loopF Z58.E Tryz.f111.ntmps [1, 1, 1, 0, 1, 0] [] (V.codeOf Tryz.f111) (Z58.kt x0 x1)) V.KK (Z58.s10 x0 v10_1 v10_2)) := by kernel_rfl
theorem Z58.eq (x0 : List TEntry) (x1 : Int) : V.evBody Z58.E Z58.con Tryz.f111 ((x0, x1) : List TEntry × Int) = Z58 x0 x1 := by
  rw [Z58.v]
  simp only [Z58.e10]
  rfl
theorem Z58.ok : V.Valid Tryz.prog 111 Z58.con :=
  V.fo (V.tab_cons Z155.ok V.tab_nil) Tryz.func111 (by kernel_rfl) (fun x y h => (show V.evBody Z58.E Z58.con Tryz.f111 x = _ from Z58.eq x.1 x.2).trans (V.cfl (by kernel_rfl) h))
noncomputable abbrev Z156.con : V.Con := ⟨(.cons (.sl V.eSigned) (.cons (.sl V.eEntry) (.cons (.int .i64) .nil))), (.cons (.int .i64) .nil), fun (x : List TSigned × List TEntry × Int) => Z156 (x.1, x.2.1) x.2.2, [], [(true, 2), (false, 1)], [(false, 1)], [false], []⟩
noncomputable abbrev Z156.E : V.Env := V.mkE V.tys [(111, Z58.con), (264, Z59.con)] [] [] [] [] []
theorem Z156.eq (x0 : TZone) (x1 : Int) : V.evBody Z156.E Z156.con Tryz.f110 ((x0.1, x0.2, x1) : List TSigned × List TEntry × Int) = Z156 x0 x1 := by kernel_rfl
theorem Z156.ok : V.Valid Tryz.prog 110 Z156.con :=
  V.fo (V.tab_cons Z58.ok (V.tab_cons Z59.ok V.tab_nil)) Tryz.func110 (by kernel_rfl) (fun x y h => (show V.evBody Z156.E Z156.con Tryz.f110 x = _ from Z156.eq (x.1, x.2.1) x.2.2).trans (V.cfl (by kernel_rfl) h))
noncomputable abbrev Z60.con : V.Con := ⟨(.cons (.sl (.cons (.sl V.eSigned) (.cons (.sl V.eEntry) .nil))) (.cons (.int .i64) .nil)), (.cons (.int .i64) .nil), fun (x : List TZone × Int) => Z60 x.1 x.2, [], [(false, 1), (false, 1)], [(false, 1)], [false], []⟩
noncomputable abbrev Z60.E : V.Env := V.mkE V.tys [(110, Z156.con)] [(10, [0, 1, 5], [])] [] [] [] []
noncomputable abbrev Z60.kt (x0 : List TZone) (x1 : Int) : V.Kt Int := V.ktOf Z60.E Z60.con Tryz.f145 ((x0, x1) : List TZone × Int)
noncomputable abbrev Z60.s10 (x0 : List TZone) (v10_1 : Int) (v10_2 : Int) : V.St := ⟨[(0, .v false [.val (.sl (.cons (.sl V.eSigned) (.cons (.sl V.eEntry) .nil)) x0)]), (1, .v false [.val (.int .i64 v10_1)]), (5, .v false [.val (.int .i64 v10_2)])], []⟩
theorem Z60.r10 (x0 : List TZone) (x1 : Int) (R : V.St → Option Int) (v10_1 : Int) (v10_2 : Int) : V.loopF Z60.E Tryz.f145.ntmps [1, 1, 1, 0, 1, 0] [] (V.codeOf Tryz.f145) (Z60.kt x0 x1) R (Z60.s10 x0 v10_1 v10_2) = Z60.g10 x0 (fun v10_1 v10_2 => R (Z60.s10 x0 v10_1 v10_2)) v10_1 v10_2 := by kernel_rfl
theorem Z60.e10 (x0 : List TZone) (x1 : Int) : ∀ (n : Nat) (v10_1 : Int) (v10_2 : Int), V.loopN (V.loopF Z60.E Tryz.f145.ntmps [1, 1, 1, 0, 1, 0] [] (V.codeOf Tryz.f145) (Z60.kt x0 x1)) n (Z60.s10 x0 v10_1 v10_2) = Z60.l10 x0 n v10_1 v10_2 := by
  intro n
  induction n with
  | zero => intros; rw [V.loopN_z]; rfl
  | succ n ih =>
    intro v10_1 v10_2
    rw [V.loopN_s, Z60.r10]
    simp only [ih]
    first | exact (Z60.u10 ..).symm | rfl
theorem Z60.v (x0 : List TZone) (x1 : Int) : V.evBody Z60.E Z60.con Tryz.f145 ((x0, x1) : List TZone × Int) = Z60.b x0 x1 (fun v10_1 v10_2 => V.loopN (V.loopF Z60.E Tryz.f145.ntmps [1, 1, 1, 0, 1, 0] [] (V.codeOf Tryz.f145) (Z60.kt x0 x1)) V.KK (Z60.s10 x0 v10_1 v10_2)) := by kernel_rfl
theorem Z60.eq (x0 : List TZone) (x1 : Int) : V.evBody Z60.E Z60.con Tryz.f145 ((x0, x1) : List TZone × Int) = Z60 x0 x1 := by
  rw [Z60.v]
  simp only [Z60.e10]
  rfl
theorem Z60.ok : V.Valid Tryz.prog 145 Z60.con :=
  V.fo (V.tab_cons Z156.ok V.tab_nil) Tryz.func145 (by kernel_rfl) (fun x y h => (show V.evBody Z60.E Z60.con Tryz.f145 x = _ from Z60.eq x.1 x.2).trans (V.cfl (by kernel_rfl) h))
noncomputable abbrev Z177.con : V.Con := ⟨(.cons (.sl (.cons (.sl V.eSigned) (.cons (.sl V.eEntry) .nil))) (.cons (.int .i64) (.cons (.int .i64) .nil))), (.cons (.int .i64) .nil), fun (x : List TZone × Int × Int) => Z177 (x.1, x.2.1) x.2.2, [], [(true, 2), (false, 1)], [(false, 1)], [false], []⟩
noncomputable abbrev Z177.E : V.Env := V.mkE V.tys [(145, Z60.con)] [] [] [] [] []
theorem Z177.eq (x0 : TServer) (x1 : Int) : V.evBody Z177.E Z177.con Tryz.f15 ((x0.1, x0.2, x1) : List TZone × Int × Int) = Z177 x0 x1 := by kernel_rfl
theorem Z177.ok : V.Valid Tryz.prog 15 Z177.con :=
  V.fo (V.tab_cons Z60.ok V.tab_nil) Tryz.func15 (by kernel_rfl) (fun x y h => (show V.evBody Z177.E Z177.con Tryz.f15 x = _ from Z177.eq (x.1, x.2.1) x.2.2).trans (V.cfl (by kernel_rfl) h))
noncomputable abbrev Z62.con : V.Con := ⟨(.cons (.sl (.cons (.int .i64) .nil)) .nil), (.cons (.sl (.cons (.int .i64) .nil)) .nil), fun (x : List Int) => Z62 x, [], [(false, 1)], [(false, 1)], [true], []⟩
noncomputable abbrev Z62.E : V.Env := V.mkE V.tys [] [(6, [0, 3, 4], [])] [] [] [] []
noncomputable abbrev Z62.kt (x0 : List Int) : V.Kt (List Int) := V.ktOf Z62.E Z62.con Tryz.f113 ((x0) : List Int)
noncomputable abbrev Z62.s6 (x0 : List Int) (v6_1 : Int) (v6_2 : List Int) : V.St := ⟨[(0, .v false [.val (.sl (.cons (.int .i64) .nil) x0)]), (3, .v false [.ref 64000038400192]), (4, .v false [.val (.int .i64 v6_1)])], [(64000038400192, .row (.cons (.int .i64) .nil) true v6_2)]⟩
theorem Z62.r6 (x0 : List Int) (R : V.St → Option (List Int)) (v6_1 : Int) (v6_2 : List Int) : V.loopF Z62.E Tryz.f113.ntmps [1, 1, 0, 1, 0] [] (V.codeOf Tryz.f113) (Z62.kt x0) R (Z62.s6 x0 v6_1 v6_2) = Z62.g6 x0 (fun v6_1 v6_2 => R (Z62.s6 x0 v6_1 v6_2)) v6_1 v6_2 := by kernel_rfl
theorem Z62.e6 (x0 : List Int) : ∀ (n : Nat) (v6_1 : Int) (v6_2 : List Int), V.loopN (V.loopF Z62.E Tryz.f113.ntmps [1, 1, 0, 1, 0] [] (V.codeOf Tryz.f113) (Z62.kt x0)) n (Z62.s6 x0 v6_1 v6_2) = Z62.l6 x0 n v6_1 v6_2 := by
  intro n
  induction n with
  | zero => intros; rw [V.loopN_z]; rfl
  | succ n ih =>
    intro v6_1 v6_2
    rw [V.loopN_s, Z62.r6]
    simp only [ih]
    first | exact (Z62.u6 ..).symm | rfl
theorem Z62.v (x0 : List Int) : V.evBody Z62.E Z62.con Tryz.f113 ((x0) : List Int) = Z62.b x0 (fun v6_1 v6_2 => V.loopN (V.loopF Z62.E Tryz.f113.ntmps [1, 1, 0, 1, 0] [] (V.codeOf Tryz.f113) (Z62.kt x0)) V.KK (Z62.s6 x0 v6_1 v6_2)) := by kernel_rfl
theorem Z62.eq (x0 : List Int) : V.evBody Z62.E Z62.con Tryz.f113 ((x0) : List Int) = Z62 x0 := by
  rw [Z62.v]
  simp only [Z62.e6]
  rfl
theorem Z62.ok : V.Valid Tryz.prog 113 Z62.con :=
  V.fo V.tab_nil Tryz.func113 (by kernel_rfl) (fun x y h => (show V.evBody Z62.E Z62.con Tryz.f113 x = _ from Z62.eq x).trans (V.cfl (by kernel_rfl) h))
noncomputable abbrev Z148.con : V.Con := ⟨(.cons (.sl (.cons (.int .i64) .nil)) (.cons (.int .i64) .nil)), (.cons (.sl (.cons (.int .i64) .nil)) (.cons (.int .i64) .nil)), fun (x : List Int × Int) => Z148 x, [], [(true, 2)], [(true, 2)], [true, false], []⟩
noncomputable abbrev Z148.E : V.Env := V.mkE V.tys [(113, Z62.con)] [] [] [] [] []
theorem Z148.eq (x0 : TKeys) : V.evBody Z148.E Z148.con Tryz.f414 ((x0.1, x0.2) : List Int × Int) = Z148 x0 := by kernel_rfl
theorem Z148.ok : V.Valid Tryz.prog 414 Z148.con :=
  V.fo (V.tab_cons Z62.ok V.tab_nil) Tryz.func414 (by kernel_rfl) (fun x y h => (show V.evBody Z148.E Z148.con Tryz.f414 x = _ from Z148.eq x).trans (V.cfl (by kernel_rfl) h))
noncomputable abbrev Z108.con : V.Con := ⟨V.A2, V.eHead, fun (x : V.D2) => Z108 (V.p2_0 x), [], [(true, 16)], [(true, 16)], [false, false, false, false, false, false, false, false, true, false, true, false, false, true, false, false], []⟩
noncomputable abbrev Z108.E : V.Env := V.mkE V.tys [(414, Z148.con)] [] [] [] [] []
noncomputable abbrev Z108.kt (x0 : THead) : V.Kt THead := V.ktOf Z108.E Z108.con Tryz.f355 (V.fl2 x0)
noncomputable abbrev Z108.s (x0 : THead) : V.St := ⟨[(0, .v true (V.lsHead x0))], []⟩
theorem Z108.v0 (x0 : THead) : V.evBody Z108.E Z108.con Tryz.f355 (V.fl2 x0) = V.evC Z108.E Tryz.f355.ntmps (V.codeOf Tryz.f355) (Z108.kt x0) (Z108.s x0) := by kernel_rfl
theorem Z108.v (x0 : THead) : V.evC Z108.E Tryz.f355.ntmps (V.codeOf Tryz.f355) (Z108.kt x0) (Z108.s x0) = Z108 x0 := by kernel_rfl
theorem Z108.eq (x0 : THead) : V.evBody Z108.E Z108.con Tryz.f355 (V.fl2 x0) = Z108 x0 := (Z108.v0 x0).trans (Z108.v x0)
theorem Z108.ok : V.Valid Tryz.prog 355 Z108.con :=
  V.fo (V.tab_cons Z148.ok V.tab_nil) Tryz.func355 (by kernel_rfl) (fun x y h => (show V.evBody Z108.E Z108.con Tryz.f355 x = _ from Z108.eq (V.p2_0 x)).trans (V.cfl (by kernel_rfl) h))
noncomputable abbrev Z179.con : V.Con := ⟨(.cons (.int .i64) (.cons (.int .i64) .nil)), (.cons (.int .i64) (.cons (.int .i64) .nil)), fun (x : Int × Int) => Z179 x, [], [(true, 2)], [(true, 2)], [false, false], []⟩
noncomputable abbrev Z179.E : V.Env := V.mkE V.tys [] [] [] [] [] []
theorem Z179.eq (x0 : TSig) : V.evBody Z179.E Z179.con Tryz.f415 ((x0.1, x0.2) : Int × Int) = Z179 x0 := by kernel_rfl
theorem Z179.ok : V.Valid Tryz.prog 415 Z179.con :=
  V.fo V.tab_nil Tryz.func415 (by kernel_rfl) (fun x y h => (show V.evBody Z179.E Z179.con Tryz.f415 x = _ from Z179.eq x).trans (V.cfl (by kernel_rfl) h))
noncomputable abbrev Z63.con : V.Con := ⟨(.cons (.sl (.cons (.int .i64) (.cons (.int .i64) .nil))) .nil), (.cons (.sl (.cons (.int .i64) (.cons (.int .i64) .nil))) .nil), fun (x : List TSig) => Z63 x, [], [(false, 1)], [(false, 1)], [true], []⟩
noncomputable abbrev Z63.E : V.Env := V.mkE V.tys [(415, Z179.con)] [(6, [0, 3, 4], [])] [] [] [] []
noncomputable abbrev Z63.kt (x0 : List TSig) : V.Kt (List TSig) := V.ktOf Z63.E Z63.con Tryz.f356 ((x0) : List TSig)
noncomputable abbrev Z63.s6 (x0 : List TSig) (v6_1 : Int) (v6_2 : List TSig) : V.St := ⟨[(0, .v false [.val (.sl (.cons (.int .i64) (.cons (.int .i64) .nil)) x0)]), (3, .v false [.ref 64000038400192]), (4, .v false [.val (.int .i64 v6_1)])], [(64000038400192, .row (.cons (.int .i64) (.cons (.int .i64) .nil)) true v6_2)]⟩
theorem Z63.r6 (x0 : List TSig) (R : V.St → Option (List TSig)) (v6_1 : Int) (v6_2 : List TSig) : V.loopF Z63.E Tryz.f356.ntmps [1, 1, 0, 1, 0] [] (V.codeOf Tryz.f356) (Z63.kt x0) R (Z63.s6 x0 v6_1 v6_2) = Z63.g6 x0 (fun v6_1 v6_2 => R (Z63.s6 x0 v6_1 v6_2)) v6_1 v6_2 := by kernel_rfl
theorem Z63.e6 (x0 : List TSig) : ∀ (n : Nat) (v6_1 : Int) (v6_2 : List TSig), V.loopN (V.loopF Z63.E Tryz.f356.ntmps [1, 1, 0, 1, 0] [] (V.codeOf Tryz.f356) (Z63.kt x0)) n (Z63.s6 x0 v6_1 v6_2) = Z63.l6 x0 n v6_1 v6_2 := by
  intro n
  induction n with
  | zero => intros; rw [V.loopN_z]; rfl
  | succ n ih =>
    intro v6_1 v6_2
    rw [V.loopN_s, Z63.r6]
    simp only [ih]
    first | exact (Z63.u6 ..).symm | rfl
theorem Z63.v (x0 : List TSig) : V.evBody Z63.E Z63.con Tryz.f356 ((x0) : List TSig) = Z63.b x0 (fun v6_1 v6_2 => V.loopN (V.loopF Z63.E Tryz.f356.ntmps [1, 1, 0, 1, 0] [] (V.codeOf Tryz.f356) (Z63.kt x0)) V.KK (Z63.s6 x0 v6_1 v6_2)) := by kernel_rfl
theorem Z63.eq (x0 : List TSig) : V.evBody Z63.E Z63.con Tryz.f356 ((x0) : List TSig) = Z63 x0 := by
  rw [Z63.v]
  simp only [Z63.e6]
  rfl
theorem Z63.ok : V.Valid Tryz.prog 356 Z63.con :=
  V.fo (V.tab_cons Z179.ok V.tab_nil) Tryz.func356 (by kernel_rfl) (fun x y h => (show V.evBody Z63.E Z63.con Tryz.f356 x = _ from Z63.eq x).trans (V.cfl (by kernel_rfl) h))
noncomputable abbrev Z94.con : V.Con := ⟨V.A3, V.eSigned, fun (x : V.D3) => Z94 (V.p3_0 x), [], [(true, 17)], [(true, 17)], [false, false, false, false, false, false, false, false, true, false, true, false, false, true, false, false, true], []⟩
noncomputable abbrev Z94.E : V.Env := V.mkE V.tys [(355, Z108.con), (356, Z63.con)] [] [] [] [] []
noncomputable abbrev Z94.kt (x0 : TSigned) : V.Kt TSigned := V.ktOf Z94.E Z94.con Tryz.f242 (V.fl3 x0)
noncomputable abbrev Z94.s (x0 : TSigned) : V.St := ⟨[(0, .v true (V.lsSigned x0))], []⟩
theorem Z94.v0 (x0 : TSigned) : V.evBody Z94.E Z94.con Tryz.f242 (V.fl3 x0) = V.evC Z94.E Tryz.f242.ntmps (V.codeOf Tryz.f242) (Z94.kt x0) (Z94.s x0) := by kernel_rfl
theorem Z94.v (x0 : TSigned) : V.evC Z94.E Tryz.f242.ntmps (V.codeOf Tryz.f242) (Z94.kt x0) (Z94.s x0) = Z94 x0 := by kernel_rfl
theorem Z94.eq (x0 : TSigned) : V.evBody Z94.E Z94.con Tryz.f242 (V.fl3 x0) = Z94 x0 := (Z94.v0 x0).trans (Z94.v x0)
theorem Z94.ok : V.Valid Tryz.prog 242 Z94.con :=
  V.fo (V.tab_cons Z108.ok (V.tab_cons Z63.ok V.tab_nil)) Tryz.func242 (by kernel_rfl) (fun x y h => (show V.evBody Z94.E Z94.con Tryz.f242 x = _ from Z94.eq (V.p3_0 x)).trans (V.cfl (by kernel_rfl) h))
noncomputable abbrev Z64.con : V.Con := ⟨(.cons (.sl V.eSigned) .nil), (.cons (.sl V.eSigned) .nil), fun (x : List TSigned) => Z64 x, [], [(false, 1)], [(false, 1)], [true], []⟩
noncomputable abbrev Z64.E : V.Env := V.mkE V.tys [(242, Z94.con)] [(6, [0, 3, 4], [])] [] [] [] []
noncomputable abbrev Z64.kt (x0 : List TSigned) : V.Kt (List TSigned) := V.ktOf Z64.E Z64.con Tryz.f266 ((x0) : List TSigned)
noncomputable abbrev Z64.s6 (x0 : List TSigned) (v6_1 : Int) (v6_2 : List TSigned) : V.St := ⟨[(0, .v false [.val (.sl V.eSigned x0)]), (3, .v false [.ref 64000038400192]), (4, .v false [.val (.int .i64 v6_1)])], [(64000038400192, .row V.eSigned true v6_2)]⟩
theorem Z64.r6 (x0 : List TSigned) (R : V.St → Option (List TSigned)) (v6_1 : Int) (v6_2 : List TSigned) : V.loopF Z64.E Tryz.f266.ntmps [1, 1, 0, 1, 0] [] (V.codeOf Tryz.f266) (Z64.kt x0) R (Z64.s6 x0 v6_1 v6_2) = Z64.g6 x0 (fun v6_1 v6_2 => R (Z64.s6 x0 v6_1 v6_2)) v6_1 v6_2 := by kernel_rfl
theorem Z64.e6 (x0 : List TSigned) : ∀ (n : Nat) (v6_1 : Int) (v6_2 : List TSigned), V.loopN (V.loopF Z64.E Tryz.f266.ntmps [1, 1, 0, 1, 0] [] (V.codeOf Tryz.f266) (Z64.kt x0)) n (Z64.s6 x0 v6_1 v6_2) = Z64.l6 x0 n v6_1 v6_2 := by
  intro n
  induction n with
  | zero => intros; rw [V.loopN_z]; rfl
  | succ n ih =>
    intro v6_1 v6_2
    rw [V.loopN_s, Z64.r6]
    simp only [ih]
    first | exact (Z64.u6 ..).symm | rfl
theorem Z64.v (x0 : List TSigned) : V.evBody Z64.E Z64.con Tryz.f266 ((x0) : List TSigned) = Z64.b x0 (fun v6_1 v6_2 => V.loopN (V.loopF Z64.E Tryz.f266.ntmps [1, 1, 0, 1, 0] [] (V.codeOf Tryz.f266) (Z64.kt x0)) V.KK (Z64.s6 x0 v6_1 v6_2)) := by kernel_rfl
theorem Z64.eq (x0 : List TSigned) : V.evBody Z64.E Z64.con Tryz.f266 ((x0) : List TSigned) = Z64 x0 := by
  rw [Z64.v]
  simp only [Z64.e6]
  rfl
theorem Z64.ok : V.Valid Tryz.prog 266 Z64.con :=
  V.fo (V.tab_cons Z94.ok V.tab_nil) Tryz.func266 (by kernel_rfl) (fun x y h => (show V.evBody Z64.E Z64.con Tryz.f266 x = _ from Z64.eq x).trans (V.cfl (by kernel_rfl) h))
noncomputable abbrev Z65.con : V.Con := ⟨(.cons (.sl (.cons .str .nil)) .nil), (.cons (.sl (.cons .str .nil)) .nil), fun (x : List ByteArray) => Z65 x, [], [(false, 1)], [(false, 1)], [true], []⟩
noncomputable abbrev Z65.E : V.Env := V.mkE V.tys [] [(6, [0, 3, 4], [])] [] [] [] []
noncomputable abbrev Z65.kt (x0 : List ByteArray) : V.Kt (List ByteArray) := V.ktOf Z65.E Z65.con Tryz.f366 ((x0) : List ByteArray)
noncomputable abbrev Z65.s6 (x0 : List ByteArray) (v6_1 : Int) (v6_2 : List ByteArray) : V.St := ⟨[(0, .v false [.val (.sl (.cons .str .nil) x0)]), (3, .v false [.ref 64000038400192]), (4, .v false [.val (.int .i64 v6_1)])], [(64000038400192, .row (.cons .str .nil) true v6_2)]⟩
theorem Z65.r6 (x0 : List ByteArray) (R : V.St → Option (List ByteArray)) (v6_1 : Int) (v6_2 : List ByteArray) : V.loopF Z65.E Tryz.f366.ntmps [1, 1, 0, 1, 0] [] (V.codeOf Tryz.f366) (Z65.kt x0) R (Z65.s6 x0 v6_1 v6_2) = Z65.g6 x0 (fun v6_1 v6_2 => R (Z65.s6 x0 v6_1 v6_2)) v6_1 v6_2 := by kernel_rfl
theorem Z65.e6 (x0 : List ByteArray) : ∀ (n : Nat) (v6_1 : Int) (v6_2 : List ByteArray), V.loopN (V.loopF Z65.E Tryz.f366.ntmps [1, 1, 0, 1, 0] [] (V.codeOf Tryz.f366) (Z65.kt x0)) n (Z65.s6 x0 v6_1 v6_2) = Z65.l6 x0 n v6_1 v6_2 := by
  intro n
  induction n with
  | zero => intros; rw [V.loopN_z]; rfl
  | succ n ih =>
    intro v6_1 v6_2
    rw [V.loopN_s, Z65.r6]
    simp only [ih]
    first | exact (Z65.u6 ..).symm | rfl
theorem Z65.v (x0 : List ByteArray) : V.evBody Z65.E Z65.con Tryz.f366 ((x0) : List ByteArray) = Z65.b x0 (fun v6_1 v6_2 => V.loopN (V.loopF Z65.E Tryz.f366.ntmps [1, 1, 0, 1, 0] [] (V.codeOf Tryz.f366) (Z65.kt x0)) V.KK (Z65.s6 x0 v6_1 v6_2)) := by kernel_rfl
theorem Z65.eq (x0 : List ByteArray) : V.evBody Z65.E Z65.con Tryz.f366 ((x0) : List ByteArray) = Z65 x0 := by
  rw [Z65.v]
  simp only [Z65.e6]
  rfl
theorem Z65.ok : V.Valid Tryz.prog 366 Z65.con :=
  V.fo V.tab_nil Tryz.func366 (by kernel_rfl) (fun x y h => (show V.evBody Z65.E Z65.con Tryz.f366 x = _ from Z65.eq x).trans (V.cfl (by kernel_rfl) h))
noncomputable abbrev Z157.con : V.Con := ⟨V.eEntry, V.eEntry, fun (x : ByteArray × Int × Int × List ByteArray) => Z157 x, [], [(true, 4)], [(true, 4)], [false, false, false, true], []⟩
noncomputable abbrev Z157.E : V.Env := V.mkE V.tys [(366, Z65.con)] [] [] [] [] []
theorem Z157.eq (x0 : TEntry) : V.evBody Z157.E Z157.con Tryz.f267 ((x0.1, x0.2.1, x0.2.2.1, x0.2.2.2) : ByteArray × Int × Int × List ByteArray) = Z157 x0 := by kernel_rfl
theorem Z157.ok : V.Valid Tryz.prog 267 Z157.con :=
  V.fo (V.tab_cons Z65.ok V.tab_nil) Tryz.func267 (by kernel_rfl) (fun x y h => (show V.evBody Z157.E Z157.con Tryz.f267 x = _ from Z157.eq x).trans (V.cfl (by kernel_rfl) h))
noncomputable abbrev Z61.con : V.Con := ⟨(.cons (.sl V.eEntry) .nil), (.cons (.sl V.eEntry) .nil), fun (x : List TEntry) => Z61 x, [], [(false, 1)], [(false, 1)], [true], []⟩
noncomputable abbrev Z61.E : V.Env := V.mkE V.tys [(267, Z157.con)] [(6, [0, 3, 4], [])] [] [] [] []
noncomputable abbrev Z61.kt (x0 : List TEntry) : V.Kt (List TEntry) := V.ktOf Z61.E Z61.con Tryz.f114 ((x0) : List TEntry)
noncomputable abbrev Z61.s6 (x0 : List TEntry) (v6_1 : Int) (v6_2 : List TEntry) : V.St := ⟨[(0, .v false [.val (.sl V.eEntry x0)]), (3, .v false [.ref 64000038400192]), (4, .v false [.val (.int .i64 v6_1)])], [(64000038400192, .row V.eEntry true v6_2)]⟩
theorem Z61.r6 (x0 : List TEntry) (R : V.St → Option (List TEntry)) (v6_1 : Int) (v6_2 : List TEntry) : V.loopF Z61.E Tryz.f114.ntmps [1, 1, 0, 1, 0] [] (V.codeOf Tryz.f114) (Z61.kt x0) R (Z61.s6 x0 v6_1 v6_2) = Z61.g6 x0 (fun v6_1 v6_2 => R (Z61.s6 x0 v6_1 v6_2)) v6_1 v6_2 := by kernel_rfl
theorem Z61.e6 (x0 : List TEntry) : ∀ (n : Nat) (v6_1 : Int) (v6_2 : List TEntry), V.loopN (V.loopF Z61.E Tryz.f114.ntmps [1, 1, 0, 1, 0] [] (V.codeOf Tryz.f114) (Z61.kt x0)) n (Z61.s6 x0 v6_1 v6_2) = Z61.l6 x0 n v6_1 v6_2 := by
  intro n
  induction n with
  | zero => intros; rw [V.loopN_z]; rfl
  | succ n ih =>
    intro v6_1 v6_2
    rw [V.loopN_s, Z61.r6]
    simp only [ih]
    first | exact (Z61.u6 ..).symm | rfl
theorem Z61.v (x0 : List TEntry) : V.evBody Z61.E Z61.con Tryz.f114 ((x0) : List TEntry) = Z61.b x0 (fun v6_1 v6_2 => V.loopN (V.loopF Z61.E Tryz.f114.ntmps [1, 1, 0, 1, 0] [] (V.codeOf Tryz.f114) (Z61.kt x0)) V.KK (Z61.s6 x0 v6_1 v6_2)) := by kernel_rfl
theorem Z61.eq (x0 : List TEntry) : V.evBody Z61.E Z61.con Tryz.f114 ((x0) : List TEntry) = Z61 x0 := by
  rw [Z61.v]
  simp only [Z61.e6]
  rfl
theorem Z61.ok : V.Valid Tryz.prog 114 Z61.con :=
  V.fo (V.tab_cons Z157.ok V.tab_nil) Tryz.func114 (by kernel_rfl) (fun x y h => (show V.evBody Z61.E Z61.con Tryz.f114 x = _ from Z61.eq x).trans (V.cfl (by kernel_rfl) h))
noncomputable abbrev Z158.con : V.Con := ⟨(.cons (.sl V.eSigned) (.cons (.sl V.eEntry) .nil)), (.cons (.sl V.eSigned) (.cons (.sl V.eEntry) .nil)), fun (x : List TSigned × List TEntry) => Z158 x, [], [(true, 2)], [(true, 2)], [true, true], []⟩
noncomputable abbrev Z158.E : V.Env := V.mkE V.tys [(114, Z61.con), (266, Z64.con)] [] [] [] [] []
theorem Z158.eq (x0 : TZone) : V.evBody Z158.E Z158.con Tryz.f112 ((x0.1, x0.2) : List TSigned × List TEntry) = Z158 x0 := by kernel_rfl
theorem Z158.ok : V.Valid Tryz.prog 112 Z158.con :=
  V.fo (V.tab_cons Z61.ok (V.tab_cons Z64.ok V.tab_nil)) Tryz.func112 (by kernel_rfl) (fun x y h => (show V.evBody Z158.E Z158.con Tryz.f112 x = _ from Z158.eq x).trans (V.cfl (by kernel_rfl) h))
noncomputable abbrev Z66.con : V.Con := ⟨(.cons (.sl (.cons (.sl V.eSigned) (.cons (.sl V.eEntry) .nil))) .nil), (.cons (.sl (.cons (.sl V.eSigned) (.cons (.sl V.eEntry) .nil))) .nil), fun (x : List TZone) => Z66 x, [], [(false, 1)], [(false, 1)], [true], []⟩
noncomputable abbrev Z66.E : V.Env := V.mkE V.tys [(112, Z158.con)] [(6, [0, 3, 4], [])] [] [] [] []
noncomputable abbrev Z66.kt (x0 : List TZone) : V.Kt (List TZone) := V.ktOf Z66.E Z66.con Tryz.f147 ((x0) : List TZone)
noncomputable abbrev Z66.s6 (x0 : List TZone) (v6_1 : Int) (v6_2 : List TZone) : V.St := ⟨[(0, .v false [.val (.sl (.cons (.sl V.eSigned) (.cons (.sl V.eEntry) .nil)) x0)]), (3, .v false [.ref 64000038400192]), (4, .v false [.val (.int .i64 v6_1)])], [(64000038400192, .row (.cons (.sl V.eSigned) (.cons (.sl V.eEntry) .nil)) true v6_2)]⟩
theorem Z66.r6 (x0 : List TZone) (R : V.St → Option (List TZone)) (v6_1 : Int) (v6_2 : List TZone) : V.loopF Z66.E Tryz.f147.ntmps [1, 1, 0, 1, 0] [] (V.codeOf Tryz.f147) (Z66.kt x0) R (Z66.s6 x0 v6_1 v6_2) = Z66.g6 x0 (fun v6_1 v6_2 => R (Z66.s6 x0 v6_1 v6_2)) v6_1 v6_2 := by kernel_rfl
theorem Z66.e6 (x0 : List TZone) : ∀ (n : Nat) (v6_1 : Int) (v6_2 : List TZone), V.loopN (V.loopF Z66.E Tryz.f147.ntmps [1, 1, 0, 1, 0] [] (V.codeOf Tryz.f147) (Z66.kt x0)) n (Z66.s6 x0 v6_1 v6_2) = Z66.l6 x0 n v6_1 v6_2 := by
  intro n
  induction n with
  | zero => intros; rw [V.loopN_z]; rfl
  | succ n ih =>
    intro v6_1 v6_2
    rw [V.loopN_s, Z66.r6]
    simp only [ih]
    first | exact (Z66.u6 ..).symm | rfl
theorem Z66.v (x0 : List TZone) : V.evBody Z66.E Z66.con Tryz.f147 ((x0) : List TZone) = Z66.b x0 (fun v6_1 v6_2 => V.loopN (V.loopF Z66.E Tryz.f147.ntmps [1, 1, 0, 1, 0] [] (V.codeOf Tryz.f147) (Z66.kt x0)) V.KK (Z66.s6 x0 v6_1 v6_2)) := by kernel_rfl
theorem Z66.eq (x0 : List TZone) : V.evBody Z66.E Z66.con Tryz.f147 ((x0) : List TZone) = Z66 x0 := by
  rw [Z66.v]
  simp only [Z66.e6]
  rfl
theorem Z66.ok : V.Valid Tryz.prog 147 Z66.con :=
  V.fo (V.tab_cons Z158.ok V.tab_nil) Tryz.func147 (by kernel_rfl) (fun x y h => (show V.evBody Z66.E Z66.con Tryz.f147 x = _ from Z66.eq x).trans (V.cfl (by kernel_rfl) h))
noncomputable abbrev Z139.con : V.Con := ⟨(.cons (.sl (.cons (.sl V.eSigned) (.cons (.sl V.eEntry) .nil))) (.cons (.int .i64) .nil)), (.cons (.sl (.cons (.sl V.eSigned) (.cons (.sl V.eEntry) .nil))) (.cons (.int .i64) .nil)), fun (x : List TZone × Int) => Z139 x, [], [(true, 2)], [(true, 2)], [true, false], []⟩
noncomputable abbrev Z139.E : V.Env := V.mkE V.tys [(147, Z66.con)] [] [] [] [] []
theorem Z139.eq (x0 : TServer) : V.evBody Z139.E Z139.con Tryz.f17 ((x0.1, x0.2) : List TZone × Int) = Z139 x0 := by kernel_rfl
theorem Z139.ok : V.Valid Tryz.prog 17 Z139.con :=
  V.fo (V.tab_cons Z66.ok V.tab_nil) Tryz.func17 (by kernel_rfl) (fun x y h => (show V.evBody Z139.E Z139.con Tryz.f17 x = _ from Z139.eq x).trans (V.cfl (by kernel_rfl) h))
noncomputable abbrev Z71.con : V.Con := ⟨(.cons (.int .i64) (.cons (.int .i64) (.cons (.int .i64) .nil))), (.cons .bool .nil), fun (x : Int × Int × Int) => Z71 x.1 x.2.1 x.2.2, [], [(false, 1), (false, 1), (false, 1)], [(false, 1)], [false], []⟩
noncomputable abbrev Z71.E : V.Env := V.mkE V.tys [] [] [] [] [] []
theorem Z71.eq (x0 : Int) (x1 : Int) (x2 : Int) : V.evBody Z71.E Z71.con Tryz.f179 ((x0, x1, x2) : Int × Int × Int) = Z71 x0 x1 x2 := by kernel_rfl
theorem Z71.ok : V.Valid Tryz.prog 179 Z71.con :=
  V.fo V.tab_nil Tryz.func179 (by kernel_rfl) (fun x y h => (show V.evBody Z71.E Z71.con Tryz.f179 x = _ from Z71.eq x.1 x.2.1 x.2.2).trans (V.cfl (by kernel_rfl) h))
noncomputable abbrev Z15.con : V.Con := ⟨(.cons (.sl (.cons (.int .i64) .nil)) (.cons (.int .i64) .nil)), (.cons .bool .nil), fun (x : List Int × Int) => Z15 x, [], [(true, 2)], [(false, 1)], [false], []⟩
noncomputable abbrev Z15.E : V.Env := V.mkE V.tys [(179, Z71.con)] [(4, [1, 3], [])] [(4, 22)] [] [] []
noncomputable abbrev Z15.kt (x0 : TKeys) : V.Kt Bool := V.ktOf Z15.E Z15.con Tryz.f214 ((x0.1, x0.2) : List Int × Int)
noncomputable abbrev Z15.s4 (x0 : TKeys) (v4_0 : Int) : V.St := ⟨[(1, .v false [.ptr 64000 0]), (3, .v false [.val (.int .i64 v4_0)])], [(64000, .box [.val (.sl (.cons (.int .i64) .nil) x0.1), .val (.int .i64 x0.2)])]⟩
theorem Z15.r4 (x0 : TKeys) (R : V.St → Option Bool) (v4_0 : Int) : V.loopF Z15.E Tryz.f214.ntmps [1, 0, 1, 0] [] (V.codeOf Tryz.f214) (Z15.kt x0) R (Z15.s4 x0 v4_0) = Z15.g4 x0 (fun v4_0 => R (Z15.s4 x0 v4_0)) v4_0 := by kernel_rfl
theorem Z15.e4 (x0 : TKeys) : ∀ (n : Nat) (v4_0 : Int), V.loopN (V.loopF Z15.E Tryz.f214.ntmps [1, 0, 1, 0] [] (V.codeOf Tryz.f214) (Z15.kt x0)) n (Z15.s4 x0 v4_0) = Z15.l4 x0 n v4_0 := by
  intro n
  induction n with
  | zero => intros; rw [V.loopN_z]; rfl
  | succ n ih =>
    intro v4_0
    rw [V.loopN_s, Z15.r4]
    simp only [ih]
    first | exact (Z15.u4 ..).symm | rfl
theorem Z15.v (x0 : TKeys) : V.evBody Z15.E Z15.con Tryz.f214 ((x0.1, x0.2) : List Int × Int) = Z15.b x0 (fun v4_0 => V.loopN (V.loopF Z15.E Tryz.f214.ntmps [1, 0, 1, 0] [] (V.codeOf Tryz.f214) (Z15.kt x0)) V.KK (Z15.s4 x0 v4_0)) := by kernel_rfl
theorem Z15.eq (x0 : TKeys) : V.evBody Z15.E Z15.con Tryz.f214 ((x0.1, x0.2) : List Int × Int) = Z15 x0 := by
  rw [Z15.v]
  simp only [Z15.e4]
  rfl
theorem Z15.ok : V.Valid Tryz.prog 214 Z15.con :=
  V.fo (V.tab_cons Z71.ok V.tab_nil) Tryz.func214 (by kernel_rfl) (fun x y h => (show V.evBody Z15.E Z15.con Tryz.f214 x = _ from Z15.eq x).trans (V.cfl (by kernel_rfl) h))
noncomputable abbrev Z120.con : V.Con := ⟨(.cons (.sl (.cons (.int .i64) .nil)) (.cons (.int .i64) .nil)), (.cons .bool .nil), fun (x : List Int × Int) => Z120 x, [], [(true, 2)], [(false, 1)], [false], []⟩
noncomputable abbrev Z120.E : V.Env := V.mkE V.tys [] [] [] [] [] []
theorem Z120.eq (x0 : TKeys) : V.evBody Z120.E Z120.con Tryz.f237 ((x0.1, x0.2) : List Int × Int) = Z120 x0 := by kernel_rfl
theorem Z120.ok : V.Valid Tryz.prog 237 Z120.con :=
  V.fo V.tab_nil Tryz.func237 (by kernel_rfl) (fun x y h => (show V.evBody Z120.E Z120.con Tryz.f237 x = _ from Z120.eq x).trans (V.cfl (by kernel_rfl) h))
noncomputable abbrev Z2.con : V.Con := ⟨V.A2, (.cons .bool .nil), fun (x : V.D2) => Z2 (V.p2_0 x), [], [(true, 16)], [(false, 1)], [false], []⟩
noncomputable abbrev Z2.E : V.Env := V.mkE V.tys [(179, Z71.con), (214, Z15.con), (237, Z120.con)] [(7, [1], []), (11, [1], []), (21, [1], [])] [] [] [] []
noncomputable abbrev Z2.kt (x0 : THead) : V.Kt Bool := V.ktOf Z2.E Z2.con Tryz.f312 (V.fl2 x0)
noncomputable abbrev Z2.s21 (x0 : THead) : V.St := ⟨[(1, .v false [.ptr 64000 0])], [(64000, .box (V.lsHead x0))]⟩
noncomputable abbrev Z2.s11 (x0 : THead) : V.St := ⟨[(1, .v false [.ptr 64000 0])], [(64000, .box (V.lsHead x0))]⟩
noncomputable abbrev Z2.s7 (x0 : THead) : V.St := ⟨[(1, .v false [.ptr 64000 0])], [(64000, .box (V.lsHead x0))]⟩
theorem Z2.r21 (x0 : THead) : V.joinF Z2.E Tryz.f312.ntmps [1, 1, 1] [] (V.codeOf Tryz.f312) (Z2.kt x0) (Z2.s21 x0) = Z2.g21 x0 := by kernel_rfl
theorem Z2.e21 (x0 : THead) : V.jn (V.joinF Z2.E Tryz.f312.ntmps [1, 1, 1] [] (V.codeOf Tryz.f312) (Z2.kt x0)) (Z2.s21 x0) = Z2.l21 x0 := by
  rw [V.jn_eq, Z2.r21]
  rfl
theorem Z2.r11 (x0 : THead) : V.joinF Z2.E Tryz.f312.ntmps [1, 1] [] (V.codeOf Tryz.f312) (Z2.kt x0) (Z2.s11 x0) = Z2.g11 x0 (V.jn (V.joinF Z2.E Tryz.f312.ntmps [1, 1, 1] [] (V.codeOf Tryz.f312) (Z2.kt x0)) (Z2.s21 x0)) := by kernel_rfl
theorem Z2.e11 (x0 : THead) : V.jn (V.joinF Z2.E Tryz.f312.ntmps [1, 1] [] (V.codeOf Tryz.f312) (Z2.kt x0)) (Z2.s11 x0) = Z2.l11 x0 := by
  rw [V.jn_eq, Z2.r11]
  simp only [Z2.e21]
  rfl
theorem Z2.r7 (x0 : THead) : V.joinF Z2.E Tryz.f312.ntmps [1] [] (V.codeOf Tryz.f312) (Z2.kt x0) (Z2.s7 x0) = Z2.g7 x0 (V.jn (V.joinF Z2.E Tryz.f312.ntmps [1, 1] [] (V.codeOf Tryz.f312) (Z2.kt x0)) (Z2.s11 x0)) := by kernel_rfl
theorem Z2.e7 (x0 : THead) : V.jn (V.joinF Z2.E Tryz.f312.ntmps [1] [] (V.codeOf Tryz.f312) (Z2.kt x0)) (Z2.s7 x0) = Z2.l7 x0 := by
  rw [V.jn_eq, Z2.r7]
  simp only [Z2.e11]
  rfl
noncomputable abbrev Z2.s (x0 : THead) : V.St := ⟨[(0, .v true (V.lsHead x0))], []⟩
theorem Z2.v0 (x0 : THead) : V.evBody Z2.E Z2.con Tryz.f312 (V.fl2 x0) = V.evC Z2.E Tryz.f312.ntmps (V.codeOf Tryz.f312) (Z2.kt x0) (Z2.s x0) := by kernel_rfl
theorem Z2.v (x0 : THead) : V.evC Z2.E Tryz.f312.ntmps (V.codeOf Tryz.f312) (Z2.kt x0) (Z2.s x0) = Z2.b x0 (V.jn (V.joinF Z2.E Tryz.f312.ntmps [1] [] (V.codeOf Tryz.f312) (Z2.kt x0)) (Z2.s7 x0)) := by kernel_rfl
theorem Z2.eq (x0 : THead) : V.evBody Z2.E Z2.con Tryz.f312 (V.fl2 x0) = Z2 x0 := by
  rw [Z2.v0, Z2.v]
  simp only [Z2.e7]
  rfl
theorem Z2.ok : V.Valid Tryz.prog 312 Z2.con :=
  V.fo (V.tab_cons Z71.ok (V.tab_cons Z15.ok (V.tab_cons Z120.ok V.tab_nil))) Tryz.func312 (by kernel_rfl) (fun x y h => (show V.evBody Z2.E Z2.con Tryz.f312 x = _ from Z2.eq (V.p2_0 x)).trans (V.cfl (by kernel_rfl) h))
noncomputable abbrev Z117.con : V.Con := ⟨(.cons (.sl (.cons (.int .i64) .nil)) (.cons (.int .i64) .nil)), (.cons (.sl (.cons (.int .i64) .nil)) .nil), fun (x : List Int × Int) => Z117 x, [], [(true, 2)], [(false, 1)], [true], []⟩
noncomputable abbrev Z117.E : V.Env := V.mkE V.tys [] [] [] [] [] []
theorem Z117.eq (x0 : TKeys) : V.evBody Z117.E Z117.con Tryz.f273 ((x0.1, x0.2) : List Int × Int) = Z117 x0 := by kernel_rfl
theorem Z117.ok : V.Valid Tryz.prog 273 Z117.con :=
  V.fo V.tab_nil Tryz.func273 (by kernel_rfl) (fun x y h => (show V.evBody Z117.E Z117.con Tryz.f273 x = _ from Z117.eq x).trans (V.cfl (by kernel_rfl) h))
noncomputable abbrev Z190.con : V.Con := ⟨(.cons (.int .i64) (.cons (.int .i64) .nil)), (.cons (.int .i64) .nil), fun (x : Int × Int) => Z190 x.1 x.2, [], [(false, 1), (false, 1)], [(false, 1)], [false], []⟩
noncomputable abbrev Z190.E : V.Env := V.mkE V.tys [(179, Z71.con)] [] [] [] [] []
theorem Z190.eq (x0 : Int) (x1 : Int) : V.evBody Z190.E Z190.con Tryz.f403 ((x0, x1) : Int × Int) = Z190 x0 x1 := by kernel_rfl
theorem Z190.ok : V.Valid Tryz.prog 403 Z190.con :=
  V.fo (V.tab_cons Z71.ok V.tab_nil) Tryz.func403 (by kernel_rfl) (fun x y h => (show V.evBody Z190.E Z190.con Tryz.f403 x = _ from Z190.eq x.1 x.2).trans (V.cfl (by kernel_rfl) h))
noncomputable abbrev Z9.con : V.Con := ⟨(.cons (.sl (.cons (.int .i64) .nil)) .nil), (.cons (.int .i64) .nil), fun (x : List Int) => Z9 x, [], [(false, 1)], [(false, 1)], [false], []⟩
noncomputable abbrev Z9.E : V.Env := V.mkE V.tys [(403, Z190.con)] [(6, [0, 3, 4], [])] [] [] [] []
noncomputable abbrev Z9.kt (x0 : List Int) : V.Kt Int := V.ktOf Z9.E Z9.con Tryz.f337 ((x0) : List Int)
noncomputable abbrev Z9.s6 (x0 : List Int) (v6_1 : Int) (v6_2 : Int) : V.St := ⟨[(0, .v false [.val (.sl (.cons (.int .i64) .nil) x0)]), (3, .v false [.val (.int .i64 v6_1)]), (4, .v false [.val (.int .i64 v6_2)])], []⟩
theorem Z9.r6 (x0 : List Int) (R : V.St → Option Int) (v6_1 : Int) (v6_2 : Int) : V.loopF Z9.E Tryz.f337.ntmps [1, 1, 0, 1, 0] [] (V.codeOf Tryz.f337) (Z9.kt x0) R (Z9.s6 x0 v6_1 v6_2) = Z9.g6 x0 (fun v6_1 v6_2 => R (Z9.s6 x0 v6_1 v6_2)) v6_1 v6_2 := by kernel_rfl
theorem Z9.e6 (x0 : List Int) : ∀ (n : Nat) (v6_1 : Int) (v6_2 : Int), V.loopN (V.loopF Z9.E Tryz.f337.ntmps [1, 1, 0, 1, 0] [] (V.codeOf Tryz.f337) (Z9.kt x0)) n (Z9.s6 x0 v6_1 v6_2) = Z9.l6 x0 n v6_1 v6_2 := by
  intro n
  induction n with
  | zero => intros; rw [V.loopN_z]; rfl
  | succ n ih =>
    intro v6_1 v6_2
    rw [V.loopN_s, Z9.r6]
    simp only [ih]
    first | exact (Z9.u6 ..).symm | rfl
theorem Z9.v (x0 : List Int) : V.evBody Z9.E Z9.con Tryz.f337 ((x0) : List Int) = Z9.b x0 (fun v6_1 v6_2 => V.loopN (V.loopF Z9.E Tryz.f337.ntmps [1, 1, 0, 1, 0] [] (V.codeOf Tryz.f337) (Z9.kt x0)) V.KK (Z9.s6 x0 v6_1 v6_2)) := by kernel_rfl
theorem Z9.eq (x0 : List Int) : V.evBody Z9.E Z9.con Tryz.f337 ((x0) : List Int) = Z9 x0 := by
  rw [Z9.v]
  simp only [Z9.e6]
  rfl
theorem Z9.ok : V.Valid Tryz.prog 337 Z9.con :=
  V.fo (V.tab_cons Z190.ok V.tab_nil) Tryz.func337 (by kernel_rfl) (fun x y h => (show V.evBody Z9.E Z9.con Tryz.f337 x = _ from Z9.eq x).trans (V.cfl (by kernel_rfl) h))
noncomputable abbrev Z195.con : V.Con := ⟨(.cons (.sl (.cons (.int .i64) .nil)) (.cons (.int .i64) (.cons (.int .i64) .nil))), (.cons (.int .i64) .nil), fun (x : List Int × Int × Int) => Z195 (x.1, x.2.1) x.2.2, [], [(true, 2), (false, 1)], [(false, 1)], [false], []⟩
noncomputable abbrev Z195.E : V.Env := V.mkE V.tys [(273, Z117.con), (337, Z9.con)] [] [] [] [] []
theorem Z195.eq (x0 : TKeys) (x1 : Int) : V.evBody Z195.E Z195.con Tryz.f318 ((x0.1, x0.2, x1) : List Int × Int × Int) = Z195 x0 x1 := by kernel_rfl
theorem Z195.ok : V.Valid Tryz.prog 318 Z195.con :=
  V.fo (V.tab_cons Z117.ok (V.tab_cons Z9.ok V.tab_nil)) Tryz.func318 (by kernel_rfl) (fun x y h => (show V.evBody Z195.E Z195.con Tryz.f318 x = _ from Z195.eq (x.1, x.2.1) x.2.2).trans (V.cfl (by kernel_rfl) h))
noncomputable abbrev Z83.con : V.Con := ⟨V.A2, (.cons (.sl (.cons (.int .i64) .nil)) .nil), fun (x : V.D2) => Z83 (V.p2_0 x), [], [(true, 16)], [(false, 1)], [true], []⟩
noncomputable abbrev Z83.E : V.Env := V.mkE V.tys [(273, Z117.con)] [] [] [] [] []
noncomputable abbrev Z83.kt (x0 : THead) : V.Kt (List Int) := V.ktOf Z83.E Z83.con Tryz.f125 (V.fl2 x0)
noncomputable abbrev Z83.s (x0 : THead) : V.St := ⟨[(0, .v true (V.lsHead x0))], []⟩
theorem Z83.v0 (x0 : THead) : V.evBody Z83.E Z83.con Tryz.f125 (V.fl2 x0) = V.evC Z83.E Tryz.f125.ntmps (V.codeOf Tryz.f125) (Z83.kt x0) (Z83.s x0) := by kernel_rfl
theorem Z83.v (x0 : THead) : V.evC Z83.E Tryz.f125.ntmps (V.codeOf Tryz.f125) (Z83.kt x0) (Z83.s x0) = Z83 x0 := by kernel_rfl
theorem Z83.eq (x0 : THead) : V.evBody Z83.E Z83.con Tryz.f125 (V.fl2 x0) = Z83 x0 := (Z83.v0 x0).trans (Z83.v x0)
theorem Z83.ok : V.Valid Tryz.prog 125 Z83.con :=
  V.fo (V.tab_cons Z117.ok V.tab_nil) Tryz.func125 (by kernel_rfl) (fun x y h => (show V.evBody Z83.E Z83.con Tryz.f125 x = _ from Z83.eq (V.p2_0 x)).trans (V.cfl (by kernel_rfl) h))
noncomputable abbrev Z189.con : V.Con := ⟨(.cons (.int .i64) (.cons (.sl (.cons (.int .i64) .nil)) .nil)), (.cons (.int .i64) .nil), fun (x : Int × List Int) => Z189 x.1 x.2, [], [(false, 1), (false, 1)], [(false, 1)], [false], []⟩
noncomputable abbrev Z189.E : V.Env := V.mkE V.tys [(337, Z9.con)] [] [] [] [] []
theorem Z189.eq (x0 : Int) (x1 : List Int) : V.evBody Z189.E Z189.con Tryz.f328 ((x0, x1) : Int × List Int) = Z189 x0 x1 := by kernel_rfl
theorem Z189.ok : V.Valid Tryz.prog 328 Z189.con :=
  V.fo (V.tab_cons Z9.ok V.tab_nil) Tryz.func328 (by kernel_rfl) (fun x y h => (show V.evBody Z189.E Z189.con Tryz.f328 x = _ from Z189.eq x.1 x.2).trans (V.cfl (by kernel_rfl) h))
noncomputable abbrev Z193.con : V.Con := ⟨(.cons (.int .i64) (.cons (.sl (.cons (.int .i64) .nil)) .nil)), (.cons (.int .i64) .nil), fun (x : Int × List Int) => Z193 x.1 x.2, [], [(false, 1), (false, 1)], [(false, 1)], [false], []⟩
noncomputable abbrev Z193.E : V.Env := V.mkE V.tys [(328, Z189.con)] [] [] [] [] []
theorem Z193.eq (x0 : Int) (x1 : List Int) : V.evBody Z193.E Z193.con Tryz.f202 ((x0, x1) : Int × List Int) = Z193 x0 x1 := by kernel_rfl
theorem Z193.ok : V.Valid Tryz.prog 202 Z193.con :=
  V.fo (V.tab_cons Z189.ok V.tab_nil) Tryz.func202 (by kernel_rfl) (fun x y h => (show V.evBody Z193.E Z193.con Tryz.f202 x = _ from Z193.eq x.1 x.2).trans (V.cfl (by kernel_rfl) h))
noncomputable abbrev Z188.con : V.Con := ⟨(.cons (.int .i64) (.cons (.int .i64) (.cons (.sl (.cons (.int .i64) .nil)) .nil))), (.cons .bool .nil), fun (x : Int × Int × List Int) => Z188 (x.1, x.2.1) x.2.2, [], [(true, 2), (false, 1)], [(false, 1)], [false], []⟩
noncomputable abbrev Z188.E : V.Env := V.mkE V.tys [(179, Z71.con), (202, Z193.con)] [] [(1, 10)] [] [] []
theorem Z188.eq (x0 : TSig) (x1 : List Int) : V.evBody Z188.E Z188.con Tryz.f336 ((x0.1, x0.2, x1) : Int × Int × List Int) = Z188 x0 x1 := by kernel_rfl
theorem Z188.ok : V.Valid Tryz.prog 336 Z188.con :=
  V.fo (V.tab_cons Z71.ok (V.tab_cons Z193.ok V.tab_nil)) Tryz.func336 (by kernel_rfl) (fun x y h => (show V.evBody Z188.E Z188.con Tryz.f336 x = _ from Z188.eq (x.1, x.2.1) x.2.2).trans (V.cfl (by kernel_rfl) h))
noncomputable abbrev Z1.con : V.Con := ⟨(.cons (.sl (.cons (.int .i64) .nil)) (.cons (.int .i64) (.cons (.sl (.cons (.int .i64) .nil)) (.cons (.sl (.cons (.int .i64) (.cons (.int .i64) .nil))) .nil)))), (.cons (.int .i64) .nil), fun (x : List Int × Int × List Int × List TSig) => Z1 (x.1, x.2.1) x.2.2.1 x.2.2.2, [], [(true, 2), (false, 1), (false, 1)], [(false, 1)], [false], []⟩
noncomputable abbrev Z1.E : V.Env := V.mkE V.tys [(336, Z188.con)] [(6, [1, 2, 3, 7, 8], []), (12, [1, 2, 3, 7, 8, 9], []), (19, [1, 2, 3, 7, 8, 9, 41], [])] [(8, 17)] [] [] []
noncomputable abbrev Z1.kt (x0 : TKeys) (x1 : List Int) (x2 : List TSig) : V.Kt Int := V.ktOf Z1.E Z1.con Tryz.f213 ((x0.1, x0.2, x1, x2) : List Int × Int × List Int × List TSig)
noncomputable abbrev Z1.s19 (x0 : TKeys) (x1 : List Int) (x2 : List TSig) (v6_2 : Int) (v6_3 : Int) (v12_4 : Int) (v19_5 : Bool) : V.St := ⟨[(1, .v false [.val (.sl (.cons (.int .i64) .nil) x1)]), (2, .v false [.val (.sl (.cons (.int .i64) (.cons (.int .i64) .nil)) x2)]), (3, .v false [.ptr 64000 0]), (7, .v false [.val (.int .i64 v6_2)]), (8, .v false [.val (.int .i64 v6_3)]), (9, .v false [.val (.int .i64 v12_4)]), (41, .v false [.val (.bool v19_5)])], [(64000, .box [.val (.sl (.cons (.int .i64) .nil) x0.1), .val (.int .i64 x0.2)])]⟩
noncomputable abbrev Z1.s12 (x0 : TKeys) (x1 : List Int) (x2 : List TSig) (v6_2 : Int) (v6_3 : Int) (v12_4 : Int) : V.St := ⟨[(1, .v false [.val (.sl (.cons (.int .i64) .nil) x1)]), (2, .v false [.val (.sl (.cons (.int .i64) (.cons (.int .i64) .nil)) x2)]), (3, .v false [.ptr 64000 0]), (7, .v false [.val (.int .i64 v6_2)]), (8, .v false [.val (.int .i64 v6_3)]), (9, .v false [.val (.int .i64 v12_4)])], [(64000, .box [.val (.sl (.cons (.int .i64) .nil) x0.1), .val (.int .i64 x0.2)])]⟩
noncomputable abbrev Z1.s6 (x0 : TKeys) (x1 : List Int) (x2 : List TSig) (v6_2 : Int) (v6_3 : Int) : V.St := ⟨[(1, .v false [.val (.sl (.cons (.int .i64) .nil) x1)]), (2, .v false [.val (.sl (.cons (.int .i64) (.cons (.int .i64) .nil)) x2)]), (3, .v false [.ptr 64000 0]), (7, .v false [.val (.int .i64 v6_2)]), (8, .v false [.val (.int .i64 v6_3)])], [(64000, .box [.val (.sl (.cons (.int .i64) .nil) x0.1), .val (.int .i64 x0.2)])]⟩
theorem Z1.r19 (x0 : TKeys) (x1 : List Int) (x2 : List TSig) (v12_4 : Int) (v6_2 : Int) (v6_3 : Int) (R6 : V.St → Option Int) (R12 : V.St → Option Int) (v19_5 : Bool) : V.joinF Z1.E Tryz.f213.ntmps [1, 1, 0, 1, 0, 0, 1, 0, 0, 1, 0, 0, 1, 0, 0] [R6, R12] (V.codeOf Tryz.f213) (Z1.kt x0 x1 x2) (Z1.s19 x0 x1 x2 v6_2 v6_3 v12_4 v19_5) = Z1.g19 x0 x1 x2 v6_2 v6_3 v12_4 (fun v6_2 v6_3 => R6 (Z1.s6 x0 x1 x2 v6_2 v6_3)) (fun v12_4 => R12 (Z1.s12 x0 x1 x2 v6_2 v6_3 v12_4)) v19_5 := by kernel_rfl
theorem Z1.e19 (x0 : TKeys) (x1 : List Int) (x2 : List TSig) (v12_4 : Int) (v6_2 : Int) (v6_3 : Int) (R6 : V.St → Option Int) (R12 : V.St → Option Int) (v19_5 : Bool) : V.jn (V.joinF Z1.E Tryz.f213.ntmps [1, 1, 0, 1, 0, 0, 1, 0, 0, 1, 0, 0, 1, 0, 0] [R6, R12] (V.codeOf Tryz.f213) (Z1.kt x0 x1 x2)) (Z1.s19 x0 x1 x2 v6_2 v6_3 v12_4 v19_5) = Z1.l19 x0 x1 x2 v6_2 v6_3 v12_4 (fun v6_2 v6_3 => R6 (Z1.s6 x0 x1 x2 v6_2 v6_3)) (fun v12_4 => R12 (Z1.s12 x0 x1 x2 v6_2 v6_3 v12_4)) v19_5 := by
  rw [V.jn_eq, Z1.r19]
  rfl
theorem Z1.r12 (x0 : TKeys) (x1 : List Int) (x2 : List TSig) (v6_2 : Int) (v6_3 : Int) (R6 : V.St → Option Int) (R : V.St → Option Int) (v12_4 : Int) : V.loopF Z1.E Tryz.f213.ntmps [1, 1, 0, 1, 0, 0, 1, 0, 0, 1, 0] [R6] (V.codeOf Tryz.f213) (Z1.kt x0 x1 x2) R (Z1.s12 x0 x1 x2 v6_2 v6_3 v12_4) = Z1.g12 x0 x1 x2 v6_2 v6_3 (fun v6_2 v6_3 => R6 (Z1.s6 x0 x1 x2 v6_2 v6_3)) (fun v12_4 => R (Z1.s12 x0 x1 x2 v6_2 v6_3 v12_4)) (fun v19_5 => V.jn (V.joinF Z1.E Tryz.f213.ntmps [1, 1, 0, 1, 0, 0, 1, 0, 0, 1, 0, 0, 1, 0, 0] [R6, R] (V.codeOf Tryz.f213) (Z1.kt x0 x1 x2)) (Z1.s19 x0 x1 x2 v6_2 v6_3 v12_4 v19_5)) v12_4 := by kernel_rfl
theorem Z1.e12 (x0 : TKeys) (x1 : List Int) (x2 : List TSig) (v6_2 : Int) (v6_3 : Int) (R6 : V.St → Option Int) : ∀ (n : Nat) (v12_4 : Int), V.loopN (V.loopF Z1.E Tryz.f213.ntmps [1, 1, 0, 1, 0, 0, 1, 0, 0, 1, 0] [R6] (V.codeOf Tryz.f213) (Z1.kt x0 x1 x2)) n (Z1.s12 x0 x1 x2 v6_2 v6_3 v12_4) = Z1.l12 x0 x1 x2 v6_2 v6_3 (fun v6_2 v6_3 => R6 (Z1.s6 x0 x1 x2 v6_2 v6_3)) n v12_4 := by
  intro n
  induction n with
  | zero => intros; rw [V.loopN_z]; rfl
  | succ n ih =>
    intro v12_4
    rw [V.loopN_s, Z1.r12]
    simp only [Z1.e19, ih]
    first | exact (Z1.u12 ..).symm | rfl
theorem Z1.r6 (x0 : TKeys) (x1 : List Int) (x2 : List TSig) (R : V.St → Option Int) (v6_2 : Int) (v6_3 : Int) : V.loopF Z1.E Tryz.f213.ntmps [1, 1, 0, 1, 0] [] (V.codeOf Tryz.f213) (Z1.kt x0 x1 x2) R (Z1.s6 x0 x1 x2 v6_2 v6_3) = Z1.g6 x0 x1 x2 (fun v6_2 v6_3 => R (Z1.s6 x0 x1 x2 v6_2 v6_3)) (fun v12_4 => V.loopN (V.loopF Z1.E Tryz.f213.ntmps [1, 1, 0, 1, 0, 0, 1, 0, 0, 1, 0] [R] (V.codeOf Tryz.f213) (Z1.kt x0 x1 x2)) V.KK (Z1.s12 x0 x1 x2 v6_2 v6_3 v12_4)) v6_2 v6_3 := by kernel_rfl
theorem Z1.e6 (x0 : TKeys) (x1 : List Int) (x2 : List TSig) : ∀ (n : Nat) (v6_2 : Int) (v6_3 : Int), V.loopN (V.loopF Z1.E Tryz.f213.ntmps [1, 1, 0, 1, 0] [] (V.codeOf Tryz.f213) (Z1.kt x0 x1 x2)) n (Z1.s6 x0 x1 x2 v6_2 v6_3) = Z1.l6 x0 x1 x2 n v6_2 v6_3 := by
  intro n
  induction n with
  | zero => intros; rw [V.loopN_z]; rfl
  | succ n ih =>
    intro v6_2 v6_3
    rw [V.loopN_s, Z1.r6]
    simp only [Z1.e12, ih]
    first | exact (Z1.u6 ..).symm | rfl
theorem Z1.v (x0 : TKeys) (x1 : List Int) (x2 : List TSig) : V.evBody Z1.E Z1.con Tryz.f213 ((x0.1, x0.2, x1, x2) : List Int × Int × List Int × List TSig) = Z1.b x0 x1 x2 (fun v6_2 v6_3 => V.loopN (V.loopF Z1.E Tryz.f213.ntmps [1, 1, 0, 1, 0] [] (V.codeOf Tryz.f213) (Z1.kt x0 x1 x2)) V.KK (Z1.s6 x0 x1 x2 v6_2 v6_3)) := by kernel_rfl
theorem Z1.eq (x0 : TKeys) (x1 : List Int) (x2 : List TSig) : V.evBody Z1.E Z1.con Tryz.f213 ((x0.1, x0.2, x1, x2) : List Int × Int × List Int × List TSig) = Z1 x0 x1 x2 := by
  rw [Z1.v]
  simp only [Z1.e6]
  rfl
theorem Z1.ok : V.Valid Tryz.prog 213 Z1.con :=
  V.fo (V.tab_cons Z188.ok V.tab_nil) Tryz.func213 (by kernel_rfl) (fun x y h => (show V.evBody Z1.E Z1.con Tryz.f213 x = _ from Z1.eq (x.1, x.2.1) x.2.2.1 x.2.2.2).trans (V.cfl (by kernel_rfl) h))
noncomputable abbrev Z140.con : V.Con := ⟨(.cons (.sl (.cons (.int .i64) .nil)) (.cons (.int .i64) (.cons (.sl (.cons (.int .i64) .nil)) (.cons (.sl (.cons (.int .i64) (.cons (.int .i64) .nil))) .nil)))), (.cons .bool .nil), fun (x : List Int × Int × List Int × List TSig) => Z140 (x.1, x.2.1) x.2.2.1 x.2.2.2, [], [(true, 2), (false, 1), (false, 1)], [(false, 1)], [false], []⟩
noncomputable abbrev Z140.E : V.Env := V.mkE V.tys [(213, Z1.con), (214, Z15.con)] [] [(1, 9)] [] [] []
theorem Z140.eq (x0 : TKeys) (x1 : List Int) (x2 : List TSig) : V.evBody Z140.E Z140.con Tryz.f316 ((x0.1, x0.2, x1, x2) : List Int × Int × List Int × List TSig) = Z140 x0 x1 x2 := by kernel_rfl
theorem Z140.ok : V.Valid Tryz.prog 316 Z140.con :=
  V.fo (V.tab_cons Z1.ok (V.tab_cons Z15.ok V.tab_nil)) Tryz.func316 (by kernel_rfl) (fun x y h => (show V.evBody Z140.E Z140.con Tryz.f316 x = _ from Z140.eq (x.1, x.2.1) x.2.2.1 x.2.2.2).trans (V.cfl (by kernel_rfl) h))
noncomputable abbrev Z110.con : V.Con := ⟨V.A3, (.cons .bool .nil), fun (x : V.D3) => Z110 (V.p3_0 x), [], [(true, 17)], [(false, 1)], [false], []⟩
noncomputable abbrev Z110.E : V.Env := V.mkE V.tys [(125, Z83.con), (312, Z2.con), (316, Z140.con), (318, Z195.con)] [] [(2, 34)] [] [] []
noncomputable abbrev Z110.kt (x0 : TSigned) : V.Kt Bool := V.ktOf Z110.E Z110.con Tryz.f181 (V.fl3 x0)
noncomputable abbrev Z110.s (x0 : TSigned) : V.St := ⟨[(0, .v true (V.lsSigned x0))], []⟩
theorem Z110.v0 (x0 : TSigned) : V.evBody Z110.E Z110.con Tryz.f181 (V.fl3 x0) = V.evC Z110.E Tryz.f181.ntmps (V.codeOf Tryz.f181) (Z110.kt x0) (Z110.s x0) := by kernel_rfl
theorem Z110.v (x0 : TSigned) : V.evC Z110.E Tryz.f181.ntmps (V.codeOf Tryz.f181) (Z110.kt x0) (Z110.s x0) = Z110 x0 := by kernel_rfl
theorem Z110.eq (x0 : TSigned) : V.evBody Z110.E Z110.con Tryz.f181 (V.fl3 x0) = Z110 x0 := (Z110.v0 x0).trans (Z110.v x0)
theorem Z110.ok : V.Valid Tryz.prog 181 Z110.con :=
  V.fo (V.tab_cons Z83.ok (V.tab_cons Z2.ok (V.tab_cons Z140.ok (V.tab_cons Z195.ok V.tab_nil)))) Tryz.func181 (by kernel_rfl) (fun x y h => (show V.evBody Z110.E Z110.con Tryz.f181 x = _ from Z110.eq (V.p3_0 x)).trans (V.cfl (by kernel_rfl) h))
noncomputable abbrev Z109.con : V.Con := ⟨V.A2, (.cons (.int .i64) .nil), fun (x : V.D2) => Z109 (V.p2_0 x), [], [(true, 16)], [(false, 1)], [false], []⟩
noncomputable abbrev Z109.E : V.Env := V.mkE V.tys [(125, Z83.con), (337, Z9.con)] [] [] [] [] []
noncomputable abbrev Z109.kt (x0 : THead) : V.Kt Int := V.ktOf Z109.E Z109.con Tryz.f216 (V.fl2 x0)
noncomputable abbrev Z109.s (x0 : THead) : V.St := ⟨[(0, .v true (V.lsHead x0))], []⟩
theorem Z109.v0 (x0 : THead) : V.evBody Z109.E Z109.con Tryz.f216 (V.fl2 x0) = V.evC Z109.E Tryz.f216.ntmps (V.codeOf Tryz.f216) (Z109.kt x0) (Z109.s x0) := by kernel_rfl
theorem Z109.v (x0 : THead) : V.evC Z109.E Tryz.f216.ntmps (V.codeOf Tryz.f216) (Z109.kt x0) (Z109.s x0) = Z109 x0 := by kernel_rfl
theorem Z109.eq (x0 : THead) : V.evBody Z109.E Z109.con Tryz.f216 (V.fl2 x0) = Z109 x0 := (Z109.v0 x0).trans (Z109.v x0)
theorem Z109.ok : V.Valid Tryz.prog 216 Z109.con :=
  V.fo (V.tab_cons Z83.ok (V.tab_cons Z9.ok V.tab_nil)) Tryz.func216 (by kernel_rfl) (fun x y h => (show V.evBody Z109.E Z109.con Tryz.f216 x = _ from Z109.eq (V.p2_0 x)).trans (V.cfl (by kernel_rfl) h))
noncomputable abbrev Z112.con : V.Con := ⟨V.A4, (.cons (.int .i64) .nil), fun (x : V.D4) => Z112 (V.p4_0 x) (V.p4_1 x), [], [(true, 16), (true, 16)], [(false, 1)], [false], []⟩
noncomputable abbrev Z112.E : V.Env := V.mkE V.tys [] [] [] [] [] []
noncomputable abbrev Z112.kt (x0 : THead) (x1 : THead) : V.Kt Int := V.ktOf Z112.E Z112.con Tryz.f313 (V.fl4 x0 x1)
noncomputable abbrev Z112.s (x0 : THead) (x1 : THead) : V.St := ⟨[(0, .v true (V.lsHead x0)), (1, .v true (V.lsHead x1))], []⟩
theorem Z112.v0 (x0 : THead) (x1 : THead) : V.evBody Z112.E Z112.con Tryz.f313 (V.fl4 x0 x1) = V.evC Z112.E Tryz.f313.ntmps (V.codeOf Tryz.f313) (Z112.kt x0 x1) (Z112.s x0 x1) := by kernel_rfl
theorem Z112.v (x0 : THead) (x1 : THead) : V.evC Z112.E Tryz.f313.ntmps (V.codeOf Tryz.f313) (Z112.kt x0 x1) (Z112.s x0 x1) = Z112 x0 x1 := by kernel_rfl
theorem Z112.eq (x0 : THead) (x1 : THead) : V.evBody Z112.E Z112.con Tryz.f313 (V.fl4 x0 x1) = Z112 x0 x1 := (Z112.v0 x0 x1).trans (Z112.v x0 x1)
theorem Z112.ok : V.Valid Tryz.prog 313 Z112.con :=
  V.fo V.tab_nil Tryz.func313 (by kernel_rfl) (fun x y h => (show V.evBody Z112.E Z112.con Tryz.f313 x = _ from Z112.eq (V.p4_0 x) (V.p4_1 x)).trans (V.cfl (by kernel_rfl) h))
noncomputable abbrev Z26.con : V.Con := ⟨(.cons (.sl (.cons (.int .i64) .nil)) (.cons (.sl (.cons (.int .i64) .nil)) .nil)), (.cons .bool .nil), fun (x : List Int × List Int) => Z26 x.1 x.2, [], [(false, 1), (false, 1)], [(false, 1)], [false], []⟩
noncomputable abbrev Z26.E : V.Env := V.mkE V.tys [] [(8, [0, 1, 5], [])] [(6, 8)] [] [] []
noncomputable abbrev Z26.kt (x0 : List Int) (x1 : List Int) : V.Kt Bool := V.ktOf Z26.E Z26.con Tryz.f329 ((x0, x1) : List Int × List Int)
noncomputable abbrev Z26.s8 (x0 : List Int) (x1 : List Int) (v8_2 : Int) : V.St := ⟨[(0, .v false [.val (.sl (.cons (.int .i64) .nil) x0)]), (1, .v false [.val (.sl (.cons (.int .i64) .nil) x1)]), (5, .v false [.val (.int .i64 v8_2)])], []⟩
theorem Z26.r8 (x0 : List Int) (x1 : List Int) (R : V.St → Option Bool) (v8_2 : Int) : V.loopF Z26.E Tryz.f329.ntmps [1, 1, 0, 1, 0] [] (V.codeOf Tryz.f329) (Z26.kt x0 x1) R (Z26.s8 x0 x1 v8_2) = Z26.g8 x0 x1 (fun v8_2 => R (Z26.s8 x0 x1 v8_2)) v8_2 := by kernel_rfl
theorem Z26.e8 (x0 : List Int) (x1 : List Int) : ∀ (n : Nat) (v8_2 : Int), V.loopN (V.loopF Z26.E Tryz.f329.ntmps [1, 1, 0, 1, 0] [] (V.codeOf Tryz.f329) (Z26.kt x0 x1)) n (Z26.s8 x0 x1 v8_2) = Z26.l8 x0 x1 n v8_2 := by
  intro n
  induction n with
  | zero => intros; rw [V.loopN_z]; rfl
  | succ n ih =>
    intro v8_2
    rw [V.loopN_s, Z26.r8]
    simp only [ih]
    first | exact (Z26.u8 ..).symm | rfl
theorem Z26.v (x0 : List Int) (x1 : List Int) : V.evBody Z26.E Z26.con Tryz.f329 ((x0, x1) : List Int × List Int) = Z26.b x0 x1 (fun v8_2 => V.loopN (V.loopF Z26.E Tryz.f329.ntmps [1, 1, 0, 1, 0] [] (V.codeOf Tryz.f329) (Z26.kt x0 x1)) V.KK (Z26.s8 x0 x1 v8_2)) := by kernel_rfl
theorem Z26.eq (x0 : List Int) (x1 : List Int) : V.evBody Z26.E Z26.con Tryz.f329 ((x0, x1) : List Int × List Int) = Z26 x0 x1 := by
  rw [Z26.v]
  simp only [Z26.e8]
  rfl
theorem Z26.ok : V.Valid Tryz.prog 329 Z26.con :=
  V.fo V.tab_nil Tryz.func329 (by kernel_rfl) (fun x y h => (show V.evBody Z26.E Z26.con Tryz.f329 x = _ from Z26.eq x.1 x.2).trans (V.cfl (by kernel_rfl) h))
noncomputable abbrev Z125.con : V.Con := ⟨(.cons (.sl (.cons (.int .i64) .nil)) (.cons (.int .i64) (.cons (.sl (.cons (.int .i64) .nil)) (.cons (.int .i64) .nil)))), (.cons .bool .nil), fun (x : List Int × Int × List Int × Int) => Z125 (x.1, x.2.1) x.2.2, [], [(true, 2), (true, 2)], [(false, 1)], [false], []⟩
noncomputable abbrev Z125.E : V.Env := V.mkE V.tys [(329, Z26.con)] [] [] [] [] []
theorem Z125.eq (x0 : TKeys) (x1 : TKeys) : V.evBody Z125.E Z125.con Tryz.f397 ((x0.1, x0.2, x1.1, x1.2) : List Int × Int × List Int × Int) = Z125 x0 x1 := by kernel_rfl
theorem Z125.ok : V.Valid Tryz.prog 397 Z125.con :=
  V.fo (V.tab_cons Z26.ok V.tab_nil) Tryz.func397 (by kernel_rfl) (fun x y h => (show V.evBody Z125.E Z125.con Tryz.f397 x = _ from Z125.eq (x.1, x.2.1) x.2.2).trans (V.cfl (by kernel_rfl) h))
noncomputable abbrev Z89.con : V.Con := ⟨V.A4, (.cons .bool .nil), fun (x : V.D4) => Z89 (V.p4_0 x) (V.p4_1 x), [], [(true, 16), (true, 16)], [(false, 1)], [false], []⟩
noncomputable abbrev Z89.E : V.Env := V.mkE V.tys [] [] [] [] [] []
noncomputable abbrev Z89.kt (x0 : THead) (x1 : THead) : V.Kt Bool := V.ktOf Z89.E Z89.con Tryz.f398 (V.fl4 x0 x1)
noncomputable abbrev Z89.s (x0 : THead) (x1 : THead) : V.St := ⟨[(0, .v true (V.lsHead x0)), (1, .v true (V.lsHead x1))], []⟩
theorem Z89.v0 (x0 : THead) (x1 : THead) : V.evBody Z89.E Z89.con Tryz.f398 (V.fl4 x0 x1) = V.evC Z89.E Tryz.f398.ntmps (V.codeOf Tryz.f398) (Z89.kt x0 x1) (Z89.s x0 x1) := by kernel_rfl
theorem Z89.v (x0 : THead) (x1 : THead) : V.evC Z89.E Tryz.f398.ntmps (V.codeOf Tryz.f398) (Z89.kt x0 x1) (Z89.s x0 x1) = Z89 x0 x1 := by kernel_rfl
theorem Z89.eq (x0 : THead) (x1 : THead) : V.evBody Z89.E Z89.con Tryz.f398 (V.fl4 x0 x1) = Z89 x0 x1 := (Z89.v0 x0 x1).trans (Z89.v x0 x1)
theorem Z89.ok : V.Valid Tryz.prog 398 Z89.con :=
  V.fo V.tab_nil Tryz.func398 (by kernel_rfl) (fun x y h => (show V.evBody Z89.E Z89.con Tryz.f398 x = _ from Z89.eq (V.p4_0 x) (V.p4_1 x)).trans (V.cfl (by kernel_rfl) h))
noncomputable abbrev Z30.con : V.Con := ⟨V.A4, (.cons (.int .i64) .nil), fun (x : V.D4) => Z30 (V.p4_0 x) (V.p4_1 x), [], [(true, 16), (true, 16)], [(false, 1)], [false], []⟩
noncomputable abbrev Z30.E : V.Env := V.mkE V.tys [(237, Z120.con), (397, Z125.con), (398, Z89.con)] [(9, [2, 3, 8], [])] [] [] [] []
noncomputable abbrev Z30.kt (x0 : THead) (x1 : THead) : V.Kt Int := V.ktOf Z30.E Z30.con Tryz.f314 (V.fl4 x0 x1)
noncomputable abbrev Z30.s9 (x0 : THead) (x1 : THead) (v9_0 : Bool) : V.St := ⟨[(2, .v false [.ptr 64000 0]), (3, .v false [.ptr 64064 0]), (8, .v false [.val (.bool v9_0)])], [(64000, .box (V.lsHead x0)), (64064, .box (V.lsHead x1))]⟩
theorem Z30.r9 (x0 : THead) (x1 : THead) (v9_0 : Bool) : V.joinF Z30.E Tryz.f314.ntmps [1, 0, 0, 1, 1] [] (V.codeOf Tryz.f314) (Z30.kt x0 x1) (Z30.s9 x0 x1 v9_0) = Z30.g9 x0 x1 v9_0 := by kernel_rfl
theorem Z30.e9 (x0 : THead) (x1 : THead) (v9_0 : Bool) : V.jn (V.joinF Z30.E Tryz.f314.ntmps [1, 0, 0, 1, 1] [] (V.codeOf Tryz.f314) (Z30.kt x0 x1)) (Z30.s9 x0 x1 v9_0) = Z30.l9 x0 x1 v9_0 := by
  rw [V.jn_eq, Z30.r9]
  rfl
noncomputable abbrev Z30.s (x0 : THead) (x1 : THead) : V.St := ⟨[(0, .v true (V.lsHead x0)), (1, .v true (V.lsHead x1))], []⟩
theorem Z30.v0 (x0 : THead) (x1 : THead) : V.evBody Z30.E Z30.con Tryz.f314 (V.fl4 x0 x1) = V.evC Z30.E Tryz.f314.ntmps (V.codeOf Tryz.f314) (Z30.kt x0 x1) (Z30.s x0 x1) := by kernel_rfl
theorem Z30.v (x0 : THead) (x1 : THead) : V.evC Z30.E Tryz.f314.ntmps (V.codeOf Tryz.f314) (Z30.kt x0 x1) (Z30.s x0 x1) = Z30.b x0 x1 (fun v9_0 => V.jn (V.joinF Z30.E Tryz.f314.ntmps [1, 0, 0, 1, 1] [] (V.codeOf Tryz.f314) (Z30.kt x0 x1)) (Z30.s9 x0 x1 v9_0)) := by kernel_rfl
theorem Z30.eq (x0 : THead) (x1 : THead) : V.evBody Z30.E Z30.con Tryz.f314 (V.fl4 x0 x1) = Z30 x0 x1 := by
  rw [Z30.v0, Z30.v]
  simp only [Z30.e9]
  rfl
theorem Z30.ok : V.Valid Tryz.prog 314 Z30.con :=
  V.fo (V.tab_cons Z120.ok (V.tab_cons Z125.ok (V.tab_cons Z89.ok V.tab_nil))) Tryz.func314 (by kernel_rfl) (fun x y h => (show V.evBody Z30.E Z30.con Tryz.f314 x = _ from Z30.eq (V.p4_0 x) (V.p4_1 x)).trans (V.cfl (by kernel_rfl) h))
noncomputable abbrev Z31.con : V.Con := ⟨V.A4, (.cons (.int .i64) .nil), fun (x : V.D4) => Z31 (V.p4_0 x) (V.p4_1 x), [], [(true, 16), (true, 16)], [(false, 1)], [false], []⟩
noncomputable abbrev Z31.E : V.Env := V.mkE V.tys [(237, Z120.con), (397, Z125.con), (398, Z89.con)] [(9, [2, 3, 9], [])] [] [] [] []
noncomputable abbrev Z31.kt (x0 : THead) (x1 : THead) : V.Kt Int := V.ktOf Z31.E Z31.con Tryz.f315 (V.fl4 x0 x1)
noncomputable abbrev Z31.s9 (x0 : THead) (x1 : THead) (v9_0 : Bool) : V.St := ⟨[(2, .v false [.ptr 64000 0]), (3, .v false [.ptr 64064 0]), (9, .v false [.val (.bool v9_0)])], [(64000, .box (V.lsHead x0)), (64064, .box (V.lsHead x1))]⟩
theorem Z31.r9 (x0 : THead) (x1 : THead) (v9_0 : Bool) : V.joinF Z31.E Tryz.f315.ntmps [1, 0, 0, 1, 1] [] (V.codeOf Tryz.f315) (Z31.kt x0 x1) (Z31.s9 x0 x1 v9_0) = Z31.g9 x0 x1 v9_0 := by kernel_rfl
theorem Z31.e9 (x0 : THead) (x1 : THead) (v9_0 : Bool) : V.jn (V.joinF Z31.E Tryz.f315.ntmps [1, 0, 0, 1, 1] [] (V.codeOf Tryz.f315) (Z31.kt x0 x1)) (Z31.s9 x0 x1 v9_0) = Z31.l9 x0 x1 v9_0 := by
  rw [V.jn_eq, Z31.r9]
  rfl
noncomputable abbrev Z31.s (x0 : THead) (x1 : THead) : V.St := ⟨[(0, .v true (V.lsHead x0)), (1, .v true (V.lsHead x1))], []⟩
theorem Z31.v0 (x0 : THead) (x1 : THead) : V.evBody Z31.E Z31.con Tryz.f315 (V.fl4 x0 x1) = V.evC Z31.E Tryz.f315.ntmps (V.codeOf Tryz.f315) (Z31.kt x0 x1) (Z31.s x0 x1) := by kernel_rfl
theorem Z31.v (x0 : THead) (x1 : THead) : V.evC Z31.E Tryz.f315.ntmps (V.codeOf Tryz.f315) (Z31.kt x0 x1) (Z31.s x0 x1) = Z31.b x0 x1 (fun v9_0 => V.jn (V.joinF Z31.E Tryz.f315.ntmps [1, 0, 0, 1, 1] [] (V.codeOf Tryz.f315) (Z31.kt x0 x1)) (Z31.s9 x0 x1 v9_0)) := by kernel_rfl
theorem Z31.eq (x0 : THead) (x1 : THead) : V.evBody Z31.E Z31.con Tryz.f315 (V.fl4 x0 x1) = Z31 x0 x1 := by
  rw [Z31.v0, Z31.v]
  simp only [Z31.e9]
  rfl
theorem Z31.ok : V.Valid Tryz.prog 315 Z31.con :=
  V.fo (V.tab_cons Z120.ok (V.tab_cons Z125.ok (V.tab_cons Z89.ok V.tab_nil))) Tryz.func315 (by kernel_rfl) (fun x y h => (show V.evBody Z31.E Z31.con Tryz.f315 x = _ from Z31.eq (V.p4_0 x) (V.p4_1 x)).trans (V.cfl (by kernel_rfl) h))
noncomputable abbrev Z3.con : V.Con := ⟨V.A5, (.cons (.int .i64) .nil), fun (x : V.D5) => Z3 (V.p5_0 x) (V.p5_1 x), [], [(true, 16), (true, 17)], [(false, 1)], [false], []⟩
noncomputable abbrev Z3.E : V.Env := V.mkE V.tys [(125, Z83.con), (216, Z109.con), (312, Z2.con), (313, Z112.con), (314, Z30.con), (315, Z31.con), (316, Z140.con)] [(9, [2, 3, 5], []), (13, [2, 3, 5], []), (31, [3, 5, 6, 7], [])] [(4, 25), (15, 8)] [] [] []
noncomputable abbrev Z3.kt (x0 : THead) (x1 : TSigned) : V.Kt Int := V.ktOf Z3.E Z3.con Tryz.f176 (V.fl5 x0 x1)
noncomputable abbrev Z3.s31 (x1 : TSigned) (v31_0 : Int) (v31_34 : List Int) (v31_35 : Int) : V.St := ⟨[(3, .v false [.ptr 64064 0]), (5, .v false [.ptr 128128 0]), (6, .v false [.val (.int .i64 v31_0)]), (7, .v false [.ptr 512128 0])], [(64064, .box (V.lsSigned x1)), (128128, .box [.val (.int .i64 x1.1), .val (.int .i64 x1.2.1), .val (.int .i64 x1.2.2.1), .val (.int .i64 x1.2.2.2.1), .val (.int .i64 x1.2.2.2.2.1), .val (.int .i64 x1.2.2.2.2.2.1), .val (.int .i64 x1.2.2.2.2.2.2.1), .val (.int .i64 x1.2.2.2.2.2.2.2.1), .val (.sl (.cons (.int .i64) .nil) x1.2.2.2.2.2.2.2.2.1), .val (.int .i64 x1.2.2.2.2.2.2.2.2.2.1), .val (.sl (.cons (.int .i64) .nil) x1.2.2.2.2.2.2.2.2.2.2.1), .val (.int .i64 x1.2.2.2.2.2.2.2.2.2.2.2.1), .val (.int .i64 x1.2.2.2.2.2.2.2.2.2.2.2.2.1), .val (.sl (.cons (.int .i64) .nil) x1.2.2.2.2.2.2.2.2.2.2.2.2.2.1), .val (.int .i64 x1.2.2.2.2.2.2.2.2.2.2.2.2.2.2.1), .val (.bool x1.2.2.2.2.2.2.2.2.2.2.2.2.2.2.2.1)]), (512128, .box [.val (.sl (.cons (.int .i64) .nil) v31_34), .val (.int .i64 v31_35)])]⟩
noncomputable abbrev Z3.s13 (x0 : THead) (x1 : TSigned) : V.St := ⟨[(2, .v false [.ptr 64000 0]), (3, .v false [.ptr 64064 0]), (5, .v false [.ptr 128128 0])], [(64000, .box (V.lsHead x0)), (64064, .box (V.lsSigned x1)), (128128, .box [.val (.int .i64 x1.1), .val (.int .i64 x1.2.1), .val (.int .i64 x1.2.2.1), .val (.int .i64 x1.2.2.2.1), .val (.int .i64 x1.2.2.2.2.1), .val (.int .i64 x1.2.2.2.2.2.1), .val (.int .i64 x1.2.2.2.2.2.2.1), .val (.int .i64 x1.2.2.2.2.2.2.2.1), .val (.sl (.cons (.int .i64) .nil) x1.2.2.2.2.2.2.2.2.1), .val (.int .i64 x1.2.2.2.2.2.2.2.2.2.1), .val (.sl (.cons (.int .i64) .nil) x1.2.2.2.2.2.2.2.2.2.2.1), .val (.int .i64 x1.2.2.2.2.2.2.2.2.2.2.2.1), .val (.int .i64 x1.2.2.2.2.2.2.2.2.2.2.2.2.1), .val (.sl (.cons (.int .i64) .nil) x1.2.2.2.2.2.2.2.2.2.2.2.2.2.1), .val (.int .i64 x1.2.2.2.2.2.2.2.2.2.2.2.2.2.2.1), .val (.bool x1.2.2.2.2.2.2.2.2.2.2.2.2.2.2.2.1)])]⟩
noncomputable abbrev Z3.s9 (x0 : THead) (x1 : TSigned) : V.St := ⟨[(2, .v false [.ptr 64000 0]), (3, .v false [.ptr 64064 0]), (5, .v false [.ptr 128128 0])], [(64000, .box (V.lsHead x0)), (64064, .box (V.lsSigned x1)), (128128, .box [.val (.int .i64 x1.1), .val (.int .i64 x1.2.1), .val (.int .i64 x1.2.2.1), .val (.int .i64 x1.2.2.2.1), .val (.int .i64 x1.2.2.2.2.1), .val (.int .i64 x1.2.2.2.2.2.1), .val (.int .i64 x1.2.2.2.2.2.2.1), .val (.int .i64 x1.2.2.2.2.2.2.2.1), .val (.sl (.cons (.int .i64) .nil) x1.2.2.2.2.2.2.2.2.1), .val (.int .i64 x1.2.2.2.2.2.2.2.2.2.1), .val (.sl (.cons (.int .i64) .nil) x1.2.2.2.2.2.2.2.2.2.2.1), .val (.int .i64 x1.2.2.2.2.2.2.2.2.2.2.2.1), .val (.int .i64 x1.2.2.2.2.2.2.2.2.2.2.2.2.1), .val (.sl (.cons (.int .i64) .nil) x1.2.2.2.2.2.2.2.2.2.2.2.2.2.1), .val (.int .i64 x1.2.2.2.2.2.2.2.2.2.2.2.2.2.2.1), .val (.bool x1.2.2.2.2.2.2.2.2.2.2.2.2.2.2.2.1)])]⟩
theorem Z3.r31 (x0 : THead) (x1 : TSigned) (v31_0 : Int) (v31_34 : List Int) (v31_35 : Int) : V.joinF Z3.E Tryz.f176.ntmps [1, 1, 1, 1, 1, 1] [] (V.codeOf Tryz.f176) (Z3.kt x0 x1) (Z3.s31 x1 v31_0 v31_34 v31_35) = Z3.g31 x1 v31_0 v31_34 v31_35 := by kernel_rfl
theorem Z3.e31 (x0 : THead) (x1 : TSigned) (v31_0 : Int) (v31_34 : List Int) (v31_35 : Int) : V.jn (V.joinF Z3.E Tryz.f176.ntmps [1, 1, 1, 1, 1, 1] [] (V.codeOf Tryz.f176) (Z3.kt x0 x1)) (Z3.s31 x1 v31_0 v31_34 v31_35) = Z3.l31 x1 v31_0 v31_34 v31_35 := by
  rw [V.jn_eq, Z3.r31]
  rfl
theorem Z3.r13 (x0 : THead) (x1 : TSigned) : V.joinF Z3.E Tryz.f176.ntmps [1, 1, 1] [] (V.codeOf Tryz.f176) (Z3.kt x0 x1) (Z3.s13 x0 x1) = Z3.g13 x0 x1 (fun v31_0 v31_34 v31_35 => V.jn (V.joinF Z3.E Tryz.f176.ntmps [1, 1, 1, 1, 1, 1] [] (V.codeOf Tryz.f176) (Z3.kt x0 x1)) (Z3.s31 x1 v31_0 v31_34 v31_35)) := by kernel_rfl
theorem Z3.e13 (x0 : THead) (x1 : TSigned) : V.jn (V.joinF Z3.E Tryz.f176.ntmps [1, 1, 1] [] (V.codeOf Tryz.f176) (Z3.kt x0 x1)) (Z3.s13 x0 x1) = Z3.l13 x0 x1 := by
  rw [V.jn_eq, Z3.r13]
  simp only [Z3.e31]
  rfl
theorem Z3.r9 (x0 : THead) (x1 : TSigned) : V.joinF Z3.E Tryz.f176.ntmps [1, 1] [] (V.codeOf Tryz.f176) (Z3.kt x0 x1) (Z3.s9 x0 x1) = Z3.g9 x0 x1 (V.jn (V.joinF Z3.E Tryz.f176.ntmps [1, 1, 1] [] (V.codeOf Tryz.f176) (Z3.kt x0 x1)) (Z3.s13 x0 x1)) := by kernel_rfl
theorem Z3.e9 (x0 : THead) (x1 : TSigned) : V.jn (V.joinF Z3.E Tryz.f176.ntmps [1, 1] [] (V.codeOf Tryz.f176) (Z3.kt x0 x1)) (Z3.s9 x0 x1) = Z3.l9 x0 x1 := by
  rw [V.jn_eq, Z3.r9]
  simp only [Z3.e13]
  rfl
noncomputable abbrev Z3.s (x0 : THead) (x1 : TSigned) : V.St := ⟨[(0, .v true (V.lsHead x0)), (1, .v true (V.lsSigned x1))], []⟩
theorem Z3.v0 (x0 : THead) (x1 : TSigned) : V.evBody Z3.E Z3.con Tryz.f176 (V.fl5 x0 x1) = V.evC Z3.E Tryz.f176.ntmps (V.codeOf Tryz.f176) (Z3.kt x0 x1) (Z3.s x0 x1) := by kernel_rfl
theorem Z3.v (x0 : THead) (x1 : TSigned) : V.evC Z3.E Tryz.f176.ntmps (V.codeOf Tryz.f176) (Z3.kt x0 x1) (Z3.s x0 x1) = Z3.b x0 x1 (V.jn (V.joinF Z3.E Tryz.f176.ntmps [1, 1] [] (V.codeOf Tryz.f176) (Z3.kt x0 x1)) (Z3.s9 x0 x1)) := by kernel_rfl
theorem Z3.eq (x0 : THead) (x1 : TSigned) : V.evBody Z3.E Z3.con Tryz.f176 (V.fl5 x0 x1) = Z3 x0 x1 := by
  rw [Z3.v0, Z3.v]
  simp only [Z3.e9]
  rfl
theorem Z3.ok : V.Valid Tryz.prog 176 Z3.con :=
  V.fo (V.tab_cons Z83.ok (V.tab_cons Z109.ok (V.tab_cons Z2.ok (V.tab_cons Z112.ok (V.tab_cons Z30.ok (V.tab_cons Z31.ok (V.tab_cons Z140.ok V.tab_nil))))))) Tryz.func176 (by kernel_rfl) (fun x y h => (show V.evBody Z3.E Z3.con Tryz.f176 x = _ from Z3.eq (V.p5_0 x) (V.p5_1 x)).trans (V.cfl (by kernel_rfl) h))
noncomputable abbrev Z111.con : V.Con := ⟨V.A5, (.cons .bool .nil), fun (x : V.D5) => Z111 (V.p5_0 x) (V.p5_1 x), [], [(true, 16), (true, 17)], [(false, 1)], [false], []⟩
noncomputable abbrev Z111.E : V.Env := V.mkE V.tys [(176, Z3.con)] [] [] [] [] []
noncomputable abbrev Z111.kt (x0 : THead) (x1 : TSigned) : V.Kt Bool := V.ktOf Z111.E Z111.con Tryz.f182 (V.fl5 x0 x1)
noncomputable abbrev Z111.s (x0 : THead) (x1 : TSigned) : V.St := ⟨[(0, .v true (V.lsHead x0)), (1, .v true (V.lsSigned x1))], []⟩
theorem Z111.v0 (x0 : THead) (x1 : TSigned) : V.evBody Z111.E Z111.con Tryz.f182 (V.fl5 x0 x1) = V.evC Z111.E Tryz.f182.ntmps (V.codeOf Tryz.f182) (Z111.kt x0 x1) (Z111.s x0 x1) := by kernel_rfl
theorem Z111.v (x0 : THead) (x1 : TSigned) : V.evC Z111.E Tryz.f182.ntmps (V.codeOf Tryz.f182) (Z111.kt x0 x1) (Z111.s x0 x1) = Z111 x0 x1 := by kernel_rfl
theorem Z111.eq (x0 : THead) (x1 : TSigned) : V.evBody Z111.E Z111.con Tryz.f182 (V.fl5 x0 x1) = Z111 x0 x1 := (Z111.v0 x0 x1).trans (Z111.v x0 x1)
theorem Z111.ok : V.Valid Tryz.prog 182 Z111.con :=
  V.fo (V.tab_cons Z3.ok V.tab_nil) Tryz.func182 (by kernel_rfl) (fun x y h => (show V.evBody Z111.E Z111.con Tryz.f182 x = _ from Z111.eq (V.p5_0 x) (V.p5_1 x)).trans (V.cfl (by kernel_rfl) h))
noncomputable abbrev Z33.con : V.Con := ⟨(.cons (.sl V.eSigned) .nil), (.cons (.int .i64) .nil), fun (x : List TSigned) => Z33 x, [], [(false, 1)], [(false, 1)], [false], []⟩
noncomputable abbrev Z33.E : V.Env := V.mkE V.tys [(181, Z110.con), (182, Z111.con)] [(4, [0, 3], [])] [(4, 23)] [] [] []
noncomputable abbrev Z33.kt (x0 : List TSigned) : V.Kt Int := V.ktOf Z33.E Z33.con Tryz.f40 ((x0) : List TSigned)
noncomputable abbrev Z33.s4 (x0 : List TSigned) (v4_1 : Int) : V.St := ⟨[(0, .v false [.val (.sl V.eSigned x0)]), (3, .v false [.val (.int .i64 v4_1)])], []⟩
theorem Z33.r4 (x0 : List TSigned) (R : V.St → Option Int) (v4_1 : Int) : V.loopF Z33.E Tryz.f40.ntmps [1, 0, 1, 0] [] (V.codeOf Tryz.f40) (Z33.kt x0) R (Z33.s4 x0 v4_1) = Z33.g4 x0 (fun v4_1 => R (Z33.s4 x0 v4_1)) v4_1 := by kernel_rfl
theorem Z33.e4 (x0 : List TSigned) : ∀ (n : Nat) (v4_1 : Int), V.loopN (V.loopF Z33.E Tryz.f40.ntmps [1, 0, 1, 0] [] (V.codeOf Tryz.f40) (Z33.kt x0)) n (Z33.s4 x0 v4_1) = Z33.l4 x0 n v4_1 := by
  intro n
  induction n with
  | zero => intros; rw [V.loopN_z]; rfl
  | succ n ih =>
    intro v4_1
    rw [V.loopN_s, Z33.r4]
    simp only [ih]
    first | exact (Z33.u4 ..).symm | rfl
theorem Z33.v (x0 : List TSigned) : V.evBody Z33.E Z33.con Tryz.f40 ((x0) : List TSigned) = Z33.b x0 (fun v4_1 => V.loopN (V.loopF Z33.E Tryz.f40.ntmps [1, 0, 1, 0] [] (V.codeOf Tryz.f40) (Z33.kt x0)) V.KK (Z33.s4 x0 v4_1)) := by kernel_rfl
theorem Z33.eq (x0 : List TSigned) : V.evBody Z33.E Z33.con Tryz.f40 ((x0) : List TSigned) = Z33 x0 := by
  rw [Z33.v]
  simp only [Z33.e4]
  rfl
theorem Z33.ok : V.Valid Tryz.prog 40 Z33.con :=
  V.fo (V.tab_cons Z110.ok (V.tab_cons Z111.ok V.tab_nil)) Tryz.func40 (by kernel_rfl) (fun x y h => (show V.evBody Z33.E Z33.con Tryz.f40 x = _ from Z33.eq x).trans (V.cfl (by kernel_rfl) h))
noncomputable abbrev Z186.con : V.Con := ⟨(.cons (.sl V.eSigned) .nil), (.cons .bool .nil), fun (x : List TSigned) => Z186 x, [], [(false, 1)], [(false, 1)], [false], []⟩
noncomputable abbrev Z186.E : V.Env := V.mkE V.tys [(40, Z33.con), (179, Z71.con)] [] [] [] [] []
theorem Z186.eq (x0 : List TSigned) : V.evBody Z186.E Z186.con Tryz.f38 ((x0) : List TSigned) = Z186 x0 := by kernel_rfl
theorem Z186.ok : V.Valid Tryz.prog 38 Z186.con :=
  V.fo (V.tab_cons Z33.ok (V.tab_cons Z71.ok V.tab_nil)) Tryz.func38 (by kernel_rfl) (fun x y h => (show V.evBody Z186.E Z186.con Tryz.f38 x = _ from Z186.eq x).trans (V.cfl (by kernel_rfl) h))
noncomputable abbrev Z150.con : V.Con := ⟨(.cons (.sl (.cons (.int .i64) .nil)) (.cons (.int .i64) .nil)), (.cons (.sl (.cons (.int .i64) .nil)) (.cons (.int .i64) .nil)), fun (x : List Int × Int) => Z150 x, [], [(true, 2)], [(true, 2)], [true, false], []⟩
noncomputable abbrev Z150.E : V.Env := V.mkE V.tys [] [] [(1, 6)] [] [] []
theorem Z150.eq (x0 : TKeys) : V.evBody Z150.E Z150.con Tryz.f236 ((x0.1, x0.2) : List Int × Int) = Z150 x0 := by kernel_rfl
theorem Z150.ok : V.Valid Tryz.prog 236 Z150.con :=
  V.fo V.tab_nil Tryz.func236 (by kernel_rfl) (fun x y h => (show V.evBody Z150.E Z150.con Tryz.f236 x = _ from Z150.eq x).trans (V.cfl (by kernel_rfl) h))
noncomputable abbrev Z85.con : V.Con := ⟨V.A2, V.eHead, fun (x : V.D2) => Z85 (V.p2_0 x), [], [(true, 16)], [(true, 16)], [false, false, false, false, false, false, false, false, true, false, true, false, false, true, false, false], []⟩
noncomputable abbrev Z85.E : V.Env := V.mkE V.tys [(236, Z150.con)] [] [] [] [] []
noncomputable abbrev Z85.kt (x0 : THead) : V.Kt THead := V.ktOf Z85.E Z85.con Tryz.f186 (V.fl2 x0)
noncomputable abbrev Z85.s (x0 : THead) : V.St := ⟨[(0, .v true (V.lsHead x0))], []⟩
theorem Z85.v0 (x0 : THead) : V.evBody Z85.E Z85.con Tryz.f186 (V.fl2 x0) = V.evC Z85.E Tryz.f186.ntmps (V.codeOf Tryz.f186) (Z85.kt x0) (Z85.s x0) := by kernel_rfl
theorem Z85.v (x0 : THead) : V.evC Z85.E Tryz.f186.ntmps (V.codeOf Tryz.f186) (Z85.kt x0) (Z85.s x0) = Z85 x0 := by kernel_rfl
theorem Z85.eq (x0 : THead) : V.evBody Z85.E Z85.con Tryz.f186 (V.fl2 x0) = Z85 x0 := (Z85.v0 x0).trans (Z85.v x0)
theorem Z85.ok : V.Valid Tryz.prog 186 Z85.con :=
  V.fo (V.tab_cons Z150.ok V.tab_nil) Tryz.func186 (by kernel_rfl) (fun x y h => (show V.evBody Z85.E Z85.con Tryz.f186 x = _ from Z85.eq (V.p2_0 x)).trans (V.cfl (by kernel_rfl) h))
noncomputable abbrev Z142.con : V.Con := ⟨(.cons (.sl V.eSigned) .nil), V.eRHeadBool, fun (x : List TSigned) => Z142 x, [], [(false, 1)], [(true, 16), (false, 1)], [false, false, false, false, false, false, false, false, true, false, true, false, false, true, false, false, false], []⟩
noncomputable abbrev Z142.E : V.Env := V.mkE V.tys [(38, Z186.con), (186, Z85.con)] [] [] [] [] []
theorem Z142.eq (x0 : List TSigned) : V.evBody Z142.E Z142.con Tryz.f137 ((x0) : List TSigned) = Z142 x0 := by kernel_rfl
theorem Z142.ok : V.Valid Tryz.prog 137 Z142.con :=
  V.fo (V.tab_cons Z186.ok (V.tab_cons Z85.ok V.tab_nil)) Tryz.func137 (by kernel_rfl) (fun x y h => (show V.evBody Z142.E Z142.con Tryz.f137 x = _ from Z142.eq x).trans (V.cfl (by kernel_rfl) h))
noncomputable abbrev Z5.con : V.Con := ⟨(.cons .str .nil), (.cons .bool .nil), fun (x : ByteArray) => Z5 x, [], [(false, 1)], [(false, 1)], [false], []⟩
noncomputable abbrev Z5.E : V.Env := V.mkE V.tys [(179, Z71.con)] [(7, [0], []), (8, [0, 3], [])] [] [] [] []
noncomputable abbrev Z5.kt (x0 : ByteArray) : V.Kt Bool := V.ktOf Z5.E Z5.con Tryz.f136 ((x0) : ByteArray)
noncomputable abbrev Z5.s8 (x0 : ByteArray) (v8_1 : Int) : V.St := ⟨[(0, .v false [.val (.str x0)]), (3, .v false [.val (.int .i64 v8_1)])], []⟩
noncomputable abbrev Z5.s7 (x0 : ByteArray) : V.St := ⟨[(0, .v false [.val (.str x0)])], []⟩
theorem Z5.r8 (x0 : ByteArray) (R : V.St → Option Bool) (v8_1 : Int) : V.loopF Z5.E Tryz.f136.ntmps [1, 1, 0, 1, 0] [] (V.codeOf Tryz.f136) (Z5.kt x0) R (Z5.s8 x0 v8_1) = Z5.g8 x0 (fun v8_1 => R (Z5.s8 x0 v8_1)) v8_1 := by kernel_rfl
theorem Z5.e8 (x0 : ByteArray) : ∀ (n : Nat) (v8_1 : Int), V.loopN (V.loopF Z5.E Tryz.f136.ntmps [1, 1, 0, 1, 0] [] (V.codeOf Tryz.f136) (Z5.kt x0)) n (Z5.s8 x0 v8_1) = Z5.l8 x0 n v8_1 := by
  intro n
  induction n with
  | zero => intros; rw [V.loopN_z]; rfl
  | succ n ih =>
    intro v8_1
    rw [V.loopN_s, Z5.r8]
    simp only [ih]
    first | exact (Z5.u8 ..).symm | rfl
theorem Z5.r7 (x0 : ByteArray) : V.joinF Z5.E Tryz.f136.ntmps [1] [] (V.codeOf Tryz.f136) (Z5.kt x0) (Z5.s7 x0) = Z5.g7 x0 (fun v8_1 => V.loopN (V.loopF Z5.E Tryz.f136.ntmps [1, 1, 0, 1, 0] [] (V.codeOf Tryz.f136) (Z5.kt x0)) V.KK (Z5.s8 x0 v8_1)) := by kernel_rfl
theorem Z5.e7 (x0 : ByteArray) : V.jn (V.joinF Z5.E Tryz.f136.ntmps [1] [] (V.codeOf Tryz.f136) (Z5.kt x0)) (Z5.s7 x0) = Z5.l7 x0 := by
  rw [V.jn_eq, Z5.r7]
  simp only [Z5.e8]
  rfl
theorem Z5.v (x0 : ByteArray) : V.evBody Z5.E Z5.con Tryz.f136 ((x0) : ByteArray) = Z5.b x0 (V.jn (V.joinF Z5.E Tryz.f136.ntmps [1] [] (V.codeOf Tryz.f136) (Z5.kt x0)) (Z5.s7 x0)) := by kernel_rfl
theorem Z5.eq (x0 : ByteArray) : V.evBody Z5.E Z5.con Tryz.f136 ((x0) : ByteArray) = Z5 x0 := by
  rw [Z5.v]
  simp only [Z5.e7]
  rfl
theorem Z5.ok : V.Valid Tryz.prog 136 Z5.con :=
  V.fo (V.tab_cons Z71.ok V.tab_nil) Tryz.func136 (by kernel_rfl) (fun x y h => (show V.evBody Z5.E Z5.con Tryz.f136 x = _ from Z5.eq x).trans (V.cfl (by kernel_rfl) h))
noncomputable abbrev Z43.con : V.Con := ⟨(.cons (.sl (.cons .str .nil)) .nil), (.cons .bool .nil), fun (x : List ByteArray) => Z43 x, [], [(false, 1)], [(false, 1)], [false], []⟩
noncomputable abbrev Z43.E : V.Env := V.mkE V.tys [(136, Z5.con), (179, Z71.con)] [(4, [0, 3], [])] [] [] [] []
noncomputable abbrev Z43.kt (x0 : List ByteArray) : V.Kt Bool := V.ktOf Z43.E Z43.con Tryz.f410 ((x0) : List ByteArray)
noncomputable abbrev Z43.s4 (x0 : List ByteArray) (v4_1 : Int) : V.St := ⟨[(0, .v false [.val (.sl (.cons .str .nil) x0)]), (3, .v false [.val (.int .i64 v4_1)])], []⟩
theorem Z43.r4 (x0 : List ByteArray) (R : V.St → Option Bool) (v4_1 : Int) : V.loopF Z43.E Tryz.f410.ntmps [1, 0, 1, 0] [] (V.codeOf Tryz.f410) (Z43.kt x0) R (Z43.s4 x0 v4_1) = Z43.g4 x0 (fun v4_1 => R (Z43.s4 x0 v4_1)) v4_1 := by kernel_rfl
theorem Z43.e4 (x0 : List ByteArray) : ∀ (n : Nat) (v4_1 : Int), V.loopN (V.loopF Z43.E Tryz.f410.ntmps [1, 0, 1, 0] [] (V.codeOf Tryz.f410) (Z43.kt x0)) n (Z43.s4 x0 v4_1) = Z43.l4 x0 n v4_1 := by
  intro n
  induction n with
  | zero => intros; rw [V.loopN_z]; rfl
  | succ n ih =>
    intro v4_1
    rw [V.loopN_s, Z43.r4]
    simp only [ih]
    first | exact (Z43.u4 ..).symm | rfl
theorem Z43.v (x0 : List ByteArray) : V.evBody Z43.E Z43.con Tryz.f410 ((x0) : List ByteArray) = Z43.b x0 (fun v4_1 => V.loopN (V.loopF Z43.E Tryz.f410.ntmps [1, 0, 1, 0] [] (V.codeOf Tryz.f410) (Z43.kt x0)) V.KK (Z43.s4 x0 v4_1)) := by kernel_rfl
theorem Z43.eq (x0 : List ByteArray) : V.evBody Z43.E Z43.con Tryz.f410 ((x0) : List ByteArray) = Z43 x0 := by
  rw [Z43.v]
  simp only [Z43.e4]
  rfl
theorem Z43.ok : V.Valid Tryz.prog 410 Z43.con :=
  V.fo (V.tab_cons Z5.ok (V.tab_cons Z71.ok V.tab_nil)) Tryz.func410 (by kernel_rfl) (fun x y h => (show V.evBody Z43.E Z43.con Tryz.f410 x = _ from Z43.eq x).trans (V.cfl (by kernel_rfl) h))
noncomputable abbrev Z187.con : V.Con := ⟨V.eEntry, (.cons .bool .nil), fun (x : ByteArray × Int × Int × List ByteArray) => Z187 x, [], [(true, 4)], [(false, 1)], [false], []⟩
noncomputable abbrev Z187.E : V.Env := V.mkE V.tys [(136, Z5.con), (179, Z71.con), (410, Z43.con)] [] [] [] [] []
theorem Z187.eq (x0 : TEntry) : V.evBody Z187.E Z187.con Tryz.f348 ((x0.1, x0.2.1, x0.2.2.1, x0.2.2.2) : ByteArray × Int × Int × List ByteArray) = Z187 x0 := by kernel_rfl
theorem Z187.ok : V.Valid Tryz.prog 348 Z187.con :=
  V.fo (V.tab_cons Z5.ok (V.tab_cons Z71.ok (V.tab_cons Z43.ok V.tab_nil))) Tryz.func348 (by kernel_rfl) (fun x y h => (show V.evBody Z187.E Z187.con Tryz.f348 x = _ from Z187.eq x).trans (V.cfl (by kernel_rfl) h))
noncomputable abbrev Z134.con : V.Con := ⟨(.cons .str (.cons .str .nil)), (.cons (.int .i64) .nil), fun (x : ByteArray × ByteArray) => Z134 x.1 x.2, [], [(false, 1), (false, 1)], [(false, 1)], [false], []⟩
noncomputable abbrev Z134.E : V.Env := V.mkE V.tys [] [] [] [] [] []
theorem Z134.eq (x0 : ByteArray) (x1 : ByteArray) : V.evBody Z134.E Z134.con Tryz.f349 ((x0, x1) : ByteArray × ByteArray) = Z134 x0 x1 := by kernel_rfl
theorem Z134.ok : V.Valid Tryz.prog 349 Z134.con :=
  V.fo V.tab_nil Tryz.func349 (by kernel_rfl) (fun x y h => (show V.evBody Z134.E Z134.con Tryz.f349 x = _ from Z134.eq x.1 x.2).trans (V.cfl (by kernel_rfl) h))
noncomputable abbrev Z25.con : V.Con := ⟨(.cons (.sl V.eEntry) .nil), (.cons .bool .nil), fun (x : List TEntry) => Z25 x, [], [(false, 1)], [(false, 1)], [false], []⟩
noncomputable abbrev Z25.E : V.Env := V.mkE V.tys [(348, Z187.con), (349, Z134.con)] [(4, [0, 3], [])] [(4, 21)] [] [] []
noncomputable abbrev Z25.kt (x0 : List TEntry) : V.Kt Bool := V.ktOf Z25.E Z25.con Tryz.f233 ((x0) : List TEntry)
noncomputable abbrev Z25.s4 (x0 : List TEntry) (v4_1 : Int) : V.St := ⟨[(0, .v false [.val (.sl V.eEntry x0)]), (3, .v false [.val (.int .i64 v4_1)])], []⟩
theorem Z25.r4 (x0 : List TEntry) (R : V.St → Option Bool) (v4_1 : Int) : V.loopF Z25.E Tryz.f233.ntmps [1, 0, 1, 0] [] (V.codeOf Tryz.f233) (Z25.kt x0) R (Z25.s4 x0 v4_1) = Z25.g4 x0 (fun v4_1 => R (Z25.s4 x0 v4_1)) v4_1 := by kernel_rfl
theorem Z25.e4 (x0 : List TEntry) : ∀ (n : Nat) (v4_1 : Int), V.loopN (V.loopF Z25.E Tryz.f233.ntmps [1, 0, 1, 0] [] (V.codeOf Tryz.f233) (Z25.kt x0)) n (Z25.s4 x0 v4_1) = Z25.l4 x0 n v4_1 := by
  intro n
  induction n with
  | zero => intros; rw [V.loopN_z]; rfl
  | succ n ih =>
    intro v4_1
    rw [V.loopN_s, Z25.r4]
    simp only [ih]
    first | exact (Z25.u4 ..).symm | rfl
theorem Z25.v (x0 : List TEntry) : V.evBody Z25.E Z25.con Tryz.f233 ((x0) : List TEntry) = Z25.b x0 (fun v4_1 => V.loopN (V.loopF Z25.E Tryz.f233.ntmps [1, 0, 1, 0] [] (V.codeOf Tryz.f233) (Z25.kt x0)) V.KK (Z25.s4 x0 v4_1)) := by kernel_rfl
theorem Z25.eq (x0 : List TEntry) : V.evBody Z25.E Z25.con Tryz.f233 ((x0) : List TEntry) = Z25 x0 := by
  rw [Z25.v]
  simp only [Z25.e4]
  rfl
theorem Z25.ok : V.Valid Tryz.prog 233 Z25.con :=
  V.fo (V.tab_cons Z187.ok (V.tab_cons Z134.ok V.tab_nil)) Tryz.func233 (by kernel_rfl) (fun x y h => (show V.evBody Z25.E Z25.con Tryz.f233 x = _ from Z25.eq x).trans (V.cfl (by kernel_rfl) h))
noncomputable abbrev Z67.con : V.Con := ⟨(.cons (.sl (.cons (.int .u8) .nil)) .nil), (.cons (.sl (.cons (.int .i64) .nil)) .nil), fun (x : List Int) => Z67 x, [], [(false, 1)], [(false, 1)], [true], []⟩
noncomputable abbrev Z67.E : V.Env := V.mkE V.tys [] [(6, [0, 3, 4], [])] [] [] [] []
noncomputable abbrev Z67.kt (x0 : List Int) : V.Kt (List Int) := V.ktOf Z67.E Z67.con Tryz.f459 ((x0) : List Int)
noncomputable abbrev Z67.s6 (x0 : List Int) (v6_1 : Int) (v6_2 : List Int) : V.St := ⟨[(0, .v false [.val (.sl (.cons (.int .u8) .nil) x0)]), (3, .v false [.ref 64000038400192]), (4, .v false [.val (.int .i64 v6_1)])], [(64000038400192, .row (.cons (.int .i64) .nil) true v6_2)]⟩
theorem Z67.r6 (x0 : List Int) (R : V.St → Option (List Int)) (v6_1 : Int) (v6_2 : List Int) : V.loopF Z67.E Tryz.f459.ntmps [1, 1, 0, 1, 0] [] (V.codeOf Tryz.f459) (Z67.kt x0) R (Z67.s6 x0 v6_1 v6_2) = Z67.g6 x0 (fun v6_1 v6_2 => R (Z67.s6 x0 v6_1 v6_2)) v6_1 v6_2 := by kernel_rfl
theorem Z67.e6 (x0 : List Int) : ∀ (n : Nat) (v6_1 : Int) (v6_2 : List Int), V.loopN (V.loopF Z67.E Tryz.f459.ntmps [1, 1, 0, 1, 0] [] (V.codeOf Tryz.f459) (Z67.kt x0)) n (Z67.s6 x0 v6_1 v6_2) = Z67.l6 x0 n v6_1 v6_2 := by
  intro n
  induction n with
  | zero => intros; rw [V.loopN_z]; rfl
  | succ n ih =>
    intro v6_1 v6_2
    rw [V.loopN_s, Z67.r6]
    simp only [ih]
    first | exact (Z67.u6 ..).symm | rfl
theorem Z67.v (x0 : List Int) : V.evBody Z67.E Z67.con Tryz.f459 ((x0) : List Int) = Z67.b x0 (fun v6_1 v6_2 => V.loopN (V.loopF Z67.E Tryz.f459.ntmps [1, 1, 0, 1, 0] [] (V.codeOf Tryz.f459) (Z67.kt x0)) V.KK (Z67.s6 x0 v6_1 v6_2)) := by kernel_rfl
theorem Z67.eq (x0 : List Int) : V.evBody Z67.E Z67.con Tryz.f459 ((x0) : List Int) = Z67 x0 := by
  rw [Z67.v]
  simp only [Z67.e6]
  rfl
theorem Z67.ok : V.Valid Tryz.prog 459 Z67.con :=
  V.fo V.tab_nil Tryz.func459 (by kernel_rfl) (fun x y h => (show V.evBody Z67.E Z67.con Tryz.f459 x = _ from Z67.eq x).trans (V.cfl (by kernel_rfl) h))
noncomputable abbrev Z149.con : V.Con := ⟨(.cons .str .nil), (.cons (.sl (.cons (.int .i64) .nil)) .nil), fun (x : ByteArray) => Z149 x, [], [(false, 1)], [(false, 1)], [true], []⟩
noncomputable abbrev Z149.E : V.Env := V.mkE V.tys [(459, Z67.con)] [] [] [] [] []
theorem Z149.eq (x0 : ByteArray) : V.evBody Z149.E Z149.con Tryz.f456 ((x0) : ByteArray) = Z149 x0 := by kernel_rfl
theorem Z149.ok : V.Valid Tryz.prog 456 Z149.con :=
  V.fo (V.tab_cons Z67.ok V.tab_nil) Tryz.func456 (by kernel_rfl) (fun x y h => (show V.evBody Z149.E Z149.con Tryz.f456 x = _ from Z149.eq x).trans (V.cfl (by kernel_rfl) h))
noncomputable abbrev Z68.con : V.Con := ⟨V.eEntry, (.cons (.sl (.cons (.int .i64) .nil)) .nil), fun (x : ByteArray × Int × Int × List ByteArray) => Z68 x, [], [(true, 4)], [(false, 1)], [true], []⟩
noncomputable abbrev Z68.E : V.Env := V.mkE V.tys [(456, Z149.con)] [(6, [1, 3, 4], [])] [(1, 11)] [] [] []
noncomputable abbrev Z68.kt (x0 : TEntry) : V.Kt (List Int) := V.ktOf Z68.E Z68.con Tryz.f444 ((x0.1, x0.2.1, x0.2.2.1, x0.2.2.2) : ByteArray × Int × Int × List ByteArray)
noncomputable abbrev Z68.s6 (x0 : TEntry) (v6_0 : Int) (v6_5 : List Int) : V.St := ⟨[(1, .v false [.ptr 64000 0]), (3, .v false [.ref 64000038400192]), (4, .v false [.val (.int .i64 v6_0)])], [(64000, .box [.val (.str x0.1), .val (.int .i64 x0.2.1), .val (.int .i64 x0.2.2.1), .val (.sl (.cons .str .nil) x0.2.2.2)]), (64000038400192, .row (.cons (.int .i64) .nil) true v6_5)]⟩
theorem Z68.r6 (x0 : TEntry) (R : V.St → Option (List Int)) (v6_0 : Int) (v6_5 : List Int) : V.loopF Z68.E Tryz.f444.ntmps [1, 1, 0, 1, 0] [] (V.codeOf Tryz.f444) (Z68.kt x0) R (Z68.s6 x0 v6_0 v6_5) = Z68.g6 x0 (fun v6_0 v6_5 => R (Z68.s6 x0 v6_0 v6_5)) v6_0 v6_5 := by kernel_rfl
theorem Z68.e6 (x0 : TEntry) : ∀ (n : Nat) (v6_0 : Int) (v6_5 : List Int), V.loopN (V.loopF Z68.E Tryz.f444.ntmps [1, 1, 0, 1, 0] [] (V.codeOf Tryz.f444) (Z68.kt x0)) n (Z68.s6 x0 v6_0 v6_5) = Z68.l6 x0 n v6_0 v6_5 := by
  intro n
  induction n with
  | zero => intros; rw [V.loopN_z]; rfl
  | succ n ih =>
    intro v6_0 v6_5
    rw [V.loopN_s, Z68.r6]
    simp only [ih]
    first | exact (Z68.u6 ..).symm | rfl
theorem Z68.v (x0 : TEntry) : V.evBody Z68.E Z68.con Tryz.f444 ((x0.1, x0.2.1, x0.2.2.1, x0.2.2.2) : ByteArray × Int × Int × List ByteArray) = Z68.b x0 (fun v6_0 v6_5 => V.loopN (V.loopF Z68.E Tryz.f444.ntmps [1, 1, 0, 1, 0] [] (V.codeOf Tryz.f444) (Z68.kt x0)) V.KK (Z68.s6 x0 v6_0 v6_5)) := by kernel_rfl
theorem Z68.eq (x0 : TEntry) : V.evBody Z68.E Z68.con Tryz.f444 ((x0.1, x0.2.1, x0.2.2.1, x0.2.2.2) : ByteArray × Int × Int × List ByteArray) = Z68 x0 := by
  rw [Z68.v]
  simp only [Z68.e6]
  rfl
theorem Z68.ok : V.Valid Tryz.prog 444 Z68.con :=
  V.fo (V.tab_cons Z149.ok V.tab_nil) Tryz.func444 (by kernel_rfl) (fun x y h => (show V.evBody Z68.E Z68.con Tryz.f444 x = _ from Z68.eq x).trans (V.cfl (by kernel_rfl) h))
noncomputable abbrev Z159.con : V.Con := ⟨V.eEntry, (.cons (.int .i64) .nil), fun (x : ByteArray × Int × Int × List ByteArray) => Z159 x, [], [(true, 4)], [(false, 1)], [false], []⟩
noncomputable abbrev Z159.E : V.Env := V.mkE V.tys [(337, Z9.con), (444, Z68.con)] [] [] [] [] []
theorem Z159.eq (x0 : TEntry) : V.evBody Z159.E Z159.con Tryz.f412 ((x0.1, x0.2.1, x0.2.2.1, x0.2.2.2) : ByteArray × Int × Int × List ByteArray) = Z159 x0 := by kernel_rfl
theorem Z159.ok : V.Valid Tryz.prog 412 Z159.con :=
  V.fo (V.tab_cons Z9.ok (V.tab_cons Z68.ok V.tab_nil)) Tryz.func412 (by kernel_rfl) (fun x y h => (show V.evBody Z159.E Z159.con Tryz.f412 x = _ from Z159.eq x).trans (V.cfl (by kernel_rfl) h))
noncomputable abbrev Z44.con : V.Con := ⟨(.cons (.sl V.eEntry) .nil), (.cons (.sl (.cons (.int .i64) .nil)) .nil), fun (x : List TEntry) => Z44 x, [], [(false, 1)], [(false, 1)], [true], []⟩
noncomputable abbrev Z44.E : V.Env := V.mkE V.tys [(412, Z159.con)] [(6, [0, 3, 4], [(64000038400192, (.cons (.int .i64) .nil), true)])] [] [] [] []
noncomputable abbrev Z44.kt (x0 : List TEntry) : V.Kt (List Int) := V.ktOf Z44.E Z44.con Tryz.f352 ((x0) : List TEntry)
noncomputable abbrev Z44.s6 (x0 : List TEntry) (v6_1 : Int) (v6_2 : List Int) : V.St := ⟨[(0, .v false [.val (.sl V.eEntry x0)]), (3, .v false [.ref 64000038400192]), (4, .v false [.val (.int .i64 v6_1)])], [(64000038400192, .row (.cons (.int .i64) .nil) true v6_2)]⟩
theorem Z44.r6 (x0 : List TEntry) (R : V.St → Option (List Int)) (v6_1 : Int) (v6_2 : List Int) : V.loopF Z44.E Tryz.f352.ntmps [1, 1, 0, 1, 0] [] (V.codeOf Tryz.f352) (Z44.kt x0) R (Z44.s6 x0 v6_1 v6_2) = Z44.g6 x0 (fun v6_1 v6_2 => R (Z44.s6 x0 v6_1 v6_2)) v6_1 v6_2 := by kernel_rfl
theorem Z44.e6 (x0 : List TEntry) : ∀ (n : Nat) (v6_1 : Int) (v6_2 : List Int), V.loopN (V.loopF Z44.E Tryz.f352.ntmps [1, 1, 0, 1, 0] [] (V.codeOf Tryz.f352) (Z44.kt x0)) n (Z44.s6 x0 v6_1 v6_2) = Z44.l6 x0 n v6_1 v6_2 := by
  intro n
  induction n with
  | zero => intros; rw [V.loopN_z]; rfl
  | succ n ih =>
    intro v6_1 v6_2
    rw [V.loopN_s, Z44.r6]
    simp only [ih]
    first | exact (Z44.u6 ..).symm | rfl
theorem Z44.v (x0 : List TEntry) : V.evBody Z44.E Z44.con Tryz.f352 ((x0) : List TEntry) = Z44.b x0 (fun v6_1 v6_2 => V.loopN (V.loopF Z44.E Tryz.f352.ntmps [1, 1, 0, 1, 0] [] (V.codeOf Tryz.f352) (Z44.kt x0)) V.KK (Z44.s6 x0 v6_1 v6_2)) := by kernel_rfl
theorem Z44.eq (x0 : List TEntry) : V.evBody Z44.E Z44.con Tryz.f352 ((x0) : List TEntry) = Z44 x0 := by
  rw [Z44.v]
  simp only [Z44.e6]
  rfl
theorem Z44.ok : V.Valid Tryz.prog 352 Z44.con :=
  V.fo (V.tab_cons Z159.ok V.tab_nil) Tryz.func352 (by kernel_rfl) (fun x y h => (show V.evBody Z44.E Z44.con Tryz.f352 x = _ from Z44.eq x).trans (V.cfl (by kernel_rfl) h))
noncomputable abbrev Z191.con : V.Con := ⟨(.cons (.int .i64) (.cons (.int .i64) .nil)), (.cons (.int .i64) .nil), fun (x : Int × Int) => Z191 x.1 x.2, [], [(false, 1), (false, 1)], [(false, 1)], [false], []⟩
noncomputable abbrev Z191.E : V.Env := V.mkE V.tys [(337, Z9.con)] [] [] [] [] []
theorem Z191.eq (x0 : Int) (x1 : Int) : V.evBody Z191.E Z191.con Tryz.f443 ((x0, x1) : Int × Int) = Z191 x0 x1 := by kernel_rfl
theorem Z191.ok : V.Valid Tryz.prog 443 Z191.con :=
  V.fo (V.tab_cons Z9.ok V.tab_nil) Tryz.func443 (by kernel_rfl) (fun x y h => (show V.evBody Z191.E Z191.con Tryz.f443 x = _ from Z191.eq x.1 x.2).trans (V.cfl (by kernel_rfl) h))
noncomputable abbrev Z34.con : V.Con := ⟨(.cons (.sl (.cons (.int .i64) .nil)) .nil), (.cons (.sl (.cons (.int .i64) .nil)) .nil), fun (x : List Int) => Z34 x, [], [(false, 1)], [(false, 1)], [true], []⟩
noncomputable abbrev Z34.E : V.Env := V.mkE V.tys [(443, Z191.con)] [(6, [0, 3, 4], [(64000038400192, (.cons (.int .i64) .nil), true)])] [(6, 12)] [] [] []
noncomputable abbrev Z34.kt (x0 : List Int) : V.Kt (List Int) := V.ktOf Z34.E Z34.con Tryz.f411 ((x0) : List Int)
noncomputable abbrev Z34.s6 (x0 : List Int) (v6_1 : Int) (v6_2 : List Int) : V.St := ⟨[(0, .v false [.val (.sl (.cons (.int .i64) .nil) x0)]), (3, .v false [.ref 64000038400192]), (4, .v false [.val (.int .i64 v6_1)])], [(64000038400192, .row (.cons (.int .i64) .nil) true v6_2)]⟩
theorem Z34.r6 (x0 : List Int) (R : V.St → Option (List Int)) (v6_1 : Int) (v6_2 : List Int) : V.loopF Z34.E Tryz.f411.ntmps [1, 1, 0, 1, 0] [] (V.codeOf Tryz.f411) (Z34.kt x0) R (Z34.s6 x0 v6_1 v6_2) = Z34.g6 x0 (fun v6_1 v6_2 => R (Z34.s6 x0 v6_1 v6_2)) v6_1 v6_2 := by kernel_rfl
theorem Z34.e6 (x0 : List Int) : ∀ (n : Nat) (v6_1 : Int) (v6_2 : List Int), V.loopN (V.loopF Z34.E Tryz.f411.ntmps [1, 1, 0, 1, 0] [] (V.codeOf Tryz.f411) (Z34.kt x0)) n (Z34.s6 x0 v6_1 v6_2) = Z34.l6 x0 n v6_1 v6_2 := by
  intro n
  induction n with
  | zero => intros; rw [V.loopN_z]; rfl
  | succ n ih =>
    intro v6_1 v6_2
    rw [V.loopN_s, Z34.r6]
    simp only [ih]
    first | exact (Z34.u6 ..).symm | rfl
theorem Z34.v (x0 : List Int) : V.evBody Z34.E Z34.con Tryz.f411 ((x0) : List Int) = Z34.b x0 (fun v6_1 v6_2 => V.loopN (V.loopF Z34.E Tryz.f411.ntmps [1, 1, 0, 1, 0] [] (V.codeOf Tryz.f411) (Z34.kt x0)) V.KK (Z34.s6 x0 v6_1 v6_2)) := by kernel_rfl
theorem Z34.eq (x0 : List Int) : V.evBody Z34.E Z34.con Tryz.f411 ((x0) : List Int) = Z34 x0 := by
  rw [Z34.v]
  simp only [Z34.e6]
  rfl
theorem Z34.ok : V.Valid Tryz.prog 411 Z34.con :=
  V.fo (V.tab_cons Z191.ok V.tab_nil) Tryz.func411 (by kernel_rfl) (fun x y h => (show V.evBody Z34.E Z34.con Tryz.f411 x = _ from Z34.eq x).trans (V.cfl (by kernel_rfl) h))
noncomputable abbrev Z50.con : V.Con := ⟨(.cons (.sl (.cons (.int .i64) .nil)) .nil), (.cons (.int .i64) .nil), fun (x : List Int) => Z50 x, [], [(false, 1)], [(false, 1)], [false], []⟩
noncomputable abbrev Z50.E : V.Env := V.mkE V.tys [(337, Z9.con), (411, Z34.con)] [(8, [3], [(3, (.cons (.int .i64) .nil), false)])] [] [] [] []
noncomputable abbrev Z50.kt (x0 : List Int) : V.Kt Int := V.ktOf Z50.E Z50.con Tryz.f351 ((x0) : List Int)
noncomputable abbrev Z50.s8 (v8_0 : List Int) : V.St := ⟨[(3, .v false [.val (.sl (.cons (.int .i64) .nil) v8_0)])], []⟩
theorem Z50.r8 (x0 : List Int) (R : V.St → Option Int) (v8_0 : List Int) : V.loopF Z50.E Tryz.f351.ntmps [1, 1, 1, 0, 0] [] (V.codeOf Tryz.f351) (Z50.kt x0) R (Z50.s8 v8_0) = Z50.g8 (fun v8_0 => R (Z50.s8 v8_0)) v8_0 := by kernel_rfl
theorem Z50.e8 (x0 : List Int) : ∀ (n : Nat) (v8_0 : List Int), V.loopN (V.loopF Z50.E Tryz.f351.ntmps [1, 1, 1, 0, 0] [] (V.codeOf Tryz.f351) (Z50.kt x0)) n (Z50.s8 v8_0) = Z50.l8 n v8_0 := by
  intro n
  induction n with
  | zero => intros; rw [V.loopN_z]; rfl
  | succ n ih =>
    intro v8_0
    rw [V.loopN_s, Z50.r8]
    simp only [ih]
    first | exact (Z50.u8 ..).symm | rfl
theorem Z50.v (x0 : List Int) : V.evBody Z50.E Z50.con Tryz.f351 ((x0) : List Int) = Z50.b x0 (fun v8_0 => V.loopN (V.loopF Z50.E Tryz.f351.ntmps [1, 1, 1, 0, 0] [] (V.codeOf Tryz.f351) (Z50.kt x0)) V.KK (Z50.s8 v8_0)) := by kernel_rfl
theorem Z50.eq (x0 : List Int) : V.evBody Z50.E Z50.con Tryz.f351 ((x0) : List Int) = Z50 x0 := by
  rw [Z50.v]
  simp only [Z50.e8]
  rfl
theorem Z50.ok : V.Valid Tryz.prog 351 Z50.con :=
  V.fo (V.tab_cons Z9.ok (V.tab_cons Z34.ok V.tab_nil)) Tryz.func351 (by kernel_rfl) (fun x y h => (show V.evBody Z50.E Z50.con Tryz.f351 x = _ from Z50.eq x).trans (V.cfl (by kernel_rfl) h))
noncomputable abbrev Z203.con : V.Con := ⟨(.cons (.int .i64) (.cons (.int .i64) .nil)), (.cons (.int .i64) .nil), fun (x : Int × Int) => Z203 x.1 x.2, [], [(false, 1), (false, 1)], [(false, 1)], [false], []⟩
noncomputable abbrev Z203.E : V.Env := V.mkE V.tys [(337, Z9.con)] [] [] [] [] []
theorem Z203.eq (x0 : Int) (x1 : Int) : V.evBody Z203.E Z203.con Tryz.f350 ((x0, x1) : Int × Int) = Z203 x0 x1 := by kernel_rfl
theorem Z203.ok : V.Valid Tryz.prog 350 Z203.con :=
  V.fo (V.tab_cons Z9.ok V.tab_nil) Tryz.func350 (by kernel_rfl) (fun x y h => (show V.evBody Z203.E Z203.con Tryz.f350 x = _ from Z203.eq x.1 x.2).trans (V.cfl (by kernel_rfl) h))
noncomputable abbrev Z192.con : V.Con := ⟨(.cons (.sl V.eEntry) .nil), (.cons (.int .i64) .nil), fun (x : List TEntry) => Z192 x, [], [(false, 1)], [(false, 1)], [false], []⟩
noncomputable abbrev Z192.E : V.Env := V.mkE V.tys [(350, Z203.con), (351, Z50.con), (352, Z44.con)] [] [] [] [] []
theorem Z192.eq (x0 : List TEntry) : V.evBody Z192.E Z192.con Tryz.f234 ((x0) : List TEntry) = Z192 x0 := by kernel_rfl
theorem Z192.ok : V.Valid Tryz.prog 234 Z192.con :=
  V.fo (V.tab_cons Z203.ok (V.tab_cons Z50.ok (V.tab_cons Z44.ok V.tab_nil))) Tryz.func234 (by kernel_rfl) (fun x y h => (show V.evBody Z192.E Z192.con Tryz.f234 x = _ from Z192.eq x).trans (V.cfl (by kernel_rfl) h))
noncomputable abbrev Z185.con : V.Con := ⟨(.cons (.int .i64) (.cons (.sl V.eEntry) .nil)), (.cons .bool .nil), fun (x : Int × List TEntry) => Z185 x.1 x.2, [], [(false, 1), (false, 1)], [(false, 1)], [false], []⟩
noncomputable abbrev Z185.E : V.Env := V.mkE V.tys [(233, Z25.con), (234, Z192.con)] [] [] [] [] []
theorem Z185.eq (x0 : Int) (x1 : List TEntry) : V.evBody Z185.E Z185.con Tryz.f258 ((x0, x1) : Int × List TEntry) = Z185 x0 x1 := by kernel_rfl
theorem Z185.ok : V.Valid Tryz.prog 258 Z185.con :=
  V.fo (V.tab_cons Z25.ok (V.tab_cons Z192.ok V.tab_nil)) Tryz.func258 (by kernel_rfl) (fun x y h => (show V.evBody Z185.E Z185.con Tryz.f258 x = _ from Z185.eq x.1 x.2).trans (V.cfl (by kernel_rfl) h))
noncomputable abbrev Z141.con : V.Con := ⟨(.cons (.sl V.eSigned) (.cons (.sl V.eEntry) .nil)), (.cons .bool .nil), fun (x : List TSigned × List TEntry) => Z141 x, [], [(true, 2)], [(false, 1)], [false], []⟩
noncomputable abbrev Z141.E : V.Env := V.mkE V.tys [(137, Z142.con), (258, Z185.con)] [] [] [] [] []
theorem Z141.eq (x0 : TZone) : V.evBody Z141.E Z141.con Tryz.f99 ((x0.1, x0.2) : List TSigned × List TEntry) = Z141 x0 := by kernel_rfl
theorem Z141.ok : V.Valid Tryz.prog 99 Z141.con :=
  V.fo (V.tab_cons Z142.ok (V.tab_cons Z185.ok V.tab_nil)) Tryz.func99 (by kernel_rfl) (fun x y h => (show V.evBody Z141.E Z141.con Tryz.f99 x = _ from Z141.eq x).trans (V.cfl (by kernel_rfl) h))
noncomputable abbrev Z194.con : V.Con := ⟨(.cons (.sl V.eSigned) (.cons (.sl V.eEntry) .nil)), (.cons (.int .i64) .nil), fun (x : List TSigned × List TEntry) => Z194 x, [], [(true, 2)], [(false, 1)], [false], []⟩
noncomputable abbrev Z194.E : V.Env := V.mkE V.tys [(99, Z141.con), (137, Z142.con)] [] [] [] [] []
theorem Z194.eq (x0 : TZone) : V.evBody Z194.E Z194.con Tryz.f101 ((x0.1, x0.2) : List TSigned × List TEntry) = Z194 x0 := by kernel_rfl
theorem Z194.ok : V.Valid Tryz.prog 101 Z194.con :=
  V.fo (V.tab_cons Z141.ok (V.tab_cons Z142.ok V.tab_nil)) Tryz.func101 (by kernel_rfl) (fun x y h => (show V.evBody Z194.E Z194.con Tryz.f101 x = _ from Z194.eq x).trans (V.cfl (by kernel_rfl) h))
noncomputable abbrev Z45.con : V.Con := ⟨(.cons (.sl (.cons (.sl V.eSigned) (.cons (.sl V.eEntry) .nil))) (.cons (.int .i64) (.cons (.int .i64) .nil))), (.cons (.int .i64) .nil), fun (x : List TZone × Int × Int) => Z45 (x.1, x.2.1) x.2.2, [], [(true, 2), (false, 1)], [(false, 1)], [false], []⟩
noncomputable abbrev Z45.E : V.Env := V.mkE V.tys [(101, Z194.con)] [(4, [1, 2, 5], [])] [] [] [] []
noncomputable abbrev Z45.kt (x0 : TServer) (x1 : Int) : V.Kt Int := V.ktOf Z45.E Z45.con Tryz.f146 ((x0.1, x0.2, x1) : List TZone × Int × Int)
noncomputable abbrev Z45.s4 (x0 : TServer) (x1 : Int) (v4_1 : Int) : V.St := ⟨[(1, .v false [.val (.int .i64 x1)]), (2, .v false [.ptr 64000 0]), (5, .v false [.val (.int .i64 v4_1)])], [(64000, .box [.val (.sl (.cons (.sl V.eSigned) (.cons (.sl V.eEntry) .nil)) x0.1), .val (.int .i64 x0.2)])]⟩
theorem Z45.r4 (x0 : TServer) (x1 : Int) (R : V.St → Option Int) (v4_1 : Int) : V.loopF Z45.E Tryz.f146.ntmps [1, 0, 1, 0] [] (V.codeOf Tryz.f146) (Z45.kt x0 x1) R (Z45.s4 x0 x1 v4_1) = Z45.g4 x0 x1 (fun v4_1 => R (Z45.s4 x0 x1 v4_1)) v4_1 := by kernel_rfl
theorem Z45.e4 (x0 : TServer) (x1 : Int) : ∀ (n : Nat) (v4_1 : Int), V.loopN (V.loopF Z45.E Tryz.f146.ntmps [1, 0, 1, 0] [] (V.codeOf Tryz.f146) (Z45.kt x0 x1)) n (Z45.s4 x0 x1 v4_1) = Z45.l4 x0 x1 n v4_1 := by
  intro n
  induction n with
  | zero => intros; rw [V.loopN_z]; rfl
  | succ n ih =>
    intro v4_1
    rw [V.loopN_s, Z45.r4]
    simp only [ih]
    first | exact (Z45.u4 ..).symm | rfl
theorem Z45.v (x0 : TServer) (x1 : Int) : V.evBody Z45.E Z45.con Tryz.f146 ((x0.1, x0.2, x1) : List TZone × Int × Int) = Z45.b x0 x1 (fun v4_1 => V.loopN (V.loopF Z45.E Tryz.f146.ntmps [1, 0, 1, 0] [] (V.codeOf Tryz.f146) (Z45.kt x0 x1)) V.KK (Z45.s4 x0 x1 v4_1)) := by kernel_rfl
theorem Z45.eq (x0 : TServer) (x1 : Int) : V.evBody Z45.E Z45.con Tryz.f146 ((x0.1, x0.2, x1) : List TZone × Int × Int) = Z45 x0 x1 := by
  rw [Z45.v]
  simp only [Z45.e4]
  rfl
theorem Z45.ok : V.Valid Tryz.prog 146 Z45.con :=
  V.fo (V.tab_cons Z194.ok V.tab_nil) Tryz.func146 (by kernel_rfl) (fun x y h => (show V.evBody Z45.E Z45.con Tryz.f146 x = _ from Z45.eq (x.1, x.2.1) x.2.2).trans (V.cfl (by kernel_rfl) h))
noncomputable abbrev Z95.con : V.Con := ⟨V.A3, V.eSigned, fun (x : V.D3) => Z95 (V.p3_0 x), [], [(true, 17)], [(true, 17)], [false, false, false, false, false, false, false, false, true, false, true, false, false, true, false, false, true], []⟩
noncomputable abbrev Z95.E : V.Env := V.mkE V.tys [(186, Z85.con)] [] [(1, 6)] [] [] []
noncomputable abbrev Z95.kt (x0 : TSigned) : V.Kt TSigned := V.ktOf Z95.E Z95.con Tryz.f177 (V.fl3 x0)
noncomputable abbrev Z95.s (x0 : TSigned) : V.St := ⟨[(0, .v true (V.lsSigned x0))], []⟩
theorem Z95.v0 (x0 : TSigned) : V.evBody Z95.E Z95.con Tryz.f177 (V.fl3 x0) = V.evC Z95.E Tryz.f177.ntmps (V.codeOf Tryz.f177) (Z95.kt x0) (Z95.s x0) := by kernel_rfl
theorem Z95.v (x0 : TSigned) : V.evC Z95.E Tryz.f177.ntmps (V.codeOf Tryz.f177) (Z95.kt x0) (Z95.s x0) = Z95 x0 := by kernel_rfl
theorem Z95.eq (x0 : TSigned) : V.evBody Z95.E Z95.con Tryz.f177 (V.fl3 x0) = Z95 x0 := (Z95.v0 x0).trans (Z95.v x0)
theorem Z95.ok : V.Valid Tryz.prog 177 Z95.con :=
  V.fo (V.tab_cons Z85.ok V.tab_nil) Tryz.func177 (by kernel_rfl) (fun x y h => (show V.evBody Z95.E Z95.con Tryz.f177 x = _ from Z95.eq (V.p3_0 x)).trans (V.cfl (by kernel_rfl) h))
noncomputable abbrev Z70.con : V.Con := ⟨(.cons (.sl V.eSigned) .nil), (.cons (.sl V.eSigned) .nil), fun (x : List TSigned) => Z70 x, [], [(false, 1)], [(false, 1)], [true], []⟩
noncomputable abbrev Z70.E : V.Env := V.mkE V.tys [(177, Z95.con)] [(6, [0, 3, 4], [(64000038400192, V.eSigned, true)])] [] [] [] []
noncomputable abbrev Z70.kt (x0 : List TSigned) : V.Kt (List TSigned) := V.ktOf Z70.E Z70.con Tryz.f175 ((x0) : List TSigned)
noncomputable abbrev Z70.s6 (x0 : List TSigned) (v6_1 : Int) (v6_2 : List TSigned) : V.St := ⟨[(0, .v false [.val (.sl V.eSigned x0)]), (3, .v false [.ref 64000038400192]), (4, .v false [.val (.int .i64 v6_1)])], [(64000038400192, .row V.eSigned true v6_2)]⟩
theorem Z70.r6 (x0 : List TSigned) (R : V.St → Option (List TSigned)) (v6_1 : Int) (v6_2 : List TSigned) : V.loopF Z70.E Tryz.f175.ntmps [1, 1, 0, 1, 0] [] (V.codeOf Tryz.f175) (Z70.kt x0) R (Z70.s6 x0 v6_1 v6_2) = Z70.g6 x0 (fun v6_1 v6_2 => R (Z70.s6 x0 v6_1 v6_2)) v6_1 v6_2 := by kernel_rfl
theorem Z70.e6 (x0 : List TSigned) : ∀ (n : Nat) (v6_1 : Int) (v6_2 : List TSigned), V.loopN (V.loopF Z70.E Tryz.f175.ntmps [1, 1, 0, 1, 0] [] (V.codeOf Tryz.f175) (Z70.kt x0)) n (Z70.s6 x0 v6_1 v6_2) = Z70.l6 x0 n v6_1 v6_2 := by
  intro n
  induction n with
  | zero => intros; rw [V.loopN_z]; rfl
  | succ n ih =>
    intro v6_1 v6_2
    rw [V.loopN_s, Z70.r6]
    simp only [ih]
    first | exact (Z70.u6 ..).symm | rfl
theorem Z70.v (x0 : List TSigned) : V.evBody Z70.E Z70.con Tryz.f175 ((x0) : List TSigned) = Z70.b x0 (fun v6_1 v6_2 => V.loopN (V.loopF Z70.E Tryz.f175.ntmps [1, 1, 0, 1, 0] [] (V.codeOf Tryz.f175) (Z70.kt x0)) V.KK (Z70.s6 x0 v6_1 v6_2)) := by kernel_rfl
theorem Z70.eq (x0 : List TSigned) : V.evBody Z70.E Z70.con Tryz.f175 ((x0) : List TSigned) = Z70 x0 := by
  rw [Z70.v]
  simp only [Z70.e6]
  rfl
theorem Z70.ok : V.Valid Tryz.prog 175 Z70.con :=
  V.fo (V.tab_cons Z95.ok V.tab_nil) Tryz.func175 (by kernel_rfl) (fun x y h => (show V.evBody Z70.E Z70.con Tryz.f175 x = _ from Z70.eq x).trans (V.cfl (by kernel_rfl) h))
noncomputable abbrev Z17.con : V.Con := ⟨(.cons (.sl V.eEntry) (.cons .str .nil)), (.cons (.int .i64) .nil), fun (x : List TEntry × ByteArray) => Z17 x.1 x.2, [], [(false, 1), (false, 1)], [(false, 1)], [false], []⟩
noncomputable abbrev Z17.E : V.Env := V.mkE V.tys [] [(4, [0, 1, 5], [])] [] [] [] []
noncomputable abbrev Z17.kt (x0 : List TEntry) (x1 : ByteArray) : V.Kt Int := V.ktOf Z17.E Z17.con Tryz.f139 ((x0, x1) : List TEntry × ByteArray)
noncomputable abbrev Z17.s4 (x0 : List TEntry) (x1 : ByteArray) (v4_2 : Int) : V.St := ⟨[(0, .v false [.val (.sl V.eEntry x0)]), (1, .v false [.val (.str x1)]), (5, .v false [.val (.int .i64 v4_2)])], []⟩
theorem Z17.r4 (x0 : List TEntry) (x1 : ByteArray) (R : V.St → Option Int) (v4_2 : Int) : V.loopF Z17.E Tryz.f139.ntmps [1, 0, 1, 0] [] (V.codeOf Tryz.f139) (Z17.kt x0 x1) R (Z17.s4 x0 x1 v4_2) = Z17.g4 x0 x1 (fun v4_2 => R (Z17.s4 x0 x1 v4_2)) v4_2 := by kernel_rfl
theorem Z17.e4 (x0 : List TEntry) (x1 : ByteArray) : ∀ (n : Nat) (v4_2 : Int), V.loopN (V.loopF Z17.E Tryz.f139.ntmps [1, 0, 1, 0] [] (V.codeOf Tryz.f139) (Z17.kt x0 x1)) n (Z17.s4 x0 x1 v4_2) = Z17.l4 x0 x1 n v4_2 := by
  intro n
  induction n with
  | zero => intros; rw [V.loopN_z]; rfl
  | succ n ih =>
    intro v4_2
    rw [V.loopN_s, Z17.r4]
    simp only [ih]
    first | exact (Z17.u4 ..).symm | rfl
theorem Z17.v (x0 : List TEntry) (x1 : ByteArray) : V.evBody Z17.E Z17.con Tryz.f139 ((x0, x1) : List TEntry × ByteArray) = Z17.b x0 x1 (fun v4_2 => V.loopN (V.loopF Z17.E Tryz.f139.ntmps [1, 0, 1, 0] [] (V.codeOf Tryz.f139) (Z17.kt x0 x1)) V.KK (Z17.s4 x0 x1 v4_2)) := by kernel_rfl
theorem Z17.eq (x0 : List TEntry) (x1 : ByteArray) : V.evBody Z17.E Z17.con Tryz.f139 ((x0, x1) : List TEntry × ByteArray) = Z17 x0 x1 := by
  rw [Z17.v]
  simp only [Z17.e4]
  rfl
theorem Z17.ok : V.Valid Tryz.prog 139 Z17.con :=
  V.fo V.tab_nil Tryz.func139 (by kernel_rfl) (fun x y h => (show V.evBody Z17.E Z17.con Tryz.f139 x = _ from Z17.eq x.1 x.2).trans (V.cfl (by kernel_rfl) h))
noncomputable abbrev Z196.con : V.Con := ⟨(.cons (.sl (.cons .str .nil)) .nil), (.cons (.sl (.cons .str .nil)) .nil), fun (x : List ByteArray) => Z196 x, [], [(false, 1)], [(false, 1)], [true], []⟩
noncomputable abbrev Z196.E : V.Env := V.mkE V.tys [] [] [] [] [] []
theorem Z196.eq (x0 : List ByteArray) : V.evBody Z196.E Z196.con Tryz.f370 ((x0) : List ByteArray) = Z196 x0 := by kernel_rfl
theorem Z196.ok : V.Valid Tryz.prog 370 Z196.con :=
  V.fo V.tab_nil Tryz.func370 (by kernel_rfl) (fun x y h => (show V.evBody Z196.E Z196.con Tryz.f370 x = _ from Z196.eq x).trans (V.cfl (by kernel_rfl) h))
noncomputable abbrev Z126.con : V.Con := ⟨V.eEntry, V.eEntry, fun (x : ByteArray × Int × Int × List ByteArray) => Z126 x, [], [(true, 4)], [(true, 4)], [false, false, false, true], []⟩
noncomputable abbrev Z126.E : V.Env := V.mkE V.tys [(370, Z196.con)] [] [(1, 9)] [] [] []
theorem Z126.eq (x0 : TEntry) : V.evBody Z126.E Z126.con Tryz.f277 ((x0.1, x0.2.1, x0.2.2.1, x0.2.2.2) : ByteArray × Int × Int × List ByteArray) = Z126 x0 := by kernel_rfl
theorem Z126.ok : V.Valid Tryz.prog 277 Z126.con :=
  V.fo (V.tab_cons Z196.ok V.tab_nil) Tryz.func277 (by kernel_rfl) (fun x y h => (show V.evBody Z126.E Z126.con Tryz.f277 x = _ from Z126.eq x).trans (V.cfl (by kernel_rfl) h))
noncomputable abbrev Z6.con : V.Con := ⟨(.cons (.sl (.cons (.int .i64) .nil)) (.cons (.int .i64) .nil)), (.cons (.sl (.cons (.int .i64) .nil)) .nil), fun (x : List Int × Int) => Z6 x.1 x.2, [], [(false, 1), (false, 1)], [(false, 1)], [true], []⟩
noncomputable abbrev Z6.E : V.Env := V.mkE V.tys [(179, Z71.con), (411, Z34.con)] [(10, [1, 5, 6], [(6, (.cons (.int .i64) .nil), false), (64000064000320, (.cons (.int .i64) .nil), true)]), (19, [1, 5, 6], [])] [] [] [] []
noncomputable abbrev Z6.kt (x0 : List Int) (x1 : Int) : V.Kt (List Int) := V.ktOf Z6.E Z6.con Tryz.f371 ((x0, x1) : List Int × Int)
noncomputable abbrev Z6.s19 (v10_0 : Int) (v10_1 : List Int) (v19_2 : List Int) : V.St := ⟨[(1, .v false [.val (.int .i64 v10_0)]), (5, .v false [.ref 64000121600320]), (6, .v false [.val (.sl (.cons (.int .i64) .nil) v10_1)])], [(64000121600320, .row (.cons (.int .i64) .nil) true v19_2)]⟩
noncomputable abbrev Z6.s10 (v10_0 : Int) (v10_1 : List Int) (v10_2 : List Int) : V.St := ⟨[(1, .v false [.val (.int .i64 v10_0)]), (5, .v false [.ref 64000064000320]), (6, .v false [.val (.sl (.cons (.int .i64) .nil) v10_1)])], [(64000064000320, .row (.cons (.int .i64) .nil) true v10_2)]⟩
theorem Z6.r19 (x0 : List Int) (x1 : Int) (v10_0 : Int) (v10_1 : List Int) (R10 : V.St → Option (List Int)) (v19_2 : List Int) : V.joinF Z6.E Tryz.f371.ntmps [1, 1, 1, 1, 0, 0, 0, 1, 0, 1] [R10] (V.codeOf Tryz.f371) (Z6.kt x0 x1) (Z6.s19 v10_0 v10_1 v19_2) = Z6.g19 v10_0 v10_1 (fun v10_0 v10_1 v10_2 => R10 (Z6.s10 v10_0 v10_1 v10_2)) v19_2 := by kernel_rfl
theorem Z6.e19 (x0 : List Int) (x1 : Int) (v10_0 : Int) (v10_1 : List Int) (R10 : V.St → Option (List Int)) (v19_2 : List Int) : V.jn (V.joinF Z6.E Tryz.f371.ntmps [1, 1, 1, 1, 0, 0, 0, 1, 0, 1] [R10] (V.codeOf Tryz.f371) (Z6.kt x0 x1)) (Z6.s19 v10_0 v10_1 v19_2) = Z6.l19 v10_0 v10_1 (fun v10_0 v10_1 v10_2 => R10 (Z6.s10 v10_0 v10_1 v10_2)) v19_2 := by
  rw [V.jn_eq, Z6.r19]
  rfl
theorem Z6.r10 (x0 : List Int) (x1 : Int) (R : V.St → Option (List Int)) (v10_0 : Int) (v10_1 : List Int) (v10_2 : List Int) : V.loopF Z6.E Tryz.f371.ntmps [1, 1, 1, 1, 0, 0] [] (V.codeOf Tryz.f371) (Z6.kt x0 x1) R (Z6.s10 v10_0 v10_1 v10_2) = Z6.g10 (fun v10_0 v10_1 v10_2 => R (Z6.s10 v10_0 v10_1 v10_2)) (fun v19_2 => V.jn (V.joinF Z6.E Tryz.f371.ntmps [1, 1, 1, 1, 0, 0, 0, 1, 0, 1] [R] (V.codeOf Tryz.f371) (Z6.kt x0 x1)) (Z6.s19 v10_0 v10_1 v19_2)) v10_0 v10_1 v10_2 := by kernel_rfl
theorem Z6.e10 (x0 : List Int) (x1 : Int) : ∀ (n : Nat) (v10_0 : Int) (v10_1 : List Int) (v10_2 : List Int), V.loopN (V.loopF Z6.E Tryz.f371.ntmps [1, 1, 1, 1, 0, 0] [] (V.codeOf Tryz.f371) (Z6.kt x0 x1)) n (Z6.s10 v10_0 v10_1 v10_2) = Z6.l10 n v10_0 v10_1 v10_2 := by
  intro n
  induction n with
  | zero => intros; rw [V.loopN_z]; rfl
  | succ n ih =>
    intro v10_0 v10_1 v10_2
    rw [V.loopN_s, Z6.r10]
    simp only [Z6.e19, ih]
    first | exact (Z6.u10 ..).symm | rfl
theorem Z6.v (x0 : List Int) (x1 : Int) : V.evBody Z6.E Z6.con Tryz.f371 ((x0, x1) : List Int × Int) = Z6.b x0 x1 (fun v10_0 v10_1 v10_2 => V.loopN (V.loopF Z6.E Tryz.f371.ntmps [1, 1, 1, 1, 0, 0] [] (V.codeOf Tryz.f371) (Z6.kt x0 x1)) V.KK (Z6.s10 v10_0 v10_1 v10_2)) := by kernel_rfl
theorem Z6.eq (x0 : List Int) (x1 : Int) : V.evBody Z6.E Z6.con Tryz.f371 ((x0, x1) : List Int × Int) = Z6 x0 x1 := by
  rw [Z6.v]
  simp only [Z6.e10]
  rfl
theorem Z6.ok : V.Valid Tryz.prog 371 Z6.con :=
  V.fo (V.tab_cons Z71.ok (V.tab_cons Z34.ok V.tab_nil)) Tryz.func371 (by kernel_rfl) (fun x y h => (show V.evBody Z6.E Z6.con Tryz.f371 x = _ from Z6.eq x.1 x.2).trans (V.cfl (by kernel_rfl) h))
noncomputable abbrev Z135.con : V.Con := ⟨(.cons (.sl V.eEntry) (.cons .str .nil)), (.cons (.int .i64) (.cons (.sl (.cons (.int .i64) .nil)) (.cons .bool .nil))), fun (x : List TEntry × ByteArray) => Z135 x.1 x.2, [], [(false, 1), (false, 1)], [(true, 2), (false, 1)], [false, true, false], []⟩
noncomputable abbrev Z135.E : V.Env := V.mkE V.tys [(139, Z17.con), (352, Z44.con), (371, Z6.con)] [] [] [] [] []
theorem Z135.eq (x0 : List TEntry) (x1 : ByteArray) : V.evBody Z135.E Z135.con Tryz.f278 ((x0, x1) : List TEntry × ByteArray) = Z135 x0 x1 := by kernel_rfl
theorem Z135.ok : V.Valid Tryz.prog 278 Z135.con :=
  V.fo (V.tab_cons Z17.ok (V.tab_cons Z44.ok (V.tab_cons Z6.ok V.tab_nil))) Tryz.func278 (by kernel_rfl) (fun x y h => (show V.evBody Z135.E Z135.con Tryz.f278 x = _ from Z135.eq x.1 x.2).trans (V.cfl (by kernel_rfl) h))
noncomputable abbrev Z69.con : V.Con := ⟨(.cons (.sl V.eEntry) (.cons .str .nil)), (.cons (.int .i64) .nil), fun (x : List TEntry × ByteArray) => Z69 x.1 x.2, [], [(false, 1), (false, 1)], [(false, 1)], [false], []⟩
noncomputable abbrev Z69.E : V.Env := V.mkE V.tys [(349, Z134.con)] [(6, [0, 1, 5, 6], [])] [] [] [] []
noncomputable abbrev Z69.kt (x0 : List TEntry) (x1 : ByteArray) : V.Kt Int := V.ktOf Z69.E Z69.con Tryz.f372 ((x0, x1) : List TEntry × ByteArray)
noncomputable abbrev Z69.s6 (x0 : List TEntry) (x1 : ByteArray) (v6_2 : Int) (v6_3 : Int) : V.St := ⟨[(0, .v false [.val (.sl V.eEntry x0)]), (1, .v false [.val (.str x1)]), (5, .v false [.val (.int .i64 v6_2)]), (6, .v false [.val (.int .i64 v6_3)])], []⟩
theorem Z69.r6 (x0 : List TEntry) (x1 : ByteArray) (R : V.St → Option Int) (v6_2 : Int) (v6_3 : Int) : V.loopF Z69.E Tryz.f372.ntmps [1, 1, 0, 1, 0] [] (V.codeOf Tryz.f372) (Z69.kt x0 x1) R (Z69.s6 x0 x1 v6_2 v6_3) = Z69.g6 x0 x1 (fun v6_2 v6_3 => R (Z69.s6 x0 x1 v6_2 v6_3)) v6_2 v6_3 := by kernel_rfl
theorem Z69.e6 (x0 : List TEntry) (x1 : ByteArray) : ∀ (n : Nat) (v6_2 : Int) (v6_3 : Int), V.loopN (V.loopF Z69.E Tryz.f372.ntmps [1, 1, 0, 1, 0] [] (V.codeOf Tryz.f372) (Z69.kt x0 x1)) n (Z69.s6 x0 x1 v6_2 v6_3) = Z69.l6 x0 x1 n v6_2 v6_3 := by
  intro n
  induction n with
  | zero => intros; rw [V.loopN_z]; rfl
  | succ n ih =>
    intro v6_2 v6_3
    rw [V.loopN_s, Z69.r6]
    simp only [ih]
    first | exact (Z69.u6 ..).symm | rfl
theorem Z69.v (x0 : List TEntry) (x1 : ByteArray) : V.evBody Z69.E Z69.con Tryz.f372 ((x0, x1) : List TEntry × ByteArray) = Z69.b x0 x1 (fun v6_2 v6_3 => V.loopN (V.loopF Z69.E Tryz.f372.ntmps [1, 1, 0, 1, 0] [] (V.codeOf Tryz.f372) (Z69.kt x0 x1)) V.KK (Z69.s6 x0 x1 v6_2 v6_3)) := by kernel_rfl
theorem Z69.eq (x0 : List TEntry) (x1 : ByteArray) : V.evBody Z69.E Z69.con Tryz.f372 ((x0, x1) : List TEntry × ByteArray) = Z69 x0 x1 := by
  rw [Z69.v]
  simp only [Z69.e6]
  rfl
theorem Z69.ok : V.Valid Tryz.prog 372 Z69.con :=
  V.fo (V.tab_cons Z134.ok V.tab_nil) Tryz.func372 (by kernel_rfl) (fun x y h => (show V.evBody Z69.E Z69.con Tryz.f372 x = _ from Z69.eq x.1 x.2).trans (V.cfl (by kernel_rfl) h))
noncomputable abbrev Z11.con : V.Con := ⟨(.cons (.sl V.eEntry) (.cons .str .nil)), V.eRGapBool, fun (x : List TEntry × ByteArray) => Z11 x.1 x.2, [], [(false, 1), (false, 1)], [(true, 13), (false, 1)], [false, false, false, false, true, false, false, false, true, false, true, false, true, false], []⟩
noncomputable abbrev Z11.E : V.Env := V.mkE V.tys [(136, Z5.con), (139, Z17.con), (233, Z25.con), (277, Z126.con), (278, Z135.con), (372, Z69.con)] [(5, [0, 1, 4, 21], []), (17, [0, 4, 6, 7], [(64000000000020488196, (.cons .str .nil), true), (64000000000020488202, (.cons (.int .i64) .nil), true)])] [] [] [] []
noncomputable abbrev Z11.kt (x0 : List TEntry) (x1 : ByteArray) : V.Kt TRGapBool := V.ktOf Z11.E Z11.con Tryz.f279 ((x0, x1) : List TEntry × ByteArray)
noncomputable abbrev Z11.s17 (x0 : List TEntry) (y2 : Int) (v17_12 : ByteArray) (v17_13 : Int) (v17_14 : Int) (v17_18 : Int) (v17_20 : List ByteArray) (v17_21 : List Int) : V.St := ⟨[(0, .v false [.val (.sl V.eEntry x0)]), (4, .v false [.ptr 64000 0]), (6, .v false [.val (.int .i64 y2)]), (7, .v false [.ptr 320128 0])], [(64000, .box [.val (.int .i64 (0 : Int)), .val (.str (⟨#[]⟩ : ByteArray)), .val (.int .i64 (0 : Int)), .val (.int .i64 (0 : Int)), .nil0, .val (.str (⟨#[]⟩ : ByteArray)), .val (.int .i64 (0 : Int)), .val (.int .i64 (0 : Int)), .nil0, .val (.int .i64 (0 : Int)), .nil0, .val (.int .i64 (0 : Int)), .nil0]), (320128, .box [.val (.int .i64 y2), .val (.str v17_12), .val (.int .i64 v17_13), .val (.int .i64 v17_14), .ref 64000000000020488196, .val (.str (⟨#[]⟩ : ByteArray)), .val (.int .i64 (0 : Int)), .val (.int .i64 (0 : Int)), .nil0, .val (.int .i64 v17_18), .ref 64000000000020488202, .val (.int .i64 (0 : Int)), .nil0]), (64000000000020488196, .row (.cons .str .nil) true v17_20), (64000000000020488202, .row (.cons (.int .i64) .nil) true v17_21)]⟩
noncomputable abbrev Z11.s5 (x0 : List TEntry) (x1 : ByteArray) (v5_2 : Bool) : V.St := ⟨[(0, .v false [.val (.sl V.eEntry x0)]), (1, .v false [.val (.str x1)]), (4, .v false [.ptr 64000 0]), (21, .v false [.val (.bool v5_2)])], [(64000, .box [.val (.int .i64 (0 : Int)), .val (.str (⟨#[]⟩ : ByteArray)), .val (.int .i64 (0 : Int)), .val (.int .i64 (0 : Int)), .nil0, .val (.str (⟨#[]⟩ : ByteArray)), .val (.int .i64 (0 : Int)), .val (.int .i64 (0 : Int)), .nil0, .val (.int .i64 (0 : Int)), .nil0, .val (.int .i64 (0 : Int)), .nil0])]⟩
theorem Z11.r17 (x0 : List TEntry) (x1 : ByteArray) (y2 : Int) (v17_12 : ByteArray) (v17_13 : Int) (v17_14 : Int) (v17_18 : Int) (v17_20 : List ByteArray) (v17_21 : List Int) : V.joinF Z11.E Tryz.f279.ntmps [1, 1, 1, 1] [] (V.codeOf Tryz.f279) (Z11.kt x0 x1) (Z11.s17 x0 y2 v17_12 v17_13 v17_14 v17_18 v17_20 v17_21) = Z11.g17 x0 y2 v17_12 v17_13 v17_14 v17_18 v17_20 v17_21 := by kernel_rfl
theorem Z11.e17 (x0 : List TEntry) (x1 : ByteArray) (y2 : Int) (v17_12 : ByteArray) (v17_13 : Int) (v17_14 : Int) (v17_18 : Int) (v17_20 : List ByteArray) (v17_21 : List Int) : V.jn (V.joinF Z11.E Tryz.f279.ntmps [1, 1, 1, 1] [] (V.codeOf Tryz.f279) (Z11.kt x0 x1)) (Z11.s17 x0 y2 v17_12 v17_13 v17_14 v17_18 v17_20 v17_21) = Z11.l17 x0 y2 v17_12 v17_13 v17_14 v17_18 v17_20 v17_21 := by
  rw [V.jn_eq, Z11.r17]
  rfl
theorem Z11.r5 (x0 : List TEntry) (x1 : ByteArray) (v5_2 : Bool) : V.joinF Z11.E Tryz.f279.ntmps [1, 0] [] (V.codeOf Tryz.f279) (Z11.kt x0 x1) (Z11.s5 x0 x1 v5_2) = Z11.g5 x0 x1 (fun y2 v17_12 v17_13 v17_14 v17_18 v17_20 v17_21 => V.jn (V.joinF Z11.E Tryz.f279.ntmps [1, 1, 1, 1] [] (V.codeOf Tryz.f279) (Z11.kt x0 x1)) (Z11.s17 x0 y2 v17_12 v17_13 v17_14 v17_18 v17_20 v17_21)) v5_2 := by kernel_rfl
theorem Z11.e5 (x0 : List TEntry) (x1 : ByteArray) (v5_2 : Bool) : V.jn (V.joinF Z11.E Tryz.f279.ntmps [1, 0] [] (V.codeOf Tryz.f279) (Z11.kt x0 x1)) (Z11.s5 x0 x1 v5_2) = Z11.l5 x0 x1 v5_2 := by
  rw [V.jn_eq, Z11.r5]
  simp only [Z11.e17]
  rfl
theorem Z11.v (x0 : List TEntry) (x1 : ByteArray) : V.evBody Z11.E Z11.con Tryz.f279 ((x0, x1) : List TEntry × ByteArray) = Z11.b x0 x1 (fun v5_2 => V.jn (V.joinF Z11.E Tryz.f279.ntmps [1, 0] [] (V.codeOf Tryz.f279) (Z11.kt x0 x1)) (Z11.s5 x0 x1 v5_2)) := by kernel_rfl
theorem Z11.eq (x0 : List TEntry) (x1 : ByteArray) : V.evBody Z11.E Z11.con Tryz.f279 ((x0, x1) : List TEntry × ByteArray) = Z11 x0 x1 := by
  rw [Z11.v]
  simp only [Z11.e5]
  rfl
theorem Z11.ok : V.Valid Tryz.prog 279 Z11.con :=
  V.fo (V.tab_cons Z5.ok (V.tab_cons Z17.ok (V.tab_cons Z25.ok (V.tab_cons Z126.ok (V.tab_cons Z135.ok (V.tab_cons Z69.ok V.tab_nil)))))) Tryz.func279 (by kernel_rfl) (fun x y h => (show V.evBody Z11.E Z11.con Tryz.f279 x = _ from Z11.eq x.1 x.2).trans (V.cfl (by kernel_rfl) h))
noncomputable abbrev Z80.con : V.Con := ⟨(.cons (.sl V.eSigned) (.cons (.sl V.eEntry) (.cons .str .nil))), V.eAnswer, fun (x : List TSigned × List TEntry × ByteArray) => Z80 (x.1, x.2.1) x.2.2, [], [(true, 2), (false, 1)], [(true, 21)], [true, false, false, false, false, true, false, true, false, false, false, false, true, false, false, false, true, false, true, false, true], []⟩
noncomputable abbrev Z80.E : V.Env := V.mkE V.tys [(99, Z141.con), (136, Z5.con), (139, Z17.con), (175, Z70.con), (277, Z126.con), (278, Z135.con), (279, Z11.con)] [(7, [1, 2, 4], [])] [] [] [] []
noncomputable abbrev Z80.kt (x0 : TZone) (x1 : ByteArray) : V.Kt TAnswer := V.ktOf Z80.E Z80.con Tryz.f132 ((x0.1, x0.2, x1) : List TSigned × List TEntry × ByteArray)
noncomputable abbrev Z80.s7 (x0 : TZone) (x1 : ByteArray) : V.St := ⟨[(1, .v false [.val (.str x1)]), (2, .v false [.ptr 64000 0]), (4, .v false [.ptr 64064 0])], [(64000, .box [.val (.sl V.eSigned x0.1), .val (.sl V.eEntry x0.2)]), (64064, .box [.nil0, .val (.bool false), .val (.str (⟨#[]⟩ : ByteArray)), .val (.int .i64 (0 : Int)), .val (.int .i64 (0 : Int)), .nil0, .val (.int .i64 (0 : Int)), .nil0, .val (.int .i64 (0 : Int)), .val (.str (⟨#[]⟩ : ByteArray)), .val (.int .i64 (0 : Int)), .val (.int .i64 (0 : Int)), .nil0, .val (.str (⟨#[]⟩ : ByteArray)), .val (.int .i64 (0 : Int)), .val (.int .i64 (0 : Int)), .nil0, .val (.int .i64 (0 : Int)), .nil0, .val (.int .i64 (0 : Int)), .nil0])]⟩
theorem Z80.r7 (x0 : TZone) (x1 : ByteArray) : V.joinF Z80.E Tryz.f132.ntmps [1] [] (V.codeOf Tryz.f132) (Z80.kt x0 x1) (Z80.s7 x0 x1) = Z80.g7 x0 x1 := by kernel_rfl
theorem Z80.e7 (x0 : TZone) (x1 : ByteArray) : V.jn (V.joinF Z80.E Tryz.f132.ntmps [1] [] (V.codeOf Tryz.f132) (Z80.kt x0 x1)) (Z80.s7 x0 x1) = Z80.l7 x0 x1 := by
  rw [V.jn_eq, Z80.r7]
  rfl
theorem Z80.v (x0 : TZone) (x1 : ByteArray) : V.evBody Z80.E Z80.con Tryz.f132 ((x0.1, x0.2, x1) : List TSigned × List TEntry × ByteArray) = Z80.b x0 x1 (V.jn (V.joinF Z80.E Tryz.f132.ntmps [1] [] (V.codeOf Tryz.f132) (Z80.kt x0 x1)) (Z80.s7 x0 x1)) := by kernel_rfl
theorem Z80.eq (x0 : TZone) (x1 : ByteArray) : V.evBody Z80.E Z80.con Tryz.f132 ((x0.1, x0.2, x1) : List TSigned × List TEntry × ByteArray) = Z80 x0 x1 := by
  rw [Z80.v]
  simp only [Z80.e7]
  rfl
theorem Z80.ok : V.Valid Tryz.prog 132 Z80.con :=
  V.fo (V.tab_cons Z141.ok (V.tab_cons Z5.ok (V.tab_cons Z17.ok (V.tab_cons Z70.ok (V.tab_cons Z126.ok (V.tab_cons Z135.ok (V.tab_cons Z11.ok V.tab_nil))))))) Tryz.func132 (by kernel_rfl) (fun x y h => (show V.evBody Z80.E Z80.con Tryz.f132 x = _ from Z80.eq (x.1, x.2.1) x.2.2).trans (V.cfl (by kernel_rfl) h))
noncomputable abbrev Z78.con : V.Con := ⟨(.cons (.sl (.cons (.sl V.eSigned) (.cons (.sl V.eEntry) .nil))) (.cons (.int .i64) (.cons (.int .i64) (.cons .str .nil)))), V.eAnswer, fun (x : List TZone × Int × Int × ByteArray) => Z78 (x.1, x.2.1) x.2.2.1 x.2.2.2, [], [(true, 2), (false, 1), (false, 1)], [(true, 21)], [true, false, false, false, false, true, false, true, false, false, false, false, true, false, false, false, true, false, true, false, true], []⟩
noncomputable abbrev Z78.E : V.Env := V.mkE V.tys [(132, Z80.con), (146, Z45.con)] [(9, [2, 3, 6, 7], [])] [] [] [] []
noncomputable abbrev Z78.kt (x0 : TServer) (x1 : Int) (x2 : ByteArray) : V.Kt TAnswer := V.ktOf Z78.E Z78.con Tryz.f16 ((x0.1, x0.2, x1, x2) : List TZone × Int × Int × ByteArray)
noncomputable abbrev Z78.s9 (x0 : TServer) (x2 : ByteArray) (y1 : Int) : V.St := ⟨[(2, .v false [.val (.str x2)]), (3, .v false [.ptr 64000 0]), (6, .v false [.ptr 64064 0]), (7, .v false [.val (.int .i64 y1)])], [(64000, .box [.val (.sl (.cons (.sl V.eSigned) (.cons (.sl V.eEntry) .nil)) x0.1), .val (.int .i64 x0.2)]), (64064, .box [.nil0, .val (.bool false), .val (.str (⟨#[]⟩ : ByteArray)), .val (.int .i64 (0 : Int)), .val (.int .i64 (0 : Int)), .nil0, .val (.int .i64 (0 : Int)), .nil0, .val (.int .i64 (0 : Int)), .val (.str (⟨#[]⟩ : ByteArray)), .val (.int .i64 (0 : Int)), .val (.int .i64 (0 : Int)), .nil0, .val (.str (⟨#[]⟩ : ByteArray)), .val (.int .i64 (0 : Int)), .val (.int .i64 (0 : Int)), .nil0, .val (.int .i64 (0 : Int)), .nil0, .val (.int .i64 (0 : Int)), .nil0])]⟩
theorem Z78.r9 (x0 : TServer) (x1 : Int) (x2 : ByteArray) (y1 : Int) : V.joinF Z78.E Tryz.f16.ntmps [1, 1] [] (V.codeOf Tryz.f16) (Z78.kt x0 x1 x2) (Z78.s9 x0 x2 y1) = Z78.g9 x0 x2 y1 := by kernel_rfl
theorem Z78.e9 (x0 : TServer) (x1 : Int) (x2 : ByteArray) (y1 : Int) : V.jn (V.joinF Z78.E Tryz.f16.ntmps [1, 1] [] (V.codeOf Tryz.f16) (Z78.kt x0 x1 x2)) (Z78.s9 x0 x2 y1) = Z78.l9 x0 x2 y1 := by
  rw [V.jn_eq, Z78.r9]
  rfl
theorem Z78.v (x0 : TServer) (x1 : Int) (x2 : ByteArray) : V.evBody Z78.E Z78.con Tryz.f16 ((x0.1, x0.2, x1, x2) : List TZone × Int × Int × ByteArray) = Z78.b x0 x1 x2 (fun y1 => V.jn (V.joinF Z78.E Tryz.f16.ntmps [1, 1] [] (V.codeOf Tryz.f16) (Z78.kt x0 x1 x2)) (Z78.s9 x0 x2 y1)) := by kernel_rfl
theorem Z78.eq (x0 : TServer) (x1 : Int) (x2 : ByteArray) : V.evBody Z78.E Z78.con Tryz.f16 ((x0.1, x0.2, x1, x2) : List TZone × Int × Int × ByteArray) = Z78 x0 x1 x2 := by
  rw [Z78.v]
  simp only [Z78.e9]
  rfl
theorem Z78.ok : V.Valid Tryz.prog 16 Z78.con :=
  V.fo (V.tab_cons Z80.ok (V.tab_cons Z45.ok V.tab_nil)) Tryz.func16 (by kernel_rfl) (fun x y h => (show V.evBody Z78.E Z78.con Tryz.f16 x = _ from Z78.eq (x.1, x.2.1) x.2.2.1 x.2.2.2).trans (V.cfl (by kernel_rfl) h))
noncomputable abbrev Z75.con : V.Con := ⟨(.cons (.int .i64) (.cons (.int .i64) (.cons (.int .i64) .nil))), (.cons .bool .nil), fun (x : Int × Int × Int) => Z75 x.1 x.2.1 x.2.2, [], [(false, 1), (false, 1), (false, 1)], [(false, 1)], [false], []⟩
noncomputable abbrev Z75.E : V.Env := V.mkE V.tys [] [] [] [] [] []
theorem Z75.eq (x0 : Int) (x1 : Int) (x2 : Int) : V.evBody Z75.E Z75.con Tryz.f178 ((x0, x1, x2) : Int × Int × Int) = Z75 x0 x1 x2 := by kernel_rfl
theorem Z75.ok : V.Valid Tryz.prog 178 Z75.con :=
  V.fo V.tab_nil Tryz.func178 (by kernel_rfl) (fun x y h => (show V.evBody Z75.E Z75.con Tryz.f178 x = _ from Z75.eq x.1 x.2.1 x.2.2).trans (V.cfl (by kernel_rfl) h))
noncomputable abbrev Z119.con : V.Con := ⟨(.cons (.int .i64) .nil), (.cons .bool .nil), fun (x : Int) => Z119 x, [], [(false, 1)], [(false, 1)], [false], []⟩
noncomputable abbrev Z119.E : V.Env := V.mkE V.tys [(178, Z75.con)] [] [] [] [] []
theorem Z119.eq (x0 : Int) : V.evBody Z119.E Z119.con Tryz.f206 ((x0) : Int) = Z119 x0 := by kernel_rfl
theorem Z119.ok : V.Valid Tryz.prog 206 Z119.con :=
  V.fo (V.tab_cons Z75.ok V.tab_nil) Tryz.func206 (by kernel_rfl) (fun x y h => (show V.evBody Z119.E Z119.con Tryz.f206 x = _ from Z119.eq x).trans (V.cfl (by kernel_rfl) h))
noncomputable abbrev Z113.con : V.Con := ⟨V.A2, (.cons .bool .nil), fun (x : V.D2) => Z113 (V.p2_0 x), [], [(true, 16)], [(false, 1)], [false], []⟩
noncomputable abbrev Z113.E : V.Env := V.mkE V.tys [] [] [] [] [] []
noncomputable abbrev Z113.kt (x0 : THead) : V.Kt Bool := V.ktOf Z113.E Z113.con Tryz.f393 (V.fl2 x0)
noncomputable abbrev Z113.s (x0 : THead) : V.St := ⟨[(0, .v true (V.lsHead x0))], []⟩
theorem Z113.v0 (x0 : THead) : V.evBody Z113.E Z113.con Tryz.f393 (V.fl2 x0) = V.evC Z113.E Tryz.f393.ntmps (V.codeOf Tryz.f393) (Z113.kt x0) (Z113.s x0) := by kernel_rfl
theorem Z113.v (x0 : THead) : V.evC Z113.E Tryz.f393.ntmps (V.codeOf Tryz.f393) (Z113.kt x0) (Z113.s x0) = Z113 x0 := by kernel_rfl
theorem Z113.eq (x0 : THead) : V.evBody Z113.E Z113.con Tryz.f393 (V.fl2 x0) = Z113 x0 := (Z113.v0 x0).trans (Z113.v x0)
theorem Z113.ok : V.Valid Tryz.prog 393 Z113.con :=
  V.fo V.tab_nil Tryz.func393 (by kernel_rfl) (fun x y h => (show V.evBody Z113.E Z113.con Tryz.f393 x = _ from Z113.eq (V.p2_0 x)).trans (V.cfl (by kernel_rfl) h))
noncomputable abbrev Z37.con : V.Con := ⟨(.cons (.sl (.cons (.int .i64) .nil)) .nil), (.cons .bool .nil), fun (x : List Int) => Z37 x, [], [(false, 1)], [(false, 1)], [false], []⟩
noncomputable abbrev Z37.E : V.Env := V.mkE V.tys [] [(4, [0, 5, 6], [])] [(4, 12)] [] [] []
noncomputable abbrev Z37.kt (x0 : List Int) : V.Kt Bool := V.ktOf Z37.E Z37.con Tryz.f330 ((x0) : List Int)
noncomputable abbrev Z37.s4 (x0 : List Int) (v4_1 : Int) (v4_2 : Int) : V.St := ⟨[(0, .v false [.val (.sl (.cons (.int .i64) .nil) x0)]), (5, .v false [.val (.int .i64 v4_1)]), (6, .v false [.val (.int .i64 v4_2)])], []⟩
theorem Z37.r4 (x0 : List Int) (R : V.St → Option Bool) (v4_1 : Int) (v4_2 : Int) : V.loopF Z37.E Tryz.f330.ntmps [1, 0, 1, 0] [] (V.codeOf Tryz.f330) (Z37.kt x0) R (Z37.s4 x0 v4_1 v4_2) = Z37.g4 x0 (fun v4_1 v4_2 => R (Z37.s4 x0 v4_1 v4_2)) v4_1 v4_2 := by kernel_rfl
theorem Z37.e4 (x0 : List Int) : ∀ (n : Nat) (v4_1 : Int) (v4_2 : Int), V.loopN (V.loopF Z37.E Tryz.f330.ntmps [1, 0, 1, 0] [] (V.codeOf Tryz.f330) (Z37.kt x0)) n (Z37.s4 x0 v4_1 v4_2) = Z37.l4 x0 n v4_1 v4_2 := by
  intro n
  induction n with
  | zero => intros; rw [V.loopN_z]; rfl
  | succ n ih =>
    intro v4_1 v4_2
    rw [V.loopN_s, Z37.r4]
    simp only [ih]
    first | exact (Z37.u4 ..).symm | rfl
theorem Z37.v (x0 : List Int) : V.evBody Z37.E Z37.con Tryz.f330 ((x0) : List Int) = Z37.b x0 (fun v4_1 v4_2 => V.loopN (V.loopF Z37.E Tryz.f330.ntmps [1, 0, 1, 0] [] (V.codeOf Tryz.f330) (Z37.kt x0)) V.KK (Z37.s4 x0 v4_1 v4_2)) := by kernel_rfl
theorem Z37.eq (x0 : List Int) : V.evBody Z37.E Z37.con Tryz.f330 ((x0) : List Int) = Z37 x0 := by
  rw [Z37.v]
  simp only [Z37.e4]
  rfl
theorem Z37.ok : V.Valid Tryz.prog 330 Z37.con :=
  V.fo V.tab_nil Tryz.func330 (by kernel_rfl) (fun x y h => (show V.evBody Z37.E Z37.con Tryz.f330 x = _ from Z37.eq x).trans (V.cfl (by kernel_rfl) h))
noncomputable abbrev Z128.con : V.Con := ⟨(.cons (.int .i64) .nil), (.cons .bool .nil), fun (x : Int) => Z128 x, [], [(false, 1)], [(false, 1)], [false], []⟩
noncomputable abbrev Z128.E : V.Env := V.mkE V.tys [(178, Z75.con)] [] [] [] [] []
theorem Z128.eq (x0 : Int) : V.evBody Z128.E Z128.con Tryz.f207 ((x0) : Int) = Z128 x0 := by kernel_rfl
theorem Z128.ok : V.Valid Tryz.prog 207 Z128.con :=
  V.fo (V.tab_cons Z75.ok V.tab_nil) Tryz.func207 (by kernel_rfl) (fun x y h => (show V.evBody Z128.E Z128.con Tryz.f207 x = _ from Z128.eq x).trans (V.cfl (by kernel_rfl) h))
noncomputable abbrev Z118.con : V.Con := ⟨(.cons (.sl (.cons (.int .i64) .nil)) (.cons (.int .i64) .nil)), (.cons .bool .nil), fun (x : List Int × Int) => Z118 x, [], [(true, 2)], [(false, 1)], [false], []⟩
noncomputable abbrev Z118.E : V.Env := V.mkE V.tys [(178, Z75.con), (207, Z128.con), (330, Z37.con)] [] [] [] [] []
theorem Z118.eq (x0 : TKeys) : V.evBody Z118.E Z118.con Tryz.f208 ((x0.1, x0.2) : List Int × Int) = Z118 x0 := by kernel_rfl
theorem Z118.ok : V.Valid Tryz.prog 208 Z118.con :=
  V.fo (V.tab_cons Z75.ok (V.tab_cons Z128.ok (V.tab_cons Z37.ok V.tab_nil))) Tryz.func208 (by kernel_rfl) (fun x y h => (show V.evBody Z118.E Z118.con Tryz.f208 x = _ from Z118.eq x).trans (V.cfl (by kernel_rfl) h))
noncomputable abbrev Z114.con : V.Con := ⟨(.cons (.sl (.cons (.int .i64) .nil)) (.cons (.int .i64) .nil)), (.cons .bool .nil), fun (x : List Int × Int) => Z114 x, [], [(true, 2)], [(false, 1)], [false], []⟩
noncomputable abbrev Z114.E : V.Env := V.mkE V.tys [] [] [] [] [] []
theorem Z114.eq (x0 : TKeys) : V.evBody Z114.E Z114.con Tryz.f226 ((x0.1, x0.2) : List Int × Int) = Z114 x0 := by kernel_rfl
theorem Z114.ok : V.Valid Tryz.prog 226 Z114.con :=
  V.fo V.tab_nil Tryz.func226 (by kernel_rfl) (fun x y h => (show V.evBody Z114.E Z114.con Tryz.f226 x = _ from Z114.eq x).trans (V.cfl (by kernel_rfl) h))
noncomputable abbrev Z173.con : V.Con := ⟨(.cons (.sl (.cons (.int .i64) .nil)) (.cons (.int .i64) .nil)), (.cons .bool .nil), fun (x : List Int × Int) => Z173 x, [], [(true, 2)], [(false, 1)], [false], []⟩
noncomputable abbrev Z173.E : V.Env := V.mkE V.tys [(208, Z118.con), (226, Z114.con)] [] [] [] [] []
theorem Z173.eq (x0 : TKeys) : V.evBody Z173.E Z173.con Tryz.f394 ((x0.1, x0.2) : List Int × Int) = Z173 x0 := by kernel_rfl
theorem Z173.ok : V.Valid Tryz.prog 394 Z173.con :=
  V.fo (V.tab_cons Z118.ok (V.tab_cons Z114.ok V.tab_nil)) Tryz.func394 (by kernel_rfl) (fun x y h => (show V.evBody Z173.E Z173.con Tryz.f394 x = _ from Z173.eq x).trans (V.cfl (by kernel_rfl) h))
noncomputable abbrev Z201.con : V.Con := ⟨(.cons (.int .i64) (.cons (.sl (.cons (.int .i64) .nil)) (.cons (.int .i64) .nil))), (.cons .bool .nil), fun (x : Int × List Int × Int) => Z201 x.1 x.2, [], [(false, 1), (true, 2)], [(false, 1)], [false], []⟩
noncomputable abbrev Z201.E : V.Env := V.mkE V.tys [(178, Z75.con), (226, Z114.con)] [] [] [] [] []
theorem Z201.eq (x0 : Int) (x1 : TKeys) : V.evBody Z201.E Z201.con Tryz.f395 ((x0, x1.1, x1.2) : Int × List Int × Int) = Z201 x0 x1 := by kernel_rfl
theorem Z201.ok : V.Valid Tryz.prog 395 Z201.con :=
  V.fo (V.tab_cons Z75.ok (V.tab_cons Z114.ok V.tab_nil)) Tryz.func395 (by kernel_rfl) (fun x y h => (show V.evBody Z201.E Z201.con Tryz.f395 x = _ from Z201.eq x.1 x.2).trans (V.cfl (by kernel_rfl) h))
noncomputable abbrev Z84.con : V.Con := ⟨V.A2, (.cons .bool .nil), fun (x : V.D2) => Z84 (V.p2_0 x), [], [(true, 16)], [(false, 1)], [false], []⟩
noncomputable abbrev Z84.E : V.Env := V.mkE V.tys [(178, Z75.con), (206, Z119.con), (208, Z118.con), (226, Z114.con), (393, Z113.con), (394, Z173.con), (395, Z201.con)] [] [] [] [] []
noncomputable abbrev Z84.kt (x0 : THead) : V.Kt Bool := V.ktOf Z84.E Z84.con Tryz.f306 (V.fl2 x0)
noncomputable abbrev Z84.s (x0 : THead) : V.St := ⟨[(0, .v true (V.lsHead x0))], []⟩
theorem Z84.v0 (x0 : THead) : V.evBody Z84.E Z84.con Tryz.f306 (V.fl2 x0) = V.evC Z84.E Tryz.f306.ntmps (V.codeOf Tryz.f306) (Z84.kt x0) (Z84.s x0) := by kernel_rfl
theorem Z84.v (x0 : THead) : V.evC Z84.E Tryz.f306.ntmps (V.codeOf Tryz.f306) (Z84.kt x0) (Z84.s x0) = Z84 x0 := by kernel_rfl
theorem Z84.eq (x0 : THead) : V.evBody Z84.E Z84.con Tryz.f306 (V.fl2 x0) = Z84 x0 := (Z84.v0 x0).trans (Z84.v x0)
theorem Z84.ok : V.Valid Tryz.prog 306 Z84.con :=
  V.fo (V.tab_cons Z75.ok (V.tab_cons Z119.ok (V.tab_cons Z118.ok (V.tab_cons Z114.ok (V.tab_cons Z113.ok (V.tab_cons Z173.ok (V.tab_cons Z201.ok V.tab_nil))))))) Tryz.func306 (by kernel_rfl) (fun x y h => (show V.evBody Z84.E Z84.con Tryz.f306 x = _ from Z84.eq (V.p2_0 x)).trans (V.cfl (by kernel_rfl) h))
noncomputable abbrev Z115.con : V.Con := ⟨(.cons (.sl (.cons (.int .i64) .nil)) (.cons (.int .i64) .nil)), (.cons (.sl (.cons (.int .i64) .nil)) .nil), fun (x : List Int × Int) => Z115 x, [], [(true, 2)], [(false, 1)], [true], []⟩
noncomputable abbrev Z115.E : V.Env := V.mkE V.tys [] [] [] [] [] []
theorem Z115.eq (x0 : TKeys) : V.evBody Z115.E Z115.con Tryz.f263 ((x0.1, x0.2) : List Int × Int) = Z115 x0 := by kernel_rfl
theorem Z115.ok : V.Valid Tryz.prog 263 Z115.con :=
  V.fo V.tab_nil Tryz.func263 (by kernel_rfl) (fun x y h => (show V.evBody Z115.E Z115.con Tryz.f263 x = _ from Z115.eq x).trans (V.cfl (by kernel_rfl) h))
noncomputable abbrev Z144.con : V.Con := ⟨(.cons (.int .i64) (.cons (.int .i64) .nil)), (.cons (.int .i64) .nil), fun (x : Int × Int) => Z144 x.1 x.2, [], [(false, 1), (false, 1)], [(false, 1)], [false], []⟩
noncomputable abbrev Z144.E : V.Env := V.mkE V.tys [(178, Z75.con)] [] [] [] [] []
theorem Z144.eq (x0 : Int) (x1 : Int) : V.evBody Z144.E Z144.con Tryz.f364 ((x0, x1) : Int × Int) = Z144 x0 x1 := by kernel_rfl
theorem Z144.ok : V.Valid Tryz.prog 364 Z144.con :=
  V.fo (V.tab_cons Z75.ok V.tab_nil) Tryz.func364 (by kernel_rfl) (fun x y h => (show V.evBody Z144.E Z144.con Tryz.f364 x = _ from Z144.eq x.1 x.2).trans (V.cfl (by kernel_rfl) h))
noncomputable abbrev Z12.con : V.Con := ⟨(.cons (.sl (.cons (.int .i64) .nil)) .nil), (.cons (.int .i64) .nil), fun (x : List Int) => Z12 x, [], [(false, 1)], [(false, 1)], [false], []⟩
noncomputable abbrev Z12.E : V.Env := V.mkE V.tys [(364, Z144.con)] [(6, [3, 6, 7, 8], [])] [] [] [] []
noncomputable abbrev Z12.kt (x0 : List Int) : V.Kt Int := V.ktOf Z12.E Z12.con Tryz.f262 ((x0) : List Int)
noncomputable abbrev Z12.s6 (x0 : List Int) (v6_0 : Int) (v6_2 : Int) (v6_3 : Int) : V.St := ⟨[(3, .v false [.val (.int .i64 v6_0)]), (6, .v false [.val (.sl (.cons (.int .i64) .nil) x0)]), (7, .v false [.val (.int .i64 v6_2)]), (8, .v false [.val (.int .i64 v6_3)])], []⟩
theorem Z12.r6 (x0 : List Int) (R : V.St → Option Int) (v6_0 : Int) (v6_2 : Int) (v6_3 : Int) : V.loopF Z12.E Tryz.f262.ntmps [1, 1, 0, 1, 0] [] (V.codeOf Tryz.f262) (Z12.kt x0) R (Z12.s6 x0 v6_0 v6_2 v6_3) = Z12.g6 x0 (fun v6_0 v6_2 v6_3 => R (Z12.s6 x0 v6_0 v6_2 v6_3)) v6_0 v6_2 v6_3 := by kernel_rfl
theorem Z12.e6 (x0 : List Int) : ∀ (n : Nat) (v6_0 : Int) (v6_2 : Int) (v6_3 : Int), V.loopN (V.loopF Z12.E Tryz.f262.ntmps [1, 1, 0, 1, 0] [] (V.codeOf Tryz.f262) (Z12.kt x0)) n (Z12.s6 x0 v6_0 v6_2 v6_3) = Z12.l6 x0 n v6_0 v6_2 v6_3 := by
  intro n
  induction n with
  | zero => intros; rw [V.loopN_z]; rfl
  | succ n ih =>
    intro v6_0 v6_2 v6_3
    rw [V.loopN_s, Z12.r6]
    simp only [ih]
    first | exact (Z12.u6 ..).symm | rfl
theorem Z12.v (x0 : List Int) : V.evBody Z12.E Z12.con Tryz.f262 ((x0) : List Int) = Z12.b x0 (fun v6_0 v6_2 v6_3 => V.loopN (V.loopF Z12.E Tryz.f262.ntmps [1, 1, 0, 1, 0] [] (V.codeOf Tryz.f262) (Z12.kt x0)) V.KK (Z12.s6 x0 v6_0 v6_2 v6_3)) := by kernel_rfl
theorem Z12.eq (x0 : List Int) : V.evBody Z12.E Z12.con Tryz.f262 ((x0) : List Int) = Z12 x0 := by
  rw [Z12.v]
  simp only [Z12.e6]
  rfl
theorem Z12.ok : V.Valid Tryz.prog 262 Z12.con :=
  V.fo (V.tab_cons Z144.ok V.tab_nil) Tryz.func262 (by kernel_rfl) (fun x y h => (show V.evBody Z12.E Z12.con Tryz.f262 x = _ from Z12.eq x).trans (V.cfl (by kernel_rfl) h))
noncomputable abbrev Z172.con : V.Con := ⟨(.cons (.sl (.cons (.int .i64) .nil)) (.cons (.int .i64) (.cons (.int .i64) .nil))), (.cons (.int .i64) .nil), fun (x : List Int × Int × Int) => Z172 (x.1, x.2.1) x.2.2, [], [(true, 2), (false, 1)], [(false, 1)], [false], []⟩
noncomputable abbrev Z172.E : V.Env := V.mkE V.tys [(262, Z12.con), (263, Z115.con)] [] [] [] [] []
theorem Z172.eq (x0 : TKeys) (x1 : Int) : V.evBody Z172.E Z172.con Tryz.f109 ((x0.1, x0.2, x1) : List Int × Int × Int) = Z172 x0 x1 := by kernel_rfl
theorem Z172.ok : V.Valid Tryz.prog 109 Z172.con :=
  V.fo (V.tab_cons Z12.ok (V.tab_cons Z115.ok V.tab_nil)) Tryz.func109 (by kernel_rfl) (fun x y h => (show V.evBody Z172.E Z172.con Tryz.f109 x = _ from Z172.eq (x.1, x.2.1) x.2.2).trans (V.cfl (by kernel_rfl) h))
noncomputable abbrev Z152.con : V.Con := ⟨(.cons .bool .nil), (.cons (.int .i64) .nil), fun (x : Bool) => Z152 x, [], [(false, 1)], [(false, 1)], [false], []⟩
noncomputable abbrev Z152.E : V.Env := V.mkE V.tys [] [] [] [] [] []
theorem Z152.eq (x0 : Bool) : V.evBody Z152.E Z152.con Tryz.f322 ((x0) : Bool) = Z152 x0 := by kernel_rfl
theorem Z152.ok : V.Valid Tryz.prog 322 Z152.con :=
  V.fo V.tab_nil Tryz.func322 (by kernel_rfl) (fun x y h => (show V.evBody Z152.E Z152.con Tryz.f322 x = _ from Z152.eq x).trans (V.cfl (by kernel_rfl) h))
noncomputable abbrev Z77.con : V.Con := ⟨(.cons (.sl (.cons (.int .i64) .nil)) (.cons (.int .i64) .nil)), (.cons (.sl (.cons (.int .i64) .nil)) .nil), fun (x : List Int × Int) => Z77 x.1 x.2, [], [(false, 1), (false, 1)], [(false, 1)], [true], [0]⟩
noncomputable abbrev Z77.E : V.Env := V.mkE V.tys [] [(7, [0, 1], [])] [] [] [] []
noncomputable abbrev Z77.kt (x0 : List Int) (x1 : Int) : V.Kt (List Int) := V.ktOf Z77.E Z77.con Tryz.f400 ((x0, x1) : List Int × Int)
noncomputable abbrev Z77.s7 (x1 : Int) : V.St := ⟨[(0, .v false [.nil0]), (1, .v false [.val (.int .i64 x1)])], []⟩
theorem Z77.r7 (x0 : List Int) (x1 : Int) : V.joinF Z77.E Tryz.f400.ntmps [1] [] (V.codeOf Tryz.f400) (Z77.kt x0 x1) (Z77.s7 x1) = Z77.g7 x1 := by kernel_rfl
theorem Z77.e7 (x0 : List Int) (x1 : Int) : V.jn (V.joinF Z77.E Tryz.f400.ntmps [1] [] (V.codeOf Tryz.f400) (Z77.kt x0 x1)) (Z77.s7 x1) = Z77.l7 x1 := by
  rw [V.jn_eq, Z77.r7]
  rfl
theorem Z77.v (x0 : List Int) (x1 : Int) : V.evBody Z77.E Z77.con Tryz.f400 ((x0, x1) : List Int × Int) = Z77.b x0 x1 (V.jn (V.joinF Z77.E Tryz.f400.ntmps [1] [] (V.codeOf Tryz.f400) (Z77.kt x0 x1)) (Z77.s7 x1)) := by kernel_rfl
theorem Z77.eq (x0 : List Int) (x1 : Int) : V.evBody Z77.E Z77.con Tryz.f400 ((x0, x1) : List Int × Int) = Z77 x0 x1 := by
  rw [Z77.v]
  simp only [Z77.e7]
  rfl
theorem Z77.ok : V.Valid Tryz.prog 400 Z77.con :=
  V.fo V.tab_nil Tryz.func400 (by kernel_rfl) (fun x y h => (show V.evBody Z77.E Z77.con Tryz.f400 x = _ from Z77.eq x.1 x.2).trans (V.cfl (by kernel_rfl) h))
noncomputable abbrev Z4.con : V.Con := ⟨(.cons (.sl (.cons (.sl (.cons (.int .i64) .nil)) .nil)) .nil), (.cons (.sl (.cons (.int .i64) .nil)) .nil), fun (x : List (List Int)) => Z4 x, [], [(false, 1)], [(false, 1)], [true], []⟩
noncomputable abbrev Z4.E : V.Env := V.mkE V.tys [(400, Z77.con)] [(6, [0, 3, 9, 10, 11], []), (22, [6, 25, 26, 27], [])] [] [] [] []
noncomputable abbrev Z4.kt (x0 : List (List Int)) : V.Kt (List Int) := V.ktOf Z4.E Z4.con Tryz.f321 ((x0) : List (List Int))
noncomputable abbrev Z4.s22 (x0 : List (List Int)) (v22_1 : Int) (v22_2 : Int) (v22_3 : List Int) : V.St := ⟨[(6, .v false [.ref 64000140800384]), (25, .v false [.val (.sl (.cons (.sl (.cons (.int .i64) .nil)) .nil) x0)]), (26, .v false [.val (.int .i64 v22_1)]), (27, .v false [.val (.int .i64 v22_2)])], [(64000140800384, .row (.cons (.int .i64) .nil) true v22_3)]⟩
noncomputable abbrev Z4.s6 (x0 : List (List Int)) (v6_1 : Int) (v6_3 : Int) (v6_4 : Int) : V.St := ⟨[(0, .v false [.val (.sl (.cons (.sl (.cons (.int .i64) .nil)) .nil) x0)]), (3, .v false [.val (.int .i64 v6_1)]), (9, .v false [.val (.sl (.cons (.sl (.cons (.int .i64) .nil)) .nil) x0)]), (10, .v false [.val (.int .i64 v6_3)]), (11, .v false [.val (.int .i64 v6_4)])], []⟩
theorem Z4.r22 (x0 : List (List Int)) (R : V.St → Option (List Int)) (v22_1 : Int) (v22_2 : Int) (v22_3 : List Int) : V.loopF Z4.E Tryz.f321.ntmps [1, 1, 1, 1, 0, 1, 0] [] (V.codeOf Tryz.f321) (Z4.kt x0) R (Z4.s22 x0 v22_1 v22_2 v22_3) = Z4.g22 x0 (fun v22_1 v22_2 v22_3 => R (Z4.s22 x0 v22_1 v22_2 v22_3)) v22_1 v22_2 v22_3 := by kernel_rfl
theorem Z4.e22 (x0 : List (List Int)) : ∀ (n : Nat) (v22_1 : Int) (v22_2 : Int) (v22_3 : List Int), V.loopN (V.loopF Z4.E Tryz.f321.ntmps [1, 1, 1, 1, 0, 1, 0] [] (V.codeOf Tryz.f321) (Z4.kt x0)) n (Z4.s22 x0 v22_1 v22_2 v22_3) = Z4.l22 x0 n v22_1 v22_2 v22_3 := by
  intro n
  induction n with
  | zero => intros; rw [V.loopN_z]; rfl
  | succ n ih =>
    intro v22_1 v22_2 v22_3
    rw [V.loopN_s, Z4.r22]
    simp only [ih]
    first | exact (Z4.u22 ..).symm | rfl
theorem Z4.r6 (x0 : List (List Int)) (R : V.St → Option (List Int)) (v6_1 : Int) (v6_3 : Int) (v6_4 : Int) : V.loopF Z4.E Tryz.f321.ntmps [1, 1, 0, 1, 0] [] (V.codeOf Tryz.f321) (Z4.kt x0) R (Z4.s6 x0 v6_1 v6_3 v6_4) = Z4.g6 x0 (fun v6_1 v6_3 v6_4 => R (Z4.s6 x0 v6_1 v6_3 v6_4)) (fun v22_1 v22_2 v22_3 => V.loopN (V.loopF Z4.E Tryz.f321.ntmps [1, 1, 1, 1, 0, 1, 0] [] (V.codeOf Tryz.f321) (Z4.kt x0)) V.KK (Z4.s22 x0 v22_1 v22_2 v22_3)) v6_1 v6_3 v6_4 := by kernel_rfl
theorem Z4.e6 (x0 : List (List Int)) : ∀ (n : Nat) (v6_1 : Int) (v6_3 : Int) (v6_4 : Int), V.loopN (V.loopF Z4.E Tryz.f321.ntmps [1, 1, 0, 1, 0] [] (V.codeOf Tryz.f321) (Z4.kt x0)) n (Z4.s6 x0 v6_1 v6_3 v6_4) = Z4.l6 x0 n v6_1 v6_3 v6_4 := by
  intro n
  induction n with
  | zero => intros; rw [V.loopN_z]; rfl
  | succ n ih =>
    intro v6_1 v6_3 v6_4
    rw [V.loopN_s, Z4.r6]
    simp only [Z4.e22, ih]
    first | exact (Z4.u6 ..).symm | rfl
theorem Z4.v (x0 : List (List Int)) : V.evBody Z4.E Z4.con Tryz.f321 ((x0) : List (List Int)) = Z4.b x0 (fun v6_1 v6_3 v6_4 => V.loopN (V.loopF Z4.E Tryz.f321.ntmps [1, 1, 0, 1, 0] [] (V.codeOf Tryz.f321) (Z4.kt x0)) V.KK (Z4.s6 x0 v6_1 v6_3 v6_4)) := by kernel_rfl
theorem Z4.eq (x0 : List (List Int)) : V.evBody Z4.E Z4.con Tryz.f321 ((x0) : List (List Int)) = Z4 x0 := by
  rw [Z4.v]
  simp only [Z4.e6]
  rfl
theorem Z4.ok : V.Valid Tryz.prog 321 Z4.con :=
  V.fo (V.tab_cons Z77.ok V.tab_nil) Tryz.func321 (by kernel_rfl) (fun x y h => (show V.evBody Z4.E Z4.con Tryz.f321 x = _ from Z4.eq x).trans (V.cfl (by kernel_rfl) h))
noncomputable abbrev Z86.con : V.Con := ⟨V.A2, (.cons (.sl (.cons (.int .i64) .nil)) .nil), fun (x : V.D2) => Z86 (V.p2_0 x), [], [(true, 16)], [(false, 1)], [true], []⟩
noncomputable abbrev Z86.E : V.Env := V.mkE V.tys [(263, Z115.con), (321, Z4.con), (322, Z152.con)] [] [(1, 33)] [] [] []
noncomputable abbrev Z86.kt (x0 : THead) : V.Kt (List Int) := V.ktOf Z86.E Z86.con Tryz.f188 (V.fl2 x0)
noncomputable abbrev Z86.s (x0 : THead) : V.St := ⟨[(0, .v true (V.lsHead x0))], []⟩
theorem Z86.v0 (x0 : THead) : V.evBody Z86.E Z86.con Tryz.f188 (V.fl2 x0) = V.evC Z86.E Tryz.f188.ntmps (V.codeOf Tryz.f188) (Z86.kt x0) (Z86.s x0) := by kernel_rfl
theorem Z86.v (x0 : THead) : V.evC Z86.E Tryz.f188.ntmps (V.codeOf Tryz.f188) (Z86.kt x0) (Z86.s x0) = Z86 x0 := by kernel_rfl
theorem Z86.eq (x0 : THead) : V.evBody Z86.E Z86.con Tryz.f188 (V.fl2 x0) = Z86 x0 := (Z86.v0 x0).trans (Z86.v x0)
theorem Z86.ok : V.Valid Tryz.prog 188 Z86.con :=
  V.fo (V.tab_cons Z115.ok (V.tab_cons Z4.ok (V.tab_cons Z152.ok V.tab_nil))) Tryz.func188 (by kernel_rfl) (fun x y h => (show V.evBody Z86.E Z86.con Tryz.f188 x = _ from Z86.eq (V.p2_0 x)).trans (V.cfl (by kernel_rfl) h))
noncomputable abbrev Z166.con : V.Con := ⟨(.cons (.int .i64) (.cons (.sl (.cons (.int .i64) .nil)) .nil)), (.cons (.int .i64) .nil), fun (x : Int × List Int) => Z166 x.1 x.2, [], [(false, 1), (false, 1)], [(false, 1)], [false], []⟩
noncomputable abbrev Z166.E : V.Env := V.mkE V.tys [(262, Z12.con), (321, Z4.con)] [] [] [128320] [] []
theorem Z166.eq (x0 : Int) (x1 : List Int) : V.evBody Z166.E Z166.con Tryz.f327 ((x0, x1) : Int × List Int) = Z166 x0 x1 := by kernel_rfl
theorem Z166.ok : V.Valid Tryz.prog 327 Z166.con :=
  V.fo (V.tab_cons Z12.ok (V.tab_cons Z4.ok V.tab_nil)) Tryz.func327 (by kernel_rfl) (fun x y h => (show V.evBody Z166.E Z166.con Tryz.f327 x = _ from Z166.eq x.1 x.2).trans (V.cfl (by kernel_rfl) h))
noncomputable abbrev Z170.con : V.Con := ⟨(.cons (.int .i64) (.cons (.sl (.cons (.int .i64) .nil)) .nil)), (.cons (.int .i64) .nil), fun (x : Int × List Int) => Z170 x.1 x.2, [], [(false, 1), (false, 1)], [(false, 1)], [false], []⟩
noncomputable abbrev Z170.E : V.Env := V.mkE V.tys [(327, Z166.con)] [] [] [] [] []
theorem Z170.eq (x0 : Int) (x1 : List Int) : V.evBody Z170.E Z170.con Tryz.f197 ((x0, x1) : Int × List Int) = Z170 x0 x1 := by kernel_rfl
theorem Z170.ok : V.Valid Tryz.prog 197 Z170.con :=
  V.fo (V.tab_cons Z166.ok V.tab_nil) Tryz.func197 (by kernel_rfl) (fun x y h => (show V.evBody Z170.E Z170.con Tryz.f197 x = _ from Z170.eq x.1 x.2).trans (V.cfl (by kernel_rfl) h))
noncomputable abbrev Z164.con : V.Con := ⟨(.cons (.int .i64) (.cons (.int .i64) (.cons (.sl (.cons (.int .i64) .nil)) .nil))), (.cons .bool .nil), fun (x : Int × Int × List Int) => Z164 (x.1, x.2.1) x.2.2, [], [(true, 2), (false, 1)], [(false, 1)], [false], []⟩
noncomputable abbrev Z164.E : V.Env := V.mkE V.tys [(197, Z170.con), (207, Z128.con)] [] [(1, 10)] [] [] []
theorem Z164.eq (x0 : TSig) (x1 : List Int) : V.evBody Z164.E Z164.con Tryz.f270 ((x0.1, x0.2, x1) : Int × Int × List Int) = Z164 x0 x1 := by kernel_rfl
theorem Z164.ok : V.Valid Tryz.prog 270 Z164.con :=
  V.fo (V.tab_cons Z170.ok (V.tab_cons Z128.ok V.tab_nil)) Tryz.func270 (by kernel_rfl) (fun x y h => (show V.evBody Z164.E Z164.con Tryz.f270 x = _ from Z164.eq (x.1, x.2.1) x.2.2).trans (V.cfl (by kernel_rfl) h))
noncomputable abbrev Z197.con : V.Con := ⟨(.cons (.int .i64) (.cons (.int .i64) (.cons (.ptr (.cons (.int .i64) .nil)) (.cons (.ptr (.cons (.sl (.cons (.int .i64) .nil)) .nil)) .nil)))), (.cons .bool .nil), fun (x : Int × Int × Int × List Int) => Z197 (x.1, x.2.1) x.2.2.1 x.2.2.2, [], [(true, 2), (false, 1), (false, 1)], [(false, 1)], [false], []⟩
noncomputable abbrev Z197.E : V.Env := V.mkE V.tys [(270, Z164.con)] [] [] [] [] []
theorem Z197.eq (x0 : TSig) (x1 : Int) (x2 : List Int) : V.evBody Z197.E Z197.con Tryz.f335 ((x0.1, x0.2, x1, x2) : Int × Int × Int × List Int) = Z197 x0 x1 x2 := by kernel_rfl
theorem Z197.ok : V.Valid Tryz.prog 335 Z197.con :=
  V.fo (V.tab_cons Z164.ok V.tab_nil) Tryz.func335 (by kernel_rfl) (fun x y h => (show V.evBody Z197.E Z197.con Tryz.f335 x = _ from Z197.eq (x.1, x.2.1) x.2.2.1 x.2.2.2).trans (V.cfl (by kernel_rfl) h))
noncomputable abbrev Z29.con : V.Con := ⟨(.cons (.sl (.cons (.int .i64) (.cons (.int .i64) .nil))) (.cons (.fn 335 false .nil (.cons (.ptr (.cons (.int .i64) .nil)) (.cons (.ptr (.cons (.sl (.cons (.int .i64) .nil)) .nil)) .nil))) .nil)), (.cons (.int .i64) .nil), fun (x : List TSig × (Unit) × (Int × List Int)) => Z29 x.1 x.2, [], [(false, 1), (false, 1)], [(false, 1)], [false], []⟩
noncomputable abbrev Z29.E : V.Env := V.mkE V.tys [(335, Z197.con)] [(4, [0, 1, 7, 8], [])] [] [] [] []
noncomputable abbrev Z29.kt (x0 : List TSig) (x1 : (Unit) × (Int × List Int)) : V.Kt Int := V.ktOf Z29.E Z29.con Tryz.f402 ((x0, x1) : List TSig × (Unit) × (Int × List Int))
noncomputable abbrev Z29.s4 (x0 : List TSig) (x1 : (Unit) × (Int × List Int)) (v4_2 : Int) (v4_3 : Int) : V.St := ⟨[(0, .v false [.val (.sl (.cons (.int .i64) (.cons (.int .i64) .nil)) x0)]), (1, .v false [.val (.fn 335 false .nil (.cons (.ptr (.cons (.int .i64) .nil)) (.cons (.ptr (.cons (.sl (.cons (.int .i64) .nil)) .nil)) .nil)) () x1.2)]), (7, .v false [.val (.int .i64 v4_2)]), (8, .v false [.val (.int .i64 v4_3)])], []⟩
theorem Z29.r4 (x0 : List TSig) (x1 : (Unit) × (Int × List Int)) (R : V.St → Option Int) (v4_2 : Int) (v4_3 : Int) : V.loopF Z29.E Tryz.f402.ntmps [1, 0, 1, 0] [] (V.codeOf Tryz.f402) (Z29.kt x0 x1) R (Z29.s4 x0 x1 v4_2 v4_3) = Z29.g4 x0 x1 (fun v4_2 v4_3 => R (Z29.s4 x0 x1 v4_2 v4_3)) v4_2 v4_3 := by kernel_rfl
theorem Z29.e4 (x0 : List TSig) (x1 : (Unit) × (Int × List Int)) : ∀ (n : Nat) (v4_2 : Int) (v4_3 : Int), V.loopN (V.loopF Z29.E Tryz.f402.ntmps [1, 0, 1, 0] [] (V.codeOf Tryz.f402) (Z29.kt x0 x1)) n (Z29.s4 x0 x1 v4_2 v4_3) = Z29.l4 x0 x1 n v4_2 v4_3 := by
  intro n
  induction n with
  | zero => intros; rw [V.loopN_z]; rfl
  | succ n ih =>
    intro v4_2 v4_3
    rw [V.loopN_s, Z29.r4]
    simp only [ih]
    first | exact (Z29.u4 ..).symm | rfl
theorem Z29.v (x0 : List TSig) (x1 : (Unit) × (Int × List Int)) : V.evBody Z29.E Z29.con Tryz.f402 ((x0, x1) : List TSig × (Unit) × (Int × List Int)) = Z29.b x0 x1 (fun v4_2 v4_3 => V.loopN (V.loopF Z29.E Tryz.f402.ntmps [1, 0, 1, 0] [] (V.codeOf Tryz.f402) (Z29.kt x0 x1)) V.KK (Z29.s4 x0 x1 v4_2 v4_3)) := by kernel_rfl
theorem Z29.eq (x0 : List TSig) (x1 : (Unit) × (Int × List Int)) : V.evBody Z29.E Z29.con Tryz.f402 ((x0, x1) : List TSig × (Unit) × (Int × List Int)) = Z29 x0 x1 := by
  rw [Z29.v]
  simp only [Z29.e4]
  rfl
theorem Z29.ok : V.Valid Tryz.prog 402 Z29.con :=
  V.fo (V.tab_cons Z197.ok V.tab_nil) Tryz.func402 (by kernel_rfl) (fun x y h => (show V.evBody Z29.E Z29.con Tryz.f402 x = _ from Z29.eq x.1 x.2).trans (V.cfl (by kernel_rfl) h))
noncomputable abbrev Z183.con : V.Con := ⟨(.cons (.sl (.cons (.int .i64) (.cons (.int .i64) .nil))) (.cons (.fn 335 false .nil (.cons (.ptr (.cons (.int .i64) .nil)) (.cons (.ptr (.cons (.sl (.cons (.int .i64) .nil)) .nil)) .nil))) .nil)), (.cons .bool .nil), fun (x : List TSig × (Unit) × (Int × List Int)) => Z183 x.1 x.2, [], [(false, 1), (false, 1)], [(false, 1)], [false], []⟩
noncomputable abbrev Z183.E : V.Env := V.mkE V.tys [(402, Z29.con)] [] [] [] [] []
theorem Z183.eq (x0 : List TSig) (x1 : (Unit) × (Int × List Int)) : V.evBody Z183.E Z183.con Tryz.f334 ((x0, x1) : List TSig × (Unit) × (Int × List Int)) = Z183 x0 x1 := by kernel_rfl
theorem Z183.ok : V.Valid Tryz.prog 334 Z183.con :=
  V.fo (V.tab_cons Z29.ok V.tab_nil) Tryz.func334 (by kernel_rfl) (fun x y h => (show V.evBody Z183.E Z183.con Tryz.f334 x = _ from Z183.eq x.1 x.2).trans (V.cfl (by kernel_rfl) h))
noncomputable abbrev Z35.con : V.Con := ⟨(.cons (.sl (.cons (.int .i64) .nil)) (.cons (.int .i64) (.cons (.sl (.cons (.int .i64) .nil)) (.cons (.sl (.cons (.int .i64) (.cons (.int .i64) .nil))) .nil)))), (.cons (.int .i64) .nil), fun (x : List Int × Int × List Int × List TSig) => Z35 (x.1, x.2.1) x.2.2.1 x.2.2.2, [], [(true, 2), (false, 1), (false, 1)], [(false, 1)], [false], []⟩
noncomputable abbrev Z35.E : V.Env := V.mkE V.tys [(334, Z183.con)] [(6, [2, 4, 7, 11, 12, 13], [])] [] [] [] []
noncomputable abbrev Z35.kt (x0 : TKeys) (x1 : List Int) (x2 : List TSig) : V.Kt Int := V.ktOf Z35.E Z35.con Tryz.f212 ((x0.1, x0.2, x1, x2) : List Int × Int × List Int × List TSig)
noncomputable abbrev Z35.s6 (x0 : TKeys) (x1 : List Int) (x2 : List TSig) (v6_1 : Int) (v6_3 : Int) (v6_4 : Int) : V.St := ⟨[(2, .v false [.val (.sl (.cons (.int .i64) (.cons (.int .i64) .nil)) x2)]), (4, .v false [.ptr 64064 0]), (7, .v false [.val (.int .i64 v6_1)]), (11, .v false [.val (.sl (.cons (.int .i64) .nil) x0.1)]), (12, .v false [.val (.int .i64 v6_3)]), (13, .v false [.val (.int .i64 v6_4)])], [(64064, .box [.val (.sl (.cons (.int .i64) .nil) x1)])]⟩
theorem Z35.r6 (x0 : TKeys) (x1 : List Int) (x2 : List TSig) (R : V.St → Option Int) (v6_1 : Int) (v6_3 : Int) (v6_4 : Int) : V.loopF Z35.E Tryz.f212.ntmps [1, 1, 0, 1, 0] [] (V.codeOf Tryz.f212) (Z35.kt x0 x1 x2) R (Z35.s6 x0 x1 x2 v6_1 v6_3 v6_4) = Z35.g6 x0 x1 x2 (fun v6_1 v6_3 v6_4 => R (Z35.s6 x0 x1 x2 v6_1 v6_3 v6_4)) v6_1 v6_3 v6_4 := by kernel_rfl
theorem Z35.e6 (x0 : TKeys) (x1 : List Int) (x2 : List TSig) : ∀ (n : Nat) (v6_1 : Int) (v6_3 : Int) (v6_4 : Int), V.loopN (V.loopF Z35.E Tryz.f212.ntmps [1, 1, 0, 1, 0] [] (V.codeOf Tryz.f212) (Z35.kt x0 x1 x2)) n (Z35.s6 x0 x1 x2 v6_1 v6_3 v6_4) = Z35.l6 x0 x1 x2 n v6_1 v6_3 v6_4 := by
  intro n
  induction n with
  | zero => intros; rw [V.loopN_z]; rfl
  | succ n ih =>
    intro v6_1 v6_3 v6_4
    rw [V.loopN_s, Z35.r6]
    simp only [ih]
    first | exact (Z35.u6 ..).symm | rfl
theorem Z35.v (x0 : TKeys) (x1 : List Int) (x2 : List TSig) : V.evBody Z35.E Z35.con Tryz.f212 ((x0.1, x0.2, x1, x2) : List Int × Int × List Int × List TSig) = Z35.b x0 x1 x2 (fun v6_1 v6_3 v6_4 => V.loopN (V.loopF Z35.E Tryz.f212.ntmps [1, 1, 0, 1, 0] [] (V.codeOf Tryz.f212) (Z35.kt x0 x1 x2)) V.KK (Z35.s6 x0 x1 x2 v6_1 v6_3 v6_4)) := by kernel_rfl
theorem Z35.eq (x0 : TKeys) (x1 : List Int) (x2 : List TSig) : V.evBody Z35.E Z35.con Tryz.f212 ((x0.1, x0.2, x1, x2) : List Int × Int × List Int × List TSig) = Z35 x0 x1 x2 := by
  rw [Z35.v]
  simp only [Z35.e6]
  rfl
theorem Z35.ok : V.Valid Tryz.prog 212 Z35.con :=
  V.fo (V.tab_cons Z183.ok V.tab_nil) Tryz.func212 (by kernel_rfl) (fun x y h => (show V.evBody Z35.E Z35.con Tryz.f212 x = _ from Z35.eq (x.1, x.2.1) x.2.2.1 x.2.2.2).trans (V.cfl (by kernel_rfl) h))
noncomputable abbrev Z165.con : V.Con := ⟨(.cons (.sl (.cons (.int .i64) .nil)) (.cons (.int .i64) (.cons (.sl (.cons (.int .i64) .nil)) (.cons (.sl (.cons (.int .i64) (.cons (.int .i64) .nil))) .nil)))), (.cons .bool .nil), fun (x : List Int × Int × List Int × List TSig) => Z165 (x.1, x.2.1) x.2.2.1 x.2.2.2, [], [(true, 2), (false, 1), (false, 1)], [(false, 1)], [false], []⟩
noncomputable abbrev Z165.E : V.Env := V.mkE V.tys [(208, Z118.con), (212, Z35.con)] [] [(1, 9)] [] [] []
theorem Z165.eq (x0 : TKeys) (x1 : List Int) (x2 : List TSig) : V.evBody Z165.E Z165.con Tryz.f399 ((x0.1, x0.2, x1, x2) : List Int × Int × List Int × List TSig) = Z165 x0 x1 x2 := by kernel_rfl
theorem Z165.ok : V.Valid Tryz.prog 399 Z165.con :=
  V.fo (V.tab_cons Z118.ok (V.tab_cons Z35.ok V.tab_nil)) Tryz.func399 (by kernel_rfl) (fun x y h => (show V.evBody Z165.E Z165.con Tryz.f399 x = _ from Z165.eq (x.1, x.2.1) x.2.2.1 x.2.2.2).trans (V.cfl (by kernel_rfl) h))
noncomputable abbrev Z82.con : V.Con := ⟨V.A6, (.cons .bool .nil), fun (x : V.D6) => Z82 (V.p6_0 x) (V.p6_1 x), [], [(true, 17), (true, 2)], [(false, 1)], [false], []⟩
noncomputable abbrev Z82.E : V.Env := V.mkE V.tys [(188, Z86.con), (399, Z165.con)] [] [(1, 6)] [] [] []
noncomputable abbrev Z82.kt (x0 : TSigned) (x1 : TKeys) : V.Kt Bool := V.ktOf Z82.E Z82.con Tryz.f317 (V.fl6 x0 x1)
noncomputable abbrev Z82.s (x0 : TSigned) (x1 : TKeys) : V.St := ⟨[(0, .v true (V.lsSigned x0)), (1, .v true [.val (.sl (.cons (.int .i64) .nil) x1.1), .val (.int .i64 x1.2)])], []⟩
theorem Z82.v0 (x0 : TSigned) (x1 : TKeys) : V.evBody Z82.E Z82.con Tryz.f317 (V.fl6 x0 x1) = V.evC Z82.E Tryz.f317.ntmps (V.codeOf Tryz.f317) (Z82.kt x0 x1) (Z82.s x0 x1) := by kernel_rfl
theorem Z82.v (x0 : TSigned) (x1 : TKeys) : V.evC Z82.E Tryz.f317.ntmps (V.codeOf Tryz.f317) (Z82.kt x0 x1) (Z82.s x0 x1) = Z82 x0 x1 := by kernel_rfl
theorem Z82.eq (x0 : TSigned) (x1 : TKeys) : V.evBody Z82.E Z82.con Tryz.f317 (V.fl6 x0 x1) = Z82 x0 x1 := (Z82.v0 x0 x1).trans (Z82.v x0 x1)
theorem Z82.ok : V.Valid Tryz.prog 317 Z82.con :=
  V.fo (V.tab_cons Z86.ok (V.tab_cons Z165.ok V.tab_nil)) Tryz.func317 (by kernel_rfl) (fun x y h => (show V.evBody Z82.E Z82.con Tryz.f317 x = _ from Z82.eq (V.p6_0 x) (V.p6_1 x)).trans (V.cfl (by kernel_rfl) h))
noncomputable abbrev Z97.con : V.Con := ⟨V.A3, (.cons .bool .nil), fun (x : V.D3) => Z97 (V.p3_0 x), [], [(true, 17)], [(false, 1)], [false], []⟩
noncomputable abbrev Z97.E : V.Env := V.mkE V.tys [(109, Z172.con), (306, Z84.con), (317, Z82.con)] [] [(2, 31)] [] [] []
noncomputable abbrev Z97.kt (x0 : TSigned) : V.Kt Bool := V.ktOf Z97.E Z97.con Tryz.f180 (V.fl3 x0)
noncomputable abbrev Z97.s (x0 : TSigned) : V.St := ⟨[(0, .v true (V.lsSigned x0))], []⟩
theorem Z97.v0 (x0 : TSigned) : V.evBody Z97.E Z97.con Tryz.f180 (V.fl3 x0) = V.evC Z97.E Tryz.f180.ntmps (V.codeOf Tryz.f180) (Z97.kt x0) (Z97.s x0) := by kernel_rfl
theorem Z97.v (x0 : TSigned) : V.evC Z97.E Tryz.f180.ntmps (V.codeOf Tryz.f180) (Z97.kt x0) (Z97.s x0) = Z97 x0 := by kernel_rfl
theorem Z97.eq (x0 : TSigned) : V.evBody Z97.E Z97.con Tryz.f180 (V.fl3 x0) = Z97 x0 := (Z97.v0 x0).trans (Z97.v x0)
theorem Z97.ok : V.Valid Tryz.prog 180 Z97.con :=
  V.fo (V.tab_cons Z172.ok (V.tab_cons Z84.ok (V.tab_cons Z82.ok V.tab_nil))) Tryz.func180 (by kernel_rfl) (fun x y h => (show V.evBody Z97.E Z97.con Tryz.f180 x = _ from Z97.eq (V.p3_0 x)).trans (V.cfl (by kernel_rfl) h))
noncomputable abbrev Z96.con : V.Con := ⟨V.A2, (.cons (.int .i64) .nil), fun (x : V.D2) => Z96 (V.p2_0 x), [], [(true, 16)], [(false, 1)], [false], []⟩
noncomputable abbrev Z96.E : V.Env := V.mkE V.tys [(188, Z86.con), (262, Z12.con)] [] [] [] [] []
noncomputable abbrev Z96.kt (x0 : THead) : V.Kt Int := V.ktOf Z96.E Z96.con Tryz.f215 (V.fl2 x0)
noncomputable abbrev Z96.s (x0 : THead) : V.St := ⟨[(0, .v true (V.lsHead x0))], []⟩
theorem Z96.v0 (x0 : THead) : V.evBody Z96.E Z96.con Tryz.f215 (V.fl2 x0) = V.evC Z96.E Tryz.f215.ntmps (V.codeOf Tryz.f215) (Z96.kt x0) (Z96.s x0) := by kernel_rfl
theorem Z96.v (x0 : THead) : V.evC Z96.E Tryz.f215.ntmps (V.codeOf Tryz.f215) (Z96.kt x0) (Z96.s x0) = Z96 x0 := by kernel_rfl
theorem Z96.eq (x0 : THead) : V.evBody Z96.E Z96.con Tryz.f215 (V.fl2 x0) = Z96 x0 := (Z96.v0 x0).trans (Z96.v x0)
theorem Z96.ok : V.Valid Tryz.prog 215 Z96.con :=
  V.fo (V.tab_cons Z86.ok (V.tab_cons Z12.ok V.tab_nil)) Tryz.func215 (by kernel_rfl) (fun x y h => (show V.evBody Z96.E Z96.con Tryz.f215 x = _ from Z96.eq (V.p2_0 x)).trans (V.cfl (by kernel_rfl) h))
noncomputable abbrev Z100.con : V.Con := ⟨V.A4, (.cons .bool .nil), fun (x : V.D4) => Z100 (V.p4_0 x) (V.p4_1 x), [], [(true, 16), (true, 16)], [(false, 1)], [false], []⟩
noncomputable abbrev Z100.E : V.Env := V.mkE V.tys [(215, Z96.con)] [] [(1, 25)] [] [] []
noncomputable abbrev Z100.kt (x0 : THead) (x1 : THead) : V.Kt Bool := V.ktOf Z100.E Z100.con Tryz.f307 (V.fl4 x0 x1)
noncomputable abbrev Z100.s (x0 : THead) (x1 : THead) : V.St := ⟨[(0, .v true (V.lsHead x0)), (1, .v true (V.lsHead x1))], []⟩
theorem Z100.v0 (x0 : THead) (x1 : THead) : V.evBody Z100.E Z100.con Tryz.f307 (V.fl4 x0 x1) = V.evC Z100.E Tryz.f307.ntmps (V.codeOf Tryz.f307) (Z100.kt x0 x1) (Z100.s x0 x1) := by kernel_rfl
theorem Z100.v (x0 : THead) (x1 : THead) : V.evC Z100.E Tryz.f307.ntmps (V.codeOf Tryz.f307) (Z100.kt x0 x1) (Z100.s x0 x1) = Z100 x0 x1 := by kernel_rfl
theorem Z100.eq (x0 : THead) (x1 : THead) : V.evBody Z100.E Z100.con Tryz.f307 (V.fl4 x0 x1) = Z100 x0 x1 := (Z100.v0 x0 x1).trans (Z100.v x0 x1)
theorem Z100.ok : V.Valid Tryz.prog 307 Z100.con :=
  V.fo (V.tab_cons Z96.ok V.tab_nil) Tryz.func307 (by kernel_rfl) (fun x y h => (show V.evBody Z100.E Z100.con Tryz.f307 x = _ from Z100.eq (V.p4_0 x) (V.p4_1 x)).trans (V.cfl (by kernel_rfl) h))
noncomputable abbrev Z101.con : V.Con := ⟨V.A5, (.cons (.int .i64) .nil), fun (x : V.D5) => Z101 (V.p5_0 x) (V.p5_1 x), [], [(true, 16), (true, 17)], [(false, 1)], [false], []⟩
noncomputable abbrev Z101.E : V.Env := V.mkE V.tys [(317, Z82.con)] [] [] [] [] []
noncomputable abbrev Z101.kt (x0 : THead) (x1 : TSigned) : V.Kt Int := V.ktOf Z101.E Z101.con Tryz.f308 (V.fl5 x0 x1)
noncomputable abbrev Z101.s (x0 : THead) (x1 : TSigned) : V.St := ⟨[(0, .v true (V.lsHead x0)), (1, .v true (V.lsSigned x1))], []⟩
theorem Z101.v0 (x0 : THead) (x1 : TSigned) : V.evBody Z101.E Z101.con Tryz.f308 (V.fl5 x0 x1) = V.evC Z101.E Tryz.f308.ntmps (V.codeOf Tryz.f308) (Z101.kt x0 x1) (Z101.s x0 x1) := by kernel_rfl
theorem Z101.v (x0 : THead) (x1 : TSigned) : V.evC Z101.E Tryz.f308.ntmps (V.codeOf Tryz.f308) (Z101.kt x0 x1) (Z101.s x0 x1) = Z101 x0 x1 := by kernel_rfl
theorem Z101.eq (x0 : THead) (x1 : TSigned) : V.evBody Z101.E Z101.con Tryz.f308 (V.fl5 x0 x1) = Z101 x0 x1 := (Z101.v0 x0 x1).trans (Z101.v x0 x1)
theorem Z101.ok : V.Valid Tryz.prog 308 Z101.con :=
  V.fo (V.tab_cons Z82.ok V.tab_nil) Tryz.func308 (by kernel_rfl) (fun x y h => (show V.evBody Z101.E Z101.con Tryz.f308 x = _ from Z101.eq (V.p5_0 x) (V.p5_1 x)).trans (V.cfl (by kernel_rfl) h))
noncomputable abbrev Z24.con : V.Con := ⟨(.cons (.sl (.cons (.int .i64) .nil)) (.cons (.sl (.cons (.int .i64) .nil)) .nil)), (.cons .bool .nil), fun (x : List Int × List Int) => Z24 x.1 x.2, [], [(false, 1), (false, 1)], [(false, 1)], [false], []⟩
noncomputable abbrev Z24.E : V.Env := V.mkE V.tys [] [(8, [0, 1, 12, 13], [])] [(6, 8)] [] [] []
noncomputable abbrev Z24.kt (x0 : List Int) (x1 : List Int) : V.Kt Bool := V.ktOf Z24.E Z24.con Tryz.f187 ((x0, x1) : List Int × List Int)
noncomputable abbrev Z24.s8 (x0 : List Int) (x1 : List Int) (v8_2 : Int) (v8_3 : Int) : V.St := ⟨[(0, .v false [.val (.sl (.cons (.int .i64) .nil) x0)]), (1, .v false [.val (.sl (.cons (.int .i64) .nil) x1)]), (12, .v false [.val (.int .i64 v8_2)]), (13, .v false [.val (.int .i64 v8_3)])], []⟩
theorem Z24.r8 (x0 : List Int) (x1 : List Int) (R : V.St → Option Bool) (v8_2 : Int) (v8_3 : Int) : V.loopF Z24.E Tryz.f187.ntmps [1, 1, 0, 1, 0] [] (V.codeOf Tryz.f187) (Z24.kt x0 x1) R (Z24.s8 x0 x1 v8_2 v8_3) = Z24.g8 x0 x1 (fun v8_2 v8_3 => R (Z24.s8 x0 x1 v8_2 v8_3)) v8_2 v8_3 := by kernel_rfl
theorem Z24.e8 (x0 : List Int) (x1 : List Int) : ∀ (n : Nat) (v8_2 : Int) (v8_3 : Int), V.loopN (V.loopF Z24.E Tryz.f187.ntmps [1, 1, 0, 1, 0] [] (V.codeOf Tryz.f187) (Z24.kt x0 x1)) n (Z24.s8 x0 x1 v8_2 v8_3) = Z24.l8 x0 x1 n v8_2 v8_3 := by
  intro n
  induction n with
  | zero => intros; rw [V.loopN_z]; rfl
  | succ n ih =>
    intro v8_2 v8_3
    rw [V.loopN_s, Z24.r8]
    simp only [ih]
    first | exact (Z24.u8 ..).symm | rfl
theorem Z24.v (x0 : List Int) (x1 : List Int) : V.evBody Z24.E Z24.con Tryz.f187 ((x0, x1) : List Int × List Int) = Z24.b x0 x1 (fun v8_2 v8_3 => V.loopN (V.loopF Z24.E Tryz.f187.ntmps [1, 1, 0, 1, 0] [] (V.codeOf Tryz.f187) (Z24.kt x0 x1)) V.KK (Z24.s8 x0 x1 v8_2 v8_3)) := by kernel_rfl
theorem Z24.eq (x0 : List Int) (x1 : List Int) : V.evBody Z24.E Z24.con Tryz.f187 ((x0, x1) : List Int × List Int) = Z24 x0 x1 := by
  rw [Z24.v]
  simp only [Z24.e8]
  rfl
theorem Z24.ok : V.Valid Tryz.prog 187 Z24.con :=
  V.fo V.tab_nil Tryz.func187 (by kernel_rfl) (fun x y h => (show V.evBody Z24.E Z24.con Tryz.f187 x = _ from Z24.eq x.1 x.2).trans (V.cfl (by kernel_rfl) h))
noncomputable abbrev Z121.con : V.Con := ⟨(.cons (.sl (.cons (.int .i64) .nil)) (.cons (.int .i64) (.cons (.sl (.cons (.int .i64) .nil)) (.cons (.int .i64) .nil)))), (.cons .bool .nil), fun (x : List Int × Int × List Int × Int) => Z121 (x.1, x.2.1) x.2.2, [], [(true, 2), (true, 2)], [(false, 1)], [false], []⟩
noncomputable abbrev Z121.E : V.Env := V.mkE V.tys [(187, Z24.con)] [] [] [] [] []
theorem Z121.eq (x0 : TKeys) (x1 : TKeys) : V.evBody Z121.E Z121.con Tryz.f48 ((x0.1, x0.2, x1.1, x1.2) : List Int × Int × List Int × Int) = Z121 x0 x1 := by kernel_rfl
theorem Z121.ok : V.Valid Tryz.prog 48 Z121.con :=
  V.fo (V.tab_cons Z24.ok V.tab_nil) Tryz.func48 (by kernel_rfl) (fun x y h => (show V.evBody Z121.E Z121.con Tryz.f48 x = _ from Z121.eq (x.1, x.2.1) x.2.2).trans (V.cfl (by kernel_rfl) h))
noncomputable abbrev Z87.con : V.Con := ⟨V.A4, (.cons .bool .nil), fun (x : V.D4) => Z87 (V.p4_0 x) (V.p4_1 x), [], [(true, 16), (true, 16)], [(false, 1)], [false], []⟩
noncomputable abbrev Z87.E : V.Env := V.mkE V.tys [] [] [] [] [] []
noncomputable abbrev Z87.kt (x0 : THead) (x1 : THead) : V.Kt Bool := V.ktOf Z87.E Z87.con Tryz.f396 (V.fl4 x0 x1)
noncomputable abbrev Z87.s (x0 : THead) (x1 : THead) : V.St := ⟨[(0, .v true (V.lsHead x0)), (1, .v true (V.lsHead x1))], []⟩
theorem Z87.v0 (x0 : THead) (x1 : THead) : V.evBody Z87.E Z87.con Tryz.f396 (V.fl4 x0 x1) = V.evC Z87.E Tryz.f396.ntmps (V.codeOf Tryz.f396) (Z87.kt x0 x1) (Z87.s x0 x1) := by kernel_rfl
theorem Z87.v (x0 : THead) (x1 : THead) : V.evC Z87.E Tryz.f396.ntmps (V.codeOf Tryz.f396) (Z87.kt x0 x1) (Z87.s x0 x1) = Z87 x0 x1 := by kernel_rfl
theorem Z87.eq (x0 : THead) (x1 : THead) : V.evBody Z87.E Z87.con Tryz.f396 (V.fl4 x0 x1) = Z87 x0 x1 := (Z87.v0 x0 x1).trans (Z87.v x0 x1)
theorem Z87.ok : V.Valid Tryz.prog 396 Z87.con :=
  V.fo V.tab_nil Tryz.func396 (by kernel_rfl) (fun x y h => (show V.evBody Z87.E Z87.con Tryz.f396 x = _ from Z87.eq (V.p4_0 x) (V.p4_1 x)).trans (V.cfl (by kernel_rfl) h))
noncomputable abbrev Z7.con : V.Con := ⟨V.A5, (.cons (.int .i64) .nil), fun (x : V.D5) => Z7 (V.p5_0 x) (V.p5_1 x), [], [(true, 16), (true, 17)], [(false, 1)], [false], []⟩
noncomputable abbrev Z7.E : V.Env := V.mkE V.tys [(48, Z121.con), (226, Z114.con), (317, Z82.con), (396, Z87.con)] [(11, [2, 3, 5, 11], []), (15, [2, 3, 25], [])] [] [] [] []
noncomputable abbrev Z7.kt (x0 : THead) (x1 : TSigned) : V.Kt Int := V.ktOf Z7.E Z7.con Tryz.f309 (V.fl5 x0 x1)
noncomputable abbrev Z7.s15 (x0 : THead) (x1 : TSigned) (v15_0 : Bool) : V.St := ⟨[(2, .v false [.ptr 64000 0]), (3, .v false [.ptr 64064 0]), (25, .v false [.val (.bool v15_0)])], [(64000, .box (V.lsHead x0)), (64064, .box (V.lsSigned x1))]⟩
noncomputable abbrev Z7.s11 (x0 : THead) (x1 : TSigned) (v11_0 : Bool) : V.St := ⟨[(2, .v false [.ptr 64000 0]), (3, .v false [.ptr 64064 0]), (5, .v false [.ptr 128128 0]), (11, .v false [.val (.bool v11_0)])], [(64000, .box (V.lsHead x0)), (64064, .box (V.lsSigned x1)), (128128, .box [.val (.int .i64 x1.1), .val (.int .i64 x1.2.1), .val (.int .i64 x1.2.2.1), .val (.int .i64 x1.2.2.2.1), .val (.int .i64 x1.2.2.2.2.1), .val (.int .i64 x1.2.2.2.2.2.1), .val (.int .i64 x1.2.2.2.2.2.2.1), .val (.int .i64 x1.2.2.2.2.2.2.2.1), .val (.sl (.cons (.int .i64) .nil) x1.2.2.2.2.2.2.2.2.1), .val (.int .i64 x1.2.2.2.2.2.2.2.2.2.1), .val (.sl (.cons (.int .i64) .nil) x1.2.2.2.2.2.2.2.2.2.2.1), .val (.int .i64 x1.2.2.2.2.2.2.2.2.2.2.2.1), .val (.int .i64 x1.2.2.2.2.2.2.2.2.2.2.2.2.1), .val (.sl (.cons (.int .i64) .nil) x1.2.2.2.2.2.2.2.2.2.2.2.2.2.1), .val (.int .i64 x1.2.2.2.2.2.2.2.2.2.2.2.2.2.2.1), .val (.bool x1.2.2.2.2.2.2.2.2.2.2.2.2.2.2.2.1)])]⟩
theorem Z7.r15 (x0 : THead) (x1 : TSigned) (v15_0 : Bool) : V.joinF Z7.E Tryz.f309.ntmps [1, 1, 0, 0, 1, 1, 1, 1] [] (V.codeOf Tryz.f309) (Z7.kt x0 x1) (Z7.s15 x0 x1 v15_0) = Z7.g15 x0 x1 v15_0 := by kernel_rfl
theorem Z7.e15 (x0 : THead) (x1 : TSigned) (v15_0 : Bool) : V.jn (V.joinF Z7.E Tryz.f309.ntmps [1, 1, 0, 0, 1, 1, 1, 1] [] (V.codeOf Tryz.f309) (Z7.kt x0 x1)) (Z7.s15 x0 x1 v15_0) = Z7.l15 x0 x1 v15_0 := by
  rw [V.jn_eq, Z7.r15]
  rfl
theorem Z7.r11 (x0 : THead) (x1 : TSigned) (v11_0 : Bool) : V.joinF Z7.E Tryz.f309.ntmps [1, 1, 0, 0, 1, 1] [] (V.codeOf Tryz.f309) (Z7.kt x0 x1) (Z7.s11 x0 x1 v11_0) = Z7.g11 x0 x1 (fun v15_0 => V.jn (V.joinF Z7.E Tryz.f309.ntmps [1, 1, 0, 0, 1, 1, 1, 1] [] (V.codeOf Tryz.f309) (Z7.kt x0 x1)) (Z7.s15 x0 x1 v15_0)) v11_0 := by kernel_rfl
theorem Z7.e11 (x0 : THead) (x1 : TSigned) (v11_0 : Bool) : V.jn (V.joinF Z7.E Tryz.f309.ntmps [1, 1, 0, 0, 1, 1] [] (V.codeOf Tryz.f309) (Z7.kt x0 x1)) (Z7.s11 x0 x1 v11_0) = Z7.l11 x0 x1 v11_0 := by
  rw [V.jn_eq, Z7.r11]
  simp only [Z7.e15]
  rfl
noncomputable abbrev Z7.s (x0 : THead) (x1 : TSigned) : V.St := ⟨[(0, .v true (V.lsHead x0)), (1, .v true (V.lsSigned x1))], []⟩
theorem Z7.v0 (x0 : THead) (x1 : TSigned) : V.evBody Z7.E Z7.con Tryz.f309 (V.fl5 x0 x1) = V.evC Z7.E Tryz.f309.ntmps (V.codeOf Tryz.f309) (Z7.kt x0 x1) (Z7.s x0 x1) := by kernel_rfl
theorem Z7.v (x0 : THead) (x1 : TSigned) : V.evC Z7.E Tryz.f309.ntmps (V.codeOf Tryz.f309) (Z7.kt x0 x1) (Z7.s x0 x1) = Z7.b x0 x1 (fun v11_0 => V.jn (V.joinF Z7.E Tryz.f309.ntmps [1, 1, 0, 0, 1, 1] [] (V.codeOf Tryz.f309) (Z7.kt x0 x1)) (Z7.s11 x0 x1 v11_0)) := by kernel_rfl
theorem Z7.eq (x0 : THead) (x1 : TSigned) : V.evBody Z7.E Z7.con Tryz.f309 (V.fl5 x0 x1) = Z7 x0 x1 := by
  rw [Z7.v0, Z7.v]
  simp only [Z7.e11]
  rfl
theorem Z7.ok : V.Valid Tryz.prog 309 Z7.con :=
  V.fo (V.tab_cons Z121.ok (V.tab_cons Z114.ok (V.tab_cons Z82.ok (V.tab_cons Z87.ok V.tab_nil)))) Tryz.func309 (by kernel_rfl) (fun x y h => (show V.evBody Z7.E Z7.con Tryz.f309 x = _ from Z7.eq (V.p5_0 x) (V.p5_1 x)).trans (V.cfl (by kernel_rfl) h))
noncomputable abbrev Z8.con : V.Con := ⟨V.A5, (.cons (.int .i64) .nil), fun (x : V.D5) => Z8 (V.p5_0 x) (V.p5_1 x), [], [(true, 16), (true, 17)], [(false, 1)], [false], []⟩
noncomputable abbrev Z8.E : V.Env := V.mkE V.tys [(48, Z121.con), (226, Z114.con), (317, Z82.con), (396, Z87.con)] [(7, [2, 3, 5, 6], []), (13, [2, 3, 37], [])] [] [] [] []
noncomputable abbrev Z8.kt (x0 : THead) (x1 : TSigned) : V.Kt Int := V.ktOf Z8.E Z8.con Tryz.f310 (V.fl5 x0 x1)
noncomputable abbrev Z8.s13 (x0 : THead) (x1 : TSigned) (v13_0 : Bool) : V.St := ⟨[(2, .v false [.ptr 64000 0]), (3, .v false [.ptr 64064 0]), (37, .v false [.val (.bool v13_0)])], [(64000, .box (V.lsHead x0)), (64064, .box (V.lsSigned x1))]⟩
noncomputable abbrev Z8.s7 (x0 : THead) (x1 : TSigned) (v7_0 : Bool) : V.St := ⟨[(2, .v false [.ptr 64000 0]), (3, .v false [.ptr 64064 0]), (5, .v false [.ptr 128128 0]), (6, .v false [.val (.bool v7_0)])], [(64000, .box (V.lsHead x0)), (64064, .box (V.lsSigned x1)), (128128, .box [.val (.int .i64 x1.1), .val (.int .i64 x1.2.1), .val (.int .i64 x1.2.2.1), .val (.int .i64 x1.2.2.2.1), .val (.int .i64 x1.2.2.2.2.1), .val (.int .i64 x1.2.2.2.2.2.1), .val (.int .i64 x1.2.2.2.2.2.2.1), .val (.int .i64 x1.2.2.2.2.2.2.2.1), .val (.sl (.cons (.int .i64) .nil) x1.2.2.2.2.2.2.2.2.1), .val (.int .i64 x1.2.2.2.2.2.2.2.2.2.1), .val (.sl (.cons (.int .i64) .nil) x1.2.2.2.2.2.2.2.2.2.2.1), .val (.int .i64 x1.2.2.2.2.2.2.2.2.2.2.2.1), .val (.int .i64 x1.2.2.2.2.2.2.2.2.2.2.2.2.1), .val (.sl (.cons (.int .i64) .nil) x1.2.2.2.2.2.2.2.2.2.2.2.2.2.1), .val (.int .i64 x1.2.2.2.2.2.2.2.2.2.2.2.2.2.2.1), .val (.bool x1.2.2.2.2.2.2.2.2.2.2.2.2.2.2.2.1)])]⟩
theorem Z8.r13 (x0 : THead) (x1 : TSigned) (v13_0 : Bool) : V.joinF Z8.E Tryz.f310.ntmps [1, 1, 1, 0, 0, 1, 1] [] (V.codeOf Tryz.f310) (Z8.kt x0 x1) (Z8.s13 x0 x1 v13_0) = Z8.g13 x0 x1 v13_0 := by kernel_rfl
theorem Z8.e13 (x0 : THead) (x1 : TSigned) (v13_0 : Bool) : V.jn (V.joinF Z8.E Tryz.f310.ntmps [1, 1, 1, 0, 0, 1, 1] [] (V.codeOf Tryz.f310) (Z8.kt x0 x1)) (Z8.s13 x0 x1 v13_0) = Z8.l13 x0 x1 v13_0 := by
  rw [V.jn_eq, Z8.r13]
  rfl
theorem Z8.r7 (x0 : THead) (x1 : TSigned) (v7_0 : Bool) : V.joinF Z8.E Tryz.f310.ntmps [1, 1] [] (V.codeOf Tryz.f310) (Z8.kt x0 x1) (Z8.s7 x0 x1 v7_0) = Z8.g7 x0 x1 (fun v13_0 => V.jn (V.joinF Z8.E Tryz.f310.ntmps [1, 1, 1, 0, 0, 1, 1] [] (V.codeOf Tryz.f310) (Z8.kt x0 x1)) (Z8.s13 x0 x1 v13_0)) v7_0 := by kernel_rfl
theorem Z8.e7 (x0 : THead) (x1 : TSigned) (v7_0 : Bool) : V.jn (V.joinF Z8.E Tryz.f310.ntmps [1, 1] [] (V.codeOf Tryz.f310) (Z8.kt x0 x1)) (Z8.s7 x0 x1 v7_0) = Z8.l7 x0 x1 v7_0 := by
  rw [V.jn_eq, Z8.r7]
  simp only [Z8.e13]
  rfl
noncomputable abbrev Z8.s (x0 : THead) (x1 : TSigned) : V.St := ⟨[(0, .v true (V.lsHead x0)), (1, .v true (V.lsSigned x1))], []⟩
theorem Z8.v0 (x0 : THead) (x1 : TSigned) : V.evBody Z8.E Z8.con Tryz.f310 (V.fl5 x0 x1) = V.evC Z8.E Tryz.f310.ntmps (V.codeOf Tryz.f310) (Z8.kt x0 x1) (Z8.s x0 x1) := by kernel_rfl
theorem Z8.v (x0 : THead) (x1 : TSigned) : V.evC Z8.E Tryz.f310.ntmps (V.codeOf Tryz.f310) (Z8.kt x0 x1) (Z8.s x0 x1) = Z8.b x0 x1 (fun v7_0 => V.jn (V.joinF Z8.E Tryz.f310.ntmps [1, 1] [] (V.codeOf Tryz.f310) (Z8.kt x0 x1)) (Z8.s7 x0 x1 v7_0)) := by kernel_rfl
theorem Z8.eq (x0 : THead) (x1 : TSigned) : V.evBody Z8.E Z8.con Tryz.f310 (V.fl5 x0 x1) = Z8 x0 x1 := by
  rw [Z8.v0, Z8.v]
  simp only [Z8.e7]
  rfl
theorem Z8.ok : V.Valid Tryz.prog 310 Z8.con :=
  V.fo (V.tab_cons Z121.ok (V.tab_cons Z114.ok (V.tab_cons Z82.ok (V.tab_cons Z87.ok V.tab_nil)))) Tryz.func310 (by kernel_rfl) (fun x y h => (show V.evBody Z8.E Z8.con Tryz.f310 x = _ from Z8.eq (V.p5_0 x) (V.p5_1 x)).trans (V.cfl (by kernel_rfl) h))
noncomputable abbrev Z27.con : V.Con := ⟨V.A5, (.cons (.int .i64) .nil), fun (x : V.D5) => Z27 (V.p5_0 x) (V.p5_1 x), [], [(true, 16), (true, 17)], [(false, 1)], [false], []⟩
noncomputable abbrev Z27.E : V.Env := V.mkE V.tys [(306, Z84.con), (307, Z100.con), (308, Z101.con), (309, Z7.con), (310, Z8.con)] [(5, [2, 3, 5], [])] [] [] [] []
noncomputable abbrev Z27.kt (x0 : THead) (x1 : TSigned) : V.Kt Int := V.ktOf Z27.E Z27.con Tryz.f172 (V.fl5 x0 x1)
noncomputable abbrev Z27.s5 (x0 : THead) (x1 : TSigned) (v5_0 : Bool) : V.St := ⟨[(2, .v false [.ptr 64000 0]), (3, .v false [.ptr 64064 0]), (5, .v false [.val (.bool v5_0)])], [(64000, .box (V.lsHead x0)), (64064, .box (V.lsSigned x1))]⟩
theorem Z27.r5 (x0 : THead) (x1 : TSigned) (v5_0 : Bool) : V.joinF Z27.E Tryz.f172.ntmps [1, 0, 0] [] (V.codeOf Tryz.f172) (Z27.kt x0 x1) (Z27.s5 x0 x1 v5_0) = Z27.g5 x0 x1 v5_0 := by kernel_rfl
theorem Z27.e5 (x0 : THead) (x1 : TSigned) (v5_0 : Bool) : V.jn (V.joinF Z27.E Tryz.f172.ntmps [1, 0, 0] [] (V.codeOf Tryz.f172) (Z27.kt x0 x1)) (Z27.s5 x0 x1 v5_0) = Z27.l5 x0 x1 v5_0 := by
  rw [V.jn_eq, Z27.r5]
  rfl
noncomputable abbrev Z27.s (x0 : THead) (x1 : TSigned) : V.St := ⟨[(0, .v true (V.lsHead x0)), (1, .v true (V.lsSigned x1))], []⟩
theorem Z27.v0 (x0 : THead) (x1 : TSigned) : V.evBody Z27.E Z27.con Tryz.f172 (V.fl5 x0 x1) = V.evC Z27.E Tryz.f172.ntmps (V.codeOf Tryz.f172) (Z27.kt x0 x1) (Z27.s x0 x1) := by kernel_rfl
theorem Z27.v (x0 : THead) (x1 : TSigned) : V.evC Z27.E Tryz.f172.ntmps (V.codeOf Tryz.f172) (Z27.kt x0 x1) (Z27.s x0 x1) = Z27.b x0 x1 (fun v5_0 => V.jn (V.joinF Z27.E Tryz.f172.ntmps [1, 0, 0] [] (V.codeOf Tryz.f172) (Z27.kt x0 x1)) (Z27.s5 x0 x1 v5_0)) := by kernel_rfl
theorem Z27.eq (x0 : THead) (x1 : TSigned) : V.evBody Z27.E Z27.con Tryz.f172 (V.fl5 x0 x1) = Z27 x0 x1 := by
  rw [Z27.v0, Z27.v]
  simp only [Z27.e5]
  rfl
theorem Z27.ok : V.Valid Tryz.prog 172 Z27.con :=
  V.fo (V.tab_cons Z84.ok (V.tab_cons Z100.ok (V.tab_cons Z101.ok (V.tab_cons Z7.ok (V.tab_cons Z8.ok V.tab_nil))))) Tryz.func172 (by kernel_rfl) (fun x y h => (show V.evBody Z27.E Z27.con Tryz.f172 x = _ from Z27.eq (V.p5_0 x) (V.p5_1 x)).trans (V.cfl (by kernel_rfl) h))
noncomputable abbrev Z98.con : V.Con := ⟨V.A5, (.cons .bool .nil), fun (x : V.D5) => Z98 (V.p5_0 x) (V.p5_1 x), [], [(true, 16), (true, 17)], [(false, 1)], [false], []⟩
noncomputable abbrev Z98.E : V.Env := V.mkE V.tys [(172, Z27.con)] [] [] [] [] []
noncomputable abbrev Z98.kt (x0 : THead) (x1 : TSigned) : V.Kt Bool := V.ktOf Z98.E Z98.con Tryz.f71 (V.fl5 x0 x1)
noncomputable abbrev Z98.s (x0 : THead) (x1 : TSigned) : V.St := ⟨[(0, .v true (V.lsHead x0)), (1, .v true (V.lsSigned x1))], []⟩
theorem Z98.v0 (x0 : THead) (x1 : TSigned) : V.evBody Z98.E Z98.con Tryz.f71 (V.fl5 x0 x1) = V.evC Z98.E Tryz.f71.ntmps (V.codeOf Tryz.f71) (Z98.kt x0 x1) (Z98.s x0 x1) := by kernel_rfl
theorem Z98.v (x0 : THead) (x1 : TSigned) : V.evC Z98.E Tryz.f71.ntmps (V.codeOf Tryz.f71) (Z98.kt x0 x1) (Z98.s x0 x1) = Z98 x0 x1 := by kernel_rfl
theorem Z98.eq (x0 : THead) (x1 : TSigned) : V.evBody Z98.E Z98.con Tryz.f71 (V.fl5 x0 x1) = Z98 x0 x1 := (Z98.v0 x0 x1).trans (Z98.v x0 x1)
theorem Z98.ok : V.Valid Tryz.prog 71 Z98.con :=
  V.fo (V.tab_cons Z27.ok V.tab_nil) Tryz.func71 (by kernel_rfl) (fun x y h => (show V.evBody Z98.E Z98.con Tryz.f71 x = _ from Z98.eq (V.p5_0 x) (V.p5_1 x)).trans (V.cfl (by kernel_rfl) h))
noncomputable abbrev Z32.con : V.Con := ⟨(.cons (.sl V.eSigned) .nil), (.cons (.int .i64) .nil), fun (x : List TSigned) => Z32 x, [], [(false, 1)], [(false, 1)], [false], []⟩
noncomputable abbrev Z32.E : V.Env := V.mkE V.tys [(71, Z98.con), (180, Z97.con)] [(4, [0, 5, 6, 7], [])] [(4, 18)] [] [] []
noncomputable abbrev Z32.kt (x0 : List TSigned) : V.Kt Int := V.ktOf Z32.E Z32.con Tryz.f39 ((x0) : List TSigned)
noncomputable abbrev Z32.s4 (x0 : List TSigned) (v4_2 : Int) (v4_3 : Int) : V.St := ⟨[(0, .v false [.val (.sl V.eSigned x0)]), (5, .v false [.val (.sl V.eSigned x0)]), (6, .v false [.val (.int .i64 v4_2)]), (7, .v false [.val (.int .i64 v4_3)])], []⟩
theorem Z32.r4 (x0 : List TSigned) (R : V.St → Option Int) (v4_2 : Int) (v4_3 : Int) : V.loopF Z32.E Tryz.f39.ntmps [1, 0, 1, 0] [] (V.codeOf Tryz.f39) (Z32.kt x0) R (Z32.s4 x0 v4_2 v4_3) = Z32.g4 x0 (fun v4_2 v4_3 => R (Z32.s4 x0 v4_2 v4_3)) v4_2 v4_3 := by kernel_rfl
theorem Z32.e4 (x0 : List TSigned) : ∀ (n : Nat) (v4_2 : Int) (v4_3 : Int), V.loopN (V.loopF Z32.E Tryz.f39.ntmps [1, 0, 1, 0] [] (V.codeOf Tryz.f39) (Z32.kt x0)) n (Z32.s4 x0 v4_2 v4_3) = Z32.l4 x0 n v4_2 v4_3 := by
  intro n
  induction n with
  | zero => intros; rw [V.loopN_z]; rfl
  | succ n ih =>
    intro v4_2 v4_3
    rw [V.loopN_s, Z32.r4]
    simp only [ih]
    first | exact (Z32.u4 ..).symm | rfl
theorem Z32.v (x0 : List TSigned) : V.evBody Z32.E Z32.con Tryz.f39 ((x0) : List TSigned) = Z32.b x0 (fun v4_2 v4_3 => V.loopN (V.loopF Z32.E Tryz.f39.ntmps [1, 0, 1, 0] [] (V.codeOf Tryz.f39) (Z32.kt x0)) V.KK (Z32.s4 x0 v4_2 v4_3)) := by kernel_rfl
theorem Z32.eq (x0 : List TSigned) : V.evBody Z32.E Z32.con Tryz.f39 ((x0) : List TSigned) = Z32 x0 := by
  rw [Z32.v]
  simp only [Z32.e4]
  rfl
theorem Z32.ok : V.Valid Tryz.prog 39 Z32.con :=
  V.fo (V.tab_cons Z98.ok (V.tab_cons Z97.ok V.tab_nil)) Tryz.func39 (by kernel_rfl) (fun x y h => (show V.evBody Z32.E Z32.con Tryz.f39 x = _ from Z32.eq x).trans (V.cfl (by kernel_rfl) h))
noncomputable abbrev Z161.con : V.Con := ⟨(.cons (.sl V.eSigned) .nil), (.cons .bool .nil), fun (x : List TSigned) => Z161 x, [], [(false, 1)], [(false, 1)], [false], []⟩
noncomputable abbrev Z161.E : V.Env := V.mkE V.tys [(39, Z32.con), (178, Z75.con)] [] [] [] [] []
theorem Z161.eq (x0 : List TSigned) : V.evBody Z161.E Z161.con Tryz.f37 ((x0) : List TSigned) = Z161 x0 := by kernel_rfl
theorem Z161.ok : V.Valid Tryz.prog 37 Z161.con :=
  V.fo (V.tab_cons Z32.ok (V.tab_cons Z75.ok V.tab_nil)) Tryz.func37 (by kernel_rfl) (fun x y h => (show V.evBody Z161.E Z161.con Tryz.f37 x = _ from Z161.eq x).trans (V.cfl (by kernel_rfl) h))
noncomputable abbrev Z138.con : V.Con := ⟨(.cons (.sl V.eSigned) .nil), V.eHead, fun (x : List TSigned) => Z138 x, [], [(false, 1)], [(true, 16)], [false, false, false, false, false, false, false, false, false, false, false, false, false, false, false, false], []⟩
noncomputable abbrev Z138.E : V.Env := V.mkE V.tys [] [] [] [] [] []
theorem Z138.eq (x0 : List TSigned) : V.evBody Z138.E Z138.con Tryz.f173 ((x0) : List TSigned) = Z138 x0 := by kernel_rfl
theorem Z138.ok : V.Valid Tryz.prog 173 Z138.con :=
  V.fo V.tab_nil Tryz.func173 (by kernel_rfl) (fun x y h => (show V.evBody Z138.E Z138.con Tryz.f173 x = _ from Z138.eq x).trans (V.cfl (by kernel_rfl) h))
noncomputable abbrev Z14.con : V.Con := ⟨(.cons .str .nil), (.cons .bool .nil), fun (x : ByteArray) => Z14 x, [], [(false, 1)], [(false, 1)], [false], []⟩
noncomputable abbrev Z14.E : V.Env := V.mkE V.tys [(178, Z75.con)] [(4, [0, 6, 7], [])] [] [] [] []
noncomputable abbrev Z14.kt (x0 : ByteArray) : V.Kt Bool := V.ktOf Z14.E Z14.con Tryz.f280 ((x0) : ByteArray)
noncomputable abbrev Z14.s4 (x0 : ByteArray) (v4_1 : Int) (v4_2 : Int) : V.St := ⟨[(0, .v false [.val (.str x0)]), (6, .v false [.val (.int .i64 v4_1)]), (7, .v false [.val (.int .i64 v4_2)])], []⟩
theorem Z14.r4 (x0 : ByteArray) (R : V.St → Option Bool) (v4_1 : Int) (v4_2 : Int) : V.loopF Z14.E Tryz.f280.ntmps [1, 0, 1, 0] [] (V.codeOf Tryz.f280) (Z14.kt x0) R (Z14.s4 x0 v4_1 v4_2) = Z14.g4 x0 (fun v4_1 v4_2 => R (Z14.s4 x0 v4_1 v4_2)) v4_1 v4_2 := by kernel_rfl
theorem Z14.e4 (x0 : ByteArray) : ∀ (n : Nat) (v4_1 : Int) (v4_2 : Int), V.loopN (V.loopF Z14.E Tryz.f280.ntmps [1, 0, 1, 0] [] (V.codeOf Tryz.f280) (Z14.kt x0)) n (Z14.s4 x0 v4_1 v4_2) = Z14.l4 x0 n v4_1 v4_2 := by
  intro n
  induction n with
  | zero => intros; rw [V.loopN_z]; rfl
  | succ n ih =>
    intro v4_1 v4_2
    rw [V.loopN_s, Z14.r4]
    simp only [ih]
    first | exact (Z14.u4 ..).symm | rfl
theorem Z14.v (x0 : ByteArray) : V.evBody Z14.E Z14.con Tryz.f280 ((x0) : ByteArray) = Z14.b x0 (fun v4_1 v4_2 => V.loopN (V.loopF Z14.E Tryz.f280.ntmps [1, 0, 1, 0] [] (V.codeOf Tryz.f280) (Z14.kt x0)) V.KK (Z14.s4 x0 v4_1 v4_2)) := by kernel_rfl
theorem Z14.eq (x0 : ByteArray) : V.evBody Z14.E Z14.con Tryz.f280 ((x0) : ByteArray) = Z14 x0 := by
  rw [Z14.v]
  simp only [Z14.e4]
  rfl
theorem Z14.ok : V.Valid Tryz.prog 280 Z14.con :=
  V.fo (V.tab_cons Z75.ok V.tab_nil) Tryz.func280 (by kernel_rfl) (fun x y h => (show V.evBody Z14.E Z14.con Tryz.f280 x = _ from Z14.eq x).trans (V.cfl (by kernel_rfl) h))
noncomputable abbrev Z199.con : V.Con := ⟨(.cons .str .nil), (.cons .bool .nil), fun (x : ByteArray) => Z199 x, [], [(false, 1)], [(false, 1)], [false], []⟩
noncomputable abbrev Z199.E : V.Env := V.mkE V.tys [(280, Z14.con)] [] [] [] [] []
theorem Z199.eq (x0 : ByteArray) : V.evBody Z199.E Z199.con Tryz.f439 ((x0) : ByteArray) = Z199 x0 := by kernel_rfl
theorem Z199.ok : V.Valid Tryz.prog 439 Z199.con :=
  V.fo (V.tab_cons Z14.ok V.tab_nil) Tryz.func439 (by kernel_rfl) (fun x y h => (show V.evBody Z199.E Z199.con Tryz.f439 x = _ from Z199.eq x).trans (V.cfl (by kernel_rfl) h))
noncomputable abbrev Z74.con : V.Con := ⟨(.cons (.sl (.cons .str .nil)) (.cons (.fn 439 false .nil .nil) .nil)), (.cons (.int .i64) .nil), fun (x : List ByteArray × (Unit) × (Unit)) => Z74 x.1 x.2, [], [(false, 1), (false, 1)], [(false, 1)], [false], []⟩
noncomputable abbrev Z74.E : V.Env := V.mkE V.tys [(439, Z199.con)] [(4, [0, 1, 7, 8], [])] [] [] [] []
noncomputable abbrev Z74.kt (x0 : List ByteArray) (x1 : (Unit) × (Unit)) : V.Kt Int := V.ktOf Z74.E Z74.con Tryz.f453 ((x0, x1) : List ByteArray × (Unit) × (Unit))
noncomputable abbrev Z74.s4 (x0 : List ByteArray) (v4_1 : Int) (v4_2 : Int) : V.St := ⟨[(0, .v false [.val (.sl (.cons .str .nil) x0)]), (1, .v false [.val (.fn 439 false .nil .nil () ())]), (7, .v false [.val (.int .i64 v4_1)]), (8, .v false [.val (.int .i64 v4_2)])], []⟩
theorem Z74.r4 (x0 : List ByteArray) (x1 : (Unit) × (Unit)) (R : V.St → Option Int) (v4_1 : Int) (v4_2 : Int) : V.loopF Z74.E Tryz.f453.ntmps [1, 0, 1, 0] [] (V.codeOf Tryz.f453) (Z74.kt x0 x1) R (Z74.s4 x0 v4_1 v4_2) = Z74.g4 x0 (fun v4_1 v4_2 => R (Z74.s4 x0 v4_1 v4_2)) v4_1 v4_2 := by kernel_rfl
theorem Z74.e4 (x0 : List ByteArray) (x1 : (Unit) × (Unit)) : ∀ (n : Nat) (v4_1 : Int) (v4_2 : Int), V.loopN (V.loopF Z74.E Tryz.f453.ntmps [1, 0, 1, 0] [] (V.codeOf Tryz.f453) (Z74.kt x0 x1)) n (Z74.s4 x0 v4_1 v4_2) = Z74.l4 x0 n v4_1 v4_2 := by
  intro n
  induction n with
  | zero => intros; rw [V.loopN_z]; rfl
  | succ n ih =>
    intro v4_1 v4_2
    rw [V.loopN_s, Z74.r4]
    simp only [ih]
    first | exact (Z74.u4 ..).symm | rfl
theorem Z74.v (x0 : List ByteArray) (x1 : (Unit) × (Unit)) : V.evBody Z74.E Z74.con Tryz.f453 ((x0, x1) : List ByteArray × (Unit) × (Unit)) = Z74.b x0 x1 (fun v4_1 v4_2 => V.loopN (V.loopF Z74.E Tryz.f453.ntmps [1, 0, 1, 0] [] (V.codeOf Tryz.f453) (Z74.kt x0 x1)) V.KK (Z74.s4 x0 v4_1 v4_2)) := by kernel_rfl
theorem Z74.eq (x0 : List ByteArray) (x1 : (Unit) × (Unit)) : V.evBody Z74.E Z74.con Tryz.f453 ((x0, x1) : List ByteArray × (Unit) × (Unit)) = Z74 x0 x1 := by
  rw [Z74.v]
  simp only [Z74.e4]
  rfl
theorem Z74.ok : V.Valid Tryz.prog 453 Z74.con :=
  V.fo (V.tab_cons Z199.ok V.tab_nil) Tryz.func453 (by kernel_rfl) (fun x y h => (show V.evBody Z74.E Z74.con Tryz.f453 x = _ from Z74.eq x.1 x.2).trans (V.cfl (by kernel_rfl) h))
noncomputable abbrev Z184.con : V.Con := ⟨(.cons (.sl (.cons .str .nil)) (.cons (.fn 439 false .nil .nil) .nil)), (.cons .bool .nil), fun (x : List ByteArray × (Unit) × (Unit)) => Z184 x.1 x.2, [], [(false, 1), (false, 1)], [(false, 1)], [false], []⟩
noncomputable abbrev Z184.E : V.Env := V.mkE V.tys [(453, Z74.con)] [] [] [] [] []
theorem Z184.eq (x0 : List ByteArray) (x1 : (Unit) × (Unit)) : V.evBody Z184.E Z184.con Tryz.f438 ((x0, x1) : List ByteArray × (Unit) × (Unit)) = Z184 x0 x1 := by kernel_rfl
theorem Z184.ok : V.Valid Tryz.prog 438 Z184.con :=
  V.fo (V.tab_cons Z74.ok V.tab_nil) Tryz.func438 (by kernel_rfl) (fun x y h => (show V.evBody Z184.E Z184.con Tryz.f438 x = _ from Z184.eq x.1 x.2).trans (V.cfl (by kernel_rfl) h))
noncomputable abbrev Z163.con : V.Con := ⟨(.cons (.sl (.cons .str .nil)) .nil), (.cons .bool .nil), fun (x : List ByteArray) => Z163 x, [], [(false, 1)], [(false, 1)], [false], []⟩
noncomputable abbrev Z163.E : V.Env := V.mkE V.tys [(178, Z75.con), (438, Z184.con)] [] [] [] [] []
theorem Z163.eq (x0 : List ByteArray) : V.evBody Z163.E Z163.con Tryz.f405 ((x0) : List ByteArray) = Z163 x0 := by kernel_rfl
theorem Z163.ok : V.Valid Tryz.prog 405 Z163.con :=
  V.fo (V.tab_cons Z75.ok (V.tab_cons Z184.ok V.tab_nil)) Tryz.func405 (by kernel_rfl) (fun x y h => (show V.evBody Z163.E Z163.con Tryz.f405 x = _ from Z163.eq x).trans (V.cfl (by kernel_rfl) h))
noncomputable abbrev Z162.con : V.Con := ⟨V.eEntry, (.cons .bool .nil), fun (x : ByteArray × Int × Int × List ByteArray) => Z162 x, [], [(true, 4)], [(false, 1)], [false], []⟩
noncomputable abbrev Z162.E : V.Env := V.mkE V.tys [(178, Z75.con), (206, Z119.con), (280, Z14.con), (405, Z163.con)] [] [] [] [] []
theorem Z162.eq (x0 : TEntry) : V.evBody Z162.E Z162.con Tryz.f341 ((x0.1, x0.2.1, x0.2.2.1, x0.2.2.2) : ByteArray × Int × Int × List ByteArray) = Z162 x0 := by kernel_rfl
theorem Z162.ok : V.Valid Tryz.prog 341 Z162.con :=
  V.fo (V.tab_cons Z75.ok (V.tab_cons Z119.ok (V.tab_cons Z14.ok (V.tab_cons Z163.ok V.tab_nil)))) Tryz.func341 (by kernel_rfl) (fun x y h => (show V.evBody Z162.E Z162.con Tryz.f341 x = _ from Z162.eq x).trans (V.cfl (by kernel_rfl) h))
noncomputable abbrev Z205.con : V.Con := ⟨.cons .str (.cons .str .nil), .cons (.int .i64) .nil, fun (x : ByteArray × ByteArray) => Z205 x.1 x.2, [], [(false, 1), (false, 1)], [(false, 1)], [false], []⟩
theorem Z205.ok : V.Valid Tryz.prog 440 Z205.con :=
  V.cmp_valid (ρ := ⟨fun n => bif Nat.beq n 213 then 440 else 454, fun t => bif Nat.beq t 3 then 3 else 9, fun x => x⟩) { mixed := V.mixed, f213 := by kernel_rfl, f265 := by kernel_rfl, t3 := by kernel_rfl, a3 := fun w => rfl, z3 := fun w => rfl, v3 := fun w => rfl, t9 := by kernel_rfl, a9 := fun w => rfl, z9 := fun w => rfl, v9 := fun w => rfl }
noncomputable abbrev Z204.con : V.Con := ⟨(.cons .str (.cons .str .nil)), (.cons (.int .i64) .nil), fun (x : ByteArray × ByteArray) => Z204 x.1 x.2, [], [(false, 1), (false, 1)], [(false, 1)], [false], []⟩
noncomputable abbrev Z204.E : V.Env := V.mkE V.tys [(440, Z205.con)] [] [] [] [] []
theorem Z204.eq (x0 : ByteArray) (x1 : ByteArray) : V.evBody Z204.E Z204.con Tryz.f406 ((x0, x1) : ByteArray × ByteArray) = Z204 x0 x1 := by kernel_rfl
theorem Z204.ok : V.Valid Tryz.prog 406 Z204.con :=
  V.fo (V.tab_cons Z205.ok V.tab_nil) Tryz.func406 (by kernel_rfl) (fun x y h => (show V.evBody Z204.E Z204.con Tryz.f406 x = _ from Z204.eq x.1 x.2).trans (V.cfl (by kernel_rfl) h))
noncomputable abbrev Z136.con : V.Con := ⟨(.cons .str (.cons .str .nil)), (.cons (.int .i64) .nil), fun (x : ByteArray × ByteArray) => Z136 x.1 x.2, [], [(false, 1), (false, 1)], [(false, 1)], [false], []⟩
noncomputable abbrev Z136.E : V.Env := V.mkE V.tys [(406, Z204.con)] [] [] [] [] []
theorem Z136.eq (x0 : ByteArray) (x1 : ByteArray) : V.evBody Z136.E Z136.con Tryz.f342 ((x0, x1) : ByteArray × ByteArray) = Z136 x0 x1 := by kernel_rfl
theorem Z136.ok : V.Valid Tryz.prog 342 Z136.con :=
  V.fo (V.tab_cons Z204.ok V.tab_nil) Tryz.func342 (by kernel_rfl) (fun x y h => (show V.evBody Z136.E Z136.con Tryz.f342 x = _ from Z136.eq x.1 x.2).trans (V.cfl (by kernel_rfl) h))
noncomputable abbrev Z20.con : V.Con := ⟨(.cons (.sl V.eEntry) .nil), (.cons .bool .nil), fun (x : List TEntry) => Z20 x, [], [(false, 1)], [(false, 1)], [false], []⟩
noncomputable abbrev Z20.E : V.Env := V.mkE V.tys [(341, Z162.con), (342, Z136.con)] [(4, [0, 5, 6, 7], [])] [(4, 15)] [] [] []
noncomputable abbrev Z20.kt (x0 : List TEntry) : V.Kt Bool := V.ktOf Z20.E Z20.con Tryz.f220 ((x0) : List TEntry)
noncomputable abbrev Z20.s4 (x0 : List TEntry) (v4_2 : Int) (v4_3 : Int) : V.St := ⟨[(0, .v false [.val (.sl V.eEntry x0)]), (5, .v false [.val (.sl V.eEntry x0)]), (6, .v false [.val (.int .i64 v4_2)]), (7, .v false [.val (.int .i64 v4_3)])], []⟩
theorem Z20.r4 (x0 : List TEntry) (R : V.St → Option Bool) (v4_2 : Int) (v4_3 : Int) : V.loopF Z20.E Tryz.f220.ntmps [1, 0, 1, 0] [] (V.codeOf Tryz.f220) (Z20.kt x0) R (Z20.s4 x0 v4_2 v4_3) = Z20.g4 x0 (fun v4_2 v4_3 => R (Z20.s4 x0 v4_2 v4_3)) v4_2 v4_3 := by kernel_rfl
theorem Z20.e4 (x0 : List TEntry) : ∀ (n : Nat) (v4_2 : Int) (v4_3 : Int), V.loopN (V.loopF Z20.E Tryz.f220.ntmps [1, 0, 1, 0] [] (V.codeOf Tryz.f220) (Z20.kt x0)) n (Z20.s4 x0 v4_2 v4_3) = Z20.l4 x0 n v4_2 v4_3 := by
  intro n
  induction n with
  | zero => intros; rw [V.loopN_z]; rfl
  | succ n ih =>
    intro v4_2 v4_3
    rw [V.loopN_s, Z20.r4]
    simp only [ih]
    first | exact (Z20.u4 ..).symm | rfl
theorem Z20.v (x0 : List TEntry) : V.evBody Z20.E Z20.con Tryz.f220 ((x0) : List TEntry) = Z20.b x0 (fun v4_2 v4_3 => V.loopN (V.loopF Z20.E Tryz.f220.ntmps [1, 0, 1, 0] [] (V.codeOf Tryz.f220) (Z20.kt x0)) V.KK (Z20.s4 x0 v4_2 v4_3)) := by kernel_rfl
theorem Z20.eq (x0 : List TEntry) : V.evBody Z20.E Z20.con Tryz.f220 ((x0) : List TEntry) = Z20 x0 := by
  rw [Z20.v]
  simp only [Z20.e4]
  rfl
theorem Z20.ok : V.Valid Tryz.prog 220 Z20.con :=
  V.fo (V.tab_cons Z162.ok (V.tab_cons Z136.ok V.tab_nil)) Tryz.func220 (by kernel_rfl) (fun x y h => (show V.evBody Z20.E Z20.con Tryz.f220 x = _ from Z20.eq x).trans (V.cfl (by kernel_rfl) h))
noncomputable abbrev Z51.con : V.Con := ⟨(.cons (.sl (.cons (.int .u8) .nil)) .nil), (.cons (.sl (.cons (.int .i64) .nil)) .nil), fun (x : List Int) => Z51 x, [], [(false, 1)], [(false, 1)], [true], []⟩
noncomputable abbrev Z51.E : V.Env := V.mkE V.tys [] [(6, [3, 9, 10, 11], [])] [] [] [] []
noncomputable abbrev Z51.kt (x0 : List Int) : V.Kt (List Int) := V.ktOf Z51.E Z51.con Tryz.f458 ((x0) : List Int)
noncomputable abbrev Z51.s6 (x0 : List Int) (v6_1 : Int) (v6_2 : Int) (v6_3 : List Int) : V.St := ⟨[(3, .v false [.ref 64000038400192]), (9, .v false [.val (.sl (.cons (.int .u8) .nil) x0)]), (10, .v false [.val (.int .i64 v6_1)]), (11, .v false [.val (.int .i64 v6_2)])], [(64000038400192, .row (.cons (.int .i64) .nil) true v6_3)]⟩
theorem Z51.r6 (x0 : List Int) (R : V.St → Option (List Int)) (v6_1 : Int) (v6_2 : Int) (v6_3 : List Int) : V.loopF Z51.E Tryz.f458.ntmps [1, 1, 0, 1, 0] [] (V.codeOf Tryz.f458) (Z51.kt x0) R (Z51.s6 x0 v6_1 v6_2 v6_3) = Z51.g6 x0 (fun v6_1 v6_2 v6_3 => R (Z51.s6 x0 v6_1 v6_2 v6_3)) v6_1 v6_2 v6_3 := by kernel_rfl
theorem Z51.e6 (x0 : List Int) : ∀ (n : Nat) (v6_1 : Int) (v6_2 : Int) (v6_3 : List Int), V.loopN (V.loopF Z51.E Tryz.f458.ntmps [1, 1, 0, 1, 0] [] (V.codeOf Tryz.f458) (Z51.kt x0)) n (Z51.s6 x0 v6_1 v6_2 v6_3) = Z51.l6 x0 n v6_1 v6_2 v6_3 := by
  intro n
  induction n with
  | zero => intros; rw [V.loopN_z]; rfl
  | succ n ih =>
    intro v6_1 v6_2 v6_3
    rw [V.loopN_s, Z51.r6]
    simp only [ih]
    first | exact (Z51.u6 ..).symm | rfl
theorem Z51.v (x0 : List Int) : V.evBody Z51.E Z51.con Tryz.f458 ((x0) : List Int) = Z51.b x0 (fun v6_1 v6_2 v6_3 => V.loopN (V.loopF Z51.E Tryz.f458.ntmps [1, 1, 0, 1, 0] [] (V.codeOf Tryz.f458) (Z51.kt x0)) V.KK (Z51.s6 x0 v6_1 v6_2 v6_3)) := by kernel_rfl
theorem Z51.eq (x0 : List Int) : V.evBody Z51.E Z51.con Tryz.f458 ((x0) : List Int) = Z51 x0 := by
  rw [Z51.v]
  simp only [Z51.e6]
  rfl
theorem Z51.ok : V.Valid Tryz.prog 458 Z51.con :=
  V.fo V.tab_nil Tryz.func458 (by kernel_rfl) (fun x y h => (show V.evBody Z51.E Z51.con Tryz.f458 x = _ from Z51.eq x).trans (V.cfl (by kernel_rfl) h))
noncomputable abbrev Z143.con : V.Con := ⟨(.cons .str .nil), (.cons (.sl (.cons (.int .i64) .nil)) .nil), fun (x : ByteArray) => Z143 x, [], [(false, 1)], [(false, 1)], [true], []⟩
noncomputable abbrev Z143.E : V.Env := V.mkE V.tys [(458, Z51.con)] [] [] [] [] []
theorem Z143.eq (x0 : ByteArray) : V.evBody Z143.E Z143.con Tryz.f455 ((x0) : ByteArray) = Z143 x0 := by kernel_rfl
theorem Z143.ok : V.Valid Tryz.prog 455 Z143.con :=
  V.fo (V.tab_cons Z51.ok V.tab_nil) Tryz.func455 (by kernel_rfl) (fun x y h => (show V.evBody Z143.E Z143.con Tryz.f455 x = _ from Z143.eq x).trans (V.cfl (by kernel_rfl) h))
noncomputable abbrev Z52.con : V.Con := ⟨V.eEntry, (.cons (.sl (.cons (.int .i64) .nil)) .nil), fun (x : ByteArray × Int × Int × List ByteArray) => Z52 x, [], [(true, 4)], [(false, 1)], [true], []⟩
noncomputable abbrev Z52.E : V.Env := V.mkE V.tys [(455, Z143.con)] [(6, [3, 19, 20, 21], [])] [(1, 11)] [] [] []
noncomputable abbrev Z52.kt (x0 : TEntry) : V.Kt (List Int) := V.ktOf Z52.E Z52.con Tryz.f442 ((x0.1, x0.2.1, x0.2.2.1, x0.2.2.2) : ByteArray × Int × Int × List ByteArray)
noncomputable abbrev Z52.s6 (x0 : TEntry) (v6_1 : Int) (v6_2 : Int) (v6_3 : List Int) : V.St := ⟨[(3, .v false [.ref 64000038400192]), (19, .v false [.val (.sl (.cons .str .nil) x0.2.2.2)]), (20, .v false [.val (.int .i64 v6_1)]), (21, .v false [.val (.int .i64 v6_2)])], [(64000038400192, .row (.cons (.int .i64) .nil) true v6_3)]⟩
theorem Z52.r6 (x0 : TEntry) (R : V.St → Option (List Int)) (v6_1 : Int) (v6_2 : Int) (v6_3 : List Int) : V.loopF Z52.E Tryz.f442.ntmps [1, 1, 0, 1, 0] [] (V.codeOf Tryz.f442) (Z52.kt x0) R (Z52.s6 x0 v6_1 v6_2 v6_3) = Z52.g6 x0 (fun v6_1 v6_2 v6_3 => R (Z52.s6 x0 v6_1 v6_2 v6_3)) v6_1 v6_2 v6_3 := by kernel_rfl
theorem Z52.e6 (x0 : TEntry) : ∀ (n : Nat) (v6_1 : Int) (v6_2 : Int) (v6_3 : List Int), V.loopN (V.loopF Z52.E Tryz.f442.ntmps [1, 1, 0, 1, 0] [] (V.codeOf Tryz.f442) (Z52.kt x0)) n (Z52.s6 x0 v6_1 v6_2 v6_3) = Z52.l6 x0 n v6_1 v6_2 v6_3 := by
  intro n
  induction n with
  | zero => intros; rw [V.loopN_z]; rfl
  | succ n ih =>
    intro v6_1 v6_2 v6_3
    rw [V.loopN_s, Z52.r6]
    simp only [ih]
    first | exact (Z52.u6 ..).symm | rfl
theorem Z52.v (x0 : TEntry) : V.evBody Z52.E Z52.con Tryz.f442 ((x0.1, x0.2.1, x0.2.2.1, x0.2.2.2) : ByteArray × Int × Int × List ByteArray) = Z52.b x0 (fun v6_1 v6_2 v6_3 => V.loopN (V.loopF Z52.E Tryz.f442.ntmps [1, 1, 0, 1, 0] [] (V.codeOf Tryz.f442) (Z52.kt x0)) V.KK (Z52.s6 x0 v6_1 v6_2 v6_3)) := by kernel_rfl
theorem Z52.eq (x0 : TEntry) : V.evBody Z52.E Z52.con Tryz.f442 ((x0.1, x0.2.1, x0.2.2.1, x0.2.2.2) : ByteArray × Int × Int × List ByteArray) = Z52 x0 := by
  rw [Z52.v]
  simp only [Z52.e6]
  rfl
theorem Z52.ok : V.Valid Tryz.prog 442 Z52.con :=
  V.fo (V.tab_cons Z143.ok V.tab_nil) Tryz.func442 (by kernel_rfl) (fun x y h => (show V.evBody Z52.E Z52.con Tryz.f442 x = _ from Z52.eq x).trans (V.cfl (by kernel_rfl) h))
noncomputable abbrev Z151.con : V.Con := ⟨V.eEntry, (.cons (.int .i64) .nil), fun (x : ByteArray × Int × Int × List ByteArray) => Z151 x, [], [(true, 4)], [(false, 1)], [false], []⟩
noncomputable abbrev Z151.E : V.Env := V.mkE V.tys [(262, Z12.con), (442, Z52.con)] [] [] [] [] []
theorem Z151.eq (x0 : TEntry) : V.evBody Z151.E Z151.con Tryz.f409 ((x0.1, x0.2.1, x0.2.2.1, x0.2.2.2) : ByteArray × Int × Int × List ByteArray) = Z151 x0 := by kernel_rfl
theorem Z151.ok : V.Valid Tryz.prog 409 Z151.con :=
  V.fo (V.tab_cons Z12.ok (V.tab_cons Z52.ok V.tab_nil)) Tryz.func409 (by kernel_rfl) (fun x y h => (show V.evBody Z151.E Z151.con Tryz.f409 x = _ from Z151.eq x).trans (V.cfl (by kernel_rfl) h))
noncomputable abbrev Z36.con : V.Con := ⟨(.cons (.sl V.eEntry) .nil), (.cons (.sl (.cons (.int .i64) .nil)) .nil), fun (x : List TEntry) => Z36 x, [], [(false, 1)], [(false, 1)], [true], []⟩
noncomputable abbrev Z36.E : V.Env := V.mkE V.tys [(409, Z151.con)] [(6, [3, 7, 8, 9], [(64000038400192, (.cons (.int .i64) .nil), true)])] [] [] [] []
noncomputable abbrev Z36.kt (x0 : List TEntry) : V.Kt (List Int) := V.ktOf Z36.E Z36.con Tryz.f346 ((x0) : List TEntry)
noncomputable abbrev Z36.s6 (x0 : List TEntry) (v6_1 : Int) (v6_2 : Int) (v6_3 : List Int) : V.St := ⟨[(3, .v false [.ref 64000038400192]), (7, .v false [.val (.sl V.eEntry x0)]), (8, .v false [.val (.int .i64 v6_1)]), (9, .v false [.val (.int .i64 v6_2)])], [(64000038400192, .row (.cons (.int .i64) .nil) true v6_3)]⟩
theorem Z36.r6 (x0 : List TEntry) (R : V.St → Option (List Int)) (v6_1 : Int) (v6_2 : Int) (v6_3 : List Int) : V.loopF Z36.E Tryz.f346.ntmps [1, 1, 0, 1, 0] [] (V.codeOf Tryz.f346) (Z36.kt x0) R (Z36.s6 x0 v6_1 v6_2 v6_3) = Z36.g6 x0 (fun v6_1 v6_2 v6_3 => R (Z36.s6 x0 v6_1 v6_2 v6_3)) v6_1 v6_2 v6_3 := by kernel_rfl
theorem Z36.e6 (x0 : List TEntry) : ∀ (n : Nat) (v6_1 : Int) (v6_2 : Int) (v6_3 : List Int), V.loopN (V.loopF Z36.E Tryz.f346.ntmps [1, 1, 0, 1, 0] [] (V.codeOf Tryz.f346) (Z36.kt x0)) n (Z36.s6 x0 v6_1 v6_2 v6_3) = Z36.l6 x0 n v6_1 v6_2 v6_3 := by
  intro n
  induction n with
  | zero => intros; rw [V.loopN_z]; rfl
  | succ n ih =>
    intro v6_1 v6_2 v6_3
    rw [V.loopN_s, Z36.r6]
    simp only [ih]
    first | exact (Z36.u6 ..).symm | rfl
theorem Z36.v (x0 : List TEntry) : V.evBody Z36.E Z36.con Tryz.f346 ((x0) : List TEntry) = Z36.b x0 (fun v6_1 v6_2 v6_3 => V.loopN (V.loopF Z36.E Tryz.f346.ntmps [1, 1, 0, 1, 0] [] (V.codeOf Tryz.f346) (Z36.kt x0)) V.KK (Z36.s6 x0 v6_1 v6_2 v6_3)) := by kernel_rfl
theorem Z36.eq (x0 : List TEntry) : V.evBody Z36.E Z36.con Tryz.f346 ((x0) : List TEntry) = Z36 x0 := by
  rw [Z36.v]
  simp only [Z36.e6]
  rfl
theorem Z36.ok : V.Valid Tryz.prog 346 Z36.con :=
  V.fo (V.tab_cons Z151.ok V.tab_nil) Tryz.func346 (by kernel_rfl) (fun x y h => (show V.evBody Z36.E Z36.con Tryz.f346 x = _ from Z36.eq x).trans (V.cfl (by kernel_rfl) h))
noncomputable abbrev Z124.con : V.Con := ⟨(.cons (.sl (.cons (.int .i64) .nil)) .nil), (.cons (.int .i64) .nil), fun (x : List Int) => Z124 x, [], [(false, 1)], [(false, 1)], [false], []⟩
noncomputable abbrev Z124.E : V.Env := V.mkE V.tys [(262, Z12.con)] [] [] [] [] []
theorem Z124.eq (x0 : List Int) : V.evBody Z124.E Z124.con Tryz.f407 ((x0) : List Int) = Z124 x0 := by kernel_rfl
theorem Z124.ok : V.Valid Tryz.prog 407 Z124.con :=
  V.fo (V.tab_cons Z12.ok V.tab_nil) Tryz.func407 (by kernel_rfl) (fun x y h => (show V.evBody Z124.E Z124.con Tryz.f407 x = _ from Z124.eq x).trans (V.cfl (by kernel_rfl) h))
noncomputable abbrev Z167.con : V.Con := ⟨(.cons (.int .i64) (.cons (.int .i64) .nil)), (.cons (.int .i64) .nil), fun (x : Int × Int) => Z167 x.1 x.2, [], [(false, 1), (false, 1)], [(false, 1)], [false], []⟩
noncomputable abbrev Z167.E : V.Env := V.mkE V.tys [(407, Z124.con)] [] [] [] [] []
theorem Z167.eq (x0 : Int) (x1 : Int) : V.evBody Z167.E Z167.con Tryz.f441 ((x0, x1) : Int × Int) = Z167 x0 x1 := by kernel_rfl
theorem Z167.ok : V.Valid Tryz.prog 441 Z167.con :=
  V.fo (V.tab_cons Z124.ok V.tab_nil) Tryz.func441 (by kernel_rfl) (fun x y h => (show V.evBody Z167.E Z167.con Tryz.f441 x = _ from Z167.eq x.1 x.2).trans (V.cfl (by kernel_rfl) h))
end Go.Proofs.YtmplinobompncaaGreat
