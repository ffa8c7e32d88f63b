/- That the functions compute it. -/
import Derived.Test.YtjjkidinelnmkaaGreatXExtendPure0
import Derived.Test.YtjjkidinelnmkaaGreatProg
namespace Go.Proofs.YtjjkidinelnmkaaGreat
set_option linter.unusedVariables false
set_option maxRecDepth 100000
namespace V
abbrev eHead : ETy := (.cons (.int .i64) (.cons (.int .i64) (.cons (.int .i64) (.cons (.int .i64) (.cons (.int .i64) (.cons (.int .i64) (.cons (.int .i64) (.cons (.int .i64) (.cons (.sl (.cons (.int .i64) .nil)) (.cons (.int .i64) (.cons (.sl (.cons (.int .i64) .nil)) (.cons (.int .i64) (.cons (.int .i64) (.cons (.sl (.cons (.int .i64) .nil)) (.cons (.int .i64) (.cons .bool .nil))))))))))))))))
abbrev eRHeadBool : ETy := (.cons (.int .i64) (.cons (.int .i64) (.cons (.int .i64) (.cons (.int .i64) (.cons (.int .i64) (.cons (.int .i64) (.cons (.int .i64) (.cons (.int .i64) (.cons (.sl (.cons (.int .i64) .nil)) (.cons (.int .i64) (.cons (.sl (.cons (.int .i64) .nil)) (.cons (.int .i64) (.cons (.int .i64) (.cons (.sl (.cons (.int .i64) .nil)) (.cons (.int .i64) (.cons .bool (.cons .bool .nil)))))))))))))))))
abbrev eSigned : ETy := (.cons (.int .i64) (.cons (.int .i64) (.cons (.int .i64) (.cons (.int .i64) (.cons (.int .i64) (.cons (.int .i64) (.cons (.int .i64) (.cons (.int .i64) (.cons (.sl (.cons (.int .i64) .nil)) (.cons (.int .i64) (.cons (.sl (.cons (.int .i64) .nil)) (.cons (.int .i64) (.cons (.int .i64) (.cons (.sl (.cons (.int .i64) .nil)) (.cons (.int .i64) (.cons .bool (.cons (.sl (.cons (.int .i64) (.cons (.int .i64) .nil))) .nil)))))))))))))))))
abbrev D0 : Type := Int × Int × Int × Int × Int × Int × Int × Int × List Int × Int × List Int × Int × Int × List Int × Int × Bool × Int
abbrev A0 : ETy := (.cons (.int .i64) (.cons (.int .i64) (.cons (.int .i64) (.cons (.int .i64) (.cons (.int .i64) (.cons (.int .i64) (.cons (.int .i64) (.cons (.int .i64) (.cons (.sl (.cons (.int .i64) .nil)) (.cons (.int .i64) (.cons (.sl (.cons (.int .i64) .nil)) (.cons (.int .i64) (.cons (.int .i64) (.cons (.sl (.cons (.int .i64) .nil)) (.cons (.int .i64) (.cons .bool (.cons (.int .i64) .nil)))))))))))))))))
abbrev fl0 (x0 : THead) (x1 : Int) : D0 := (x0.1, x0.2.1, x0.2.2.1, x0.2.2.2.1, x0.2.2.2.2.1, x0.2.2.2.2.2.1, x0.2.2.2.2.2.2.1, x0.2.2.2.2.2.2.2.1, x0.2.2.2.2.2.2.2.2.1, x0.2.2.2.2.2.2.2.2.2.1, x0.2.2.2.2.2.2.2.2.2.2.1, x0.2.2.2.2.2.2.2.2.2.2.2.1, x0.2.2.2.2.2.2.2.2.2.2.2.2.1, x0.2.2.2.2.2.2.2.2.2.2.2.2.2.1, x0.2.2.2.2.2.2.2.2.2.2.2.2.2.2.1, x0.2.2.2.2.2.2.2.2.2.2.2.2.2.2.2, x1)
abbrev p0_0 (x : D0) : THead := (x.1, x.2.1, x.2.2.1, x.2.2.2.1, x.2.2.2.2.1, x.2.2.2.2.2.1, x.2.2.2.2.2.2.1, x.2.2.2.2.2.2.2.1, x.2.2.2.2.2.2.2.2.1, x.2.2.2.2.2.2.2.2.2.1, x.2.2.2.2.2.2.2.2.2.2.1, x.2.2.2.2.2.2.2.2.2.2.2.1, x.2.2.2.2.2.2.2.2.2.2.2.2.1, x.2.2.2.2.2.2.2.2.2.2.2.2.2.1, x.2.2.2.2.2.2.2.2.2.2.2.2.2.2.1, x.2.2.2.2.2.2.2.2.2.2.2.2.2.2.2.1)
abbrev p0_1 (x : D0) : Int := x.2.2.2.2.2.2.2.2.2.2.2.2.2.2.2.2
abbrev D1 : Type := Int × Int × Int × Int × Int × Int × Int × Int × List Int × Int × List Int × Int × Int × List Int × Int × Bool × List TSig × Int
abbrev A1 : ETy := (.cons (.int .i64) (.cons (.int .i64) (.cons (.int .i64) (.cons (.int .i64) (.cons (.int .i64) (.cons (.int .i64) (.cons (.int .i64) (.cons (.int .i64) (.cons (.sl (.cons (.int .i64) .nil)) (.cons (.int .i64) (.cons (.sl (.cons (.int .i64) .nil)) (.cons (.int .i64) (.cons (.int .i64) (.cons (.sl (.cons (.int .i64) .nil)) (.cons (.int .i64) (.cons .bool (.cons (.sl (.cons (.int .i64) (.cons (.int .i64) .nil))) (.cons (.int .i64) .nil))))))))))))))))))
abbrev fl1 (x0 : TSigned) (x1 : Int) : D1 := (x0.1, x0.2.1, x0.2.2.1, x0.2.2.2.1, x0.2.2.2.2.1, x0.2.2.2.2.2.1, x0.2.2.2.2.2.2.1, x0.2.2.2.2.2.2.2.1, x0.2.2.2.2.2.2.2.2.1, x0.2.2.2.2.2.2.2.2.2.1, x0.2.2.2.2.2.2.2.2.2.2.1, x0.2.2.2.2.2.2.2.2.2.2.2.1, x0.2.2.2.2.2.2.2.2.2.2.2.2.1, x0.2.2.2.2.2.2.2.2.2.2.2.2.2.1, x0.2.2.2.2.2.2.2.2.2.2.2.2.2.2.1, x0.2.2.2.2.2.2.2.2.2.2.2.2.2.2.2.1, x0.2.2.2.2.2.2.2.2.2.2.2.2.2.2.2.2, x1)
abbrev p1_0 (x : D1) : TSigned := (x.1, x.2.1, x.2.2.1, x.2.2.2.1, x.2.2.2.2.1, x.2.2.2.2.2.1, x.2.2.2.2.2.2.1, x.2.2.2.2.2.2.2.1, x.2.2.2.2.2.2.2.2.1, x.2.2.2.2.2.2.2.2.2.1, x.2.2.2.2.2.2.2.2.2.2.1, x.2.2.2.2.2.2.2.2.2.2.2.1, x.2.2.2.2.2.2.2.2.2.2.2.2.1, x.2.2.2.2.2.2.2.2.2.2.2.2.2.1, x.2.2.2.2.2.2.2.2.2.2.2.2.2.2.1, x.2.2.2.2.2.2.2.2.2.2.2.2.2.2.2.1, x.2.2.2.2.2.2.2.2.2.2.2.2.2.2.2.2.1)
abbrev p1_1 (x : D1) : Int := x.2.2.2.2.2.2.2.2.2.2.2.2.2.2.2.2.2
abbrev D2 : Type := Int × Int × Int × Int × Int × Int × Int × Int × List Int × Int × List Int × Int × Int × List Int × Int × Bool
abbrev A2 : ETy := eHead
abbrev fl2 (x0 : THead) : D2 := (x0.1, x0.2.1, x0.2.2.1, x0.2.2.2.1, x0.2.2.2.2.1, x0.2.2.2.2.2.1, x0.2.2.2.2.2.2.1, x0.2.2.2.2.2.2.2.1, x0.2.2.2.2.2.2.2.2.1, x0.2.2.2.2.2.2.2.2.2.1, x0.2.2.2.2.2.2.2.2.2.2.1, x0.2.2.2.2.2.2.2.2.2.2.2.1, x0.2.2.2.2.2.2.2.2.2.2.2.2.1, x0.2.2.2.2.2.2.2.2.2.2.2.2.2.1, x0.2.2.2.2.2.2.2.2.2.2.2.2.2.2.1, x0.2.2.2.2.2.2.2.2.2.2.2.2.2.2.2)
abbrev p2_0 (x : D2) : THead := x
abbrev D3 : Type := Int × Int × Int × Int × Int × Int × Int × Int × List Int × Int × List Int × Int × Int × List Int × Int × Bool × List TSig
abbrev A3 : ETy := eSigned
abbrev fl3 (x0 : TSigned) : D3 := (x0.1, x0.2.1, x0.2.2.1, x0.2.2.2.1, x0.2.2.2.2.1, x0.2.2.2.2.2.1, x0.2.2.2.2.2.2.1, x0.2.2.2.2.2.2.2.1, x0.2.2.2.2.2.2.2.2.1, x0.2.2.2.2.2.2.2.2.2.1, x0.2.2.2.2.2.2.2.2.2.2.1, x0.2.2.2.2.2.2.2.2.2.2.2.1, x0.2.2.2.2.2.2.2.2.2.2.2.2.1, x0.2.2.2.2.2.2.2.2.2.2.2.2.2.1, x0.2.2.2.2.2.2.2.2.2.2.2.2.2.2.1, x0.2.2.2.2.2.2.2.2.2.2.2.2.2.2.2.1, x0.2.2.2.2.2.2.2.2.2.2.2.2.2.2.2.2)
abbrev p3_0 (x : D3) : TSigned := x
abbrev D4 : Type := Int × Int × Int × Int × Int × Int × Int × Int × List Int × Int × List Int × Int × Int × List Int × Int × Bool × Int × Int × Int × Int × Int × Int × Int × Int × List Int × Int × List Int × Int × Int × List Int × Int × Bool
abbrev A4 : ETy := (.cons (.int .i64) (.cons (.int .i64) (.cons (.int .i64) (.cons (.int .i64) (.cons (.int .i64) (.cons (.int .i64) (.cons (.int .i64) (.cons (.int .i64) (.cons (.sl (.cons (.int .i64) .nil)) (.cons (.int .i64) (.cons (.sl (.cons (.int .i64) .nil)) (.cons (.int .i64) (.cons (.int .i64) (.cons (.sl (.cons (.int .i64) .nil)) (.cons (.int .i64) (.cons .bool (.cons (.int .i64) (.cons (.int .i64) (.cons (.int .i64) (.cons (.int .i64) (.cons (.int .i64) (.cons (.int .i64) (.cons (.int .i64) (.cons (.int .i64) (.cons (.sl (.cons (.int .i64) .nil)) (.cons (.int .i64) (.cons (.sl (.cons (.int .i64) .nil)) (.cons (.int .i64) (.cons (.int .i64) (.cons (.sl (.cons (.int .i64) .nil)) (.cons (.int .i64) (.cons .bool .nil))))))))))))))))))))))))))))))))
abbrev fl4 (x0 : THead) (x1 : THead) : D4 := (x0.1, x0.2.1, x0.2.2.1, x0.2.2.2.1, x0.2.2.2.2.1, x0.2.2.2.2.2.1, x0.2.2.2.2.2.2.1, x0.2.2.2.2.2.2.2.1, x0.2.2.2.2.2.2.2.2.1, x0.2.2.2.2.2.2.2.2.2.1, x0.2.2.2.2.2.2.2.2.2.2.1, x0.2.2.2.2.2.2.2.2.2.2.2.1, x0.2.2.2.2.2.2.2.2.2.2.2.2.1, x0.2.2.2.2.2.2.2.2.2.2.2.2.2.1, x0.2.2.2.2.2.2.2.2.2.2.2.2.2.2.1, x0.2.2.2.2.2.2.2.2.2.2.2.2.2.2.2, x1.1, x1.2.1, x1.2.2.1, x1.2.2.2.1, x1.2.2.2.2.1, x1.2.2.2.2.2.1, x1.2.2.2.2.2.2.1, x1.2.2.2.2.2.2.2.1, x1.2.2.2.2.2.2.2.2.1, x1.2.2.2.2.2.2.2.2.2.1, x1.2.2.2.2.2.2.2.2.2.2.1, x1.2.2.2.2.2.2.2.2.2.2.2.1, x1.2.2.2.2.2.2.2.2.2.2.2.2.1, x1.2.2.2.2.2.2.2.2.2.2.2.2.2.1, x1.2.2.2.2.2.2.2.2.2.2.2.2.2.2.1, x1.2.2.2.2.2.2.2.2.2.2.2.2.2.2.2)
abbrev p4_0 (x : D4) : THead := (x.1, x.2.1, x.2.2.1, x.2.2.2.1, x.2.2.2.2.1, x.2.2.2.2.2.1, x.2.2.2.2.2.2.1, x.2.2.2.2.2.2.2.1, x.2.2.2.2.2.2.2.2.1, x.2.2.2.2.2.2.2.2.2.1, x.2.2.2.2.2.2.2.2.2.2.1, x.2.2.2.2.2.2.2.2.2.2.2.1, x.2.2.2.2.2.2.2.2.2.2.2.2.1, x.2.2.2.2.2.2.2.2.2.2.2.2.2.1, x.2.2.2.2.2.2.2.2.2.2.2.2.2.2.1, x.2.2.2.2.2.2.2.2.2.2.2.2.2.2.2.1)
abbrev p4_1 (x : D4) : THead := x.2.2.2.2.2.2.2.2.2.2.2.2.2.2.2.2
abbrev D5 : Type := Int × Int × Int × Int × Int × Int × Int × Int × List Int × Int × List Int × Int × Int × List Int × Int × Bool × Int × Int × Int × Int × Int × Int × Int × Int × List Int × Int × List Int × Int × Int × List Int × Int × Bool × List TSig
abbrev A5 : ETy := (.cons (.int .i64) (.cons (.int .i64) (.cons (.int .i64) (.cons (.int .i64) (.cons (.int .i64) (.cons (.int .i64) (.cons (.int .i64) (.cons (.int .i64) (.cons (.sl (.cons (.int .i64) .nil)) (.cons (.int .i64) (.cons (.sl (.cons (.int .i64) .nil)) (.cons (.int .i64) (.cons (.int .i64) (.cons (.sl (.cons (.int .i64) .nil)) (.cons (.int .i64) (.cons .bool (.cons (.int .i64) (.cons (.int .i64) (.cons (.int .i64) (.cons (.int .i64) (.cons (.int .i64) (.cons (.int .i64) (.cons (.int .i64) (.cons (.int .i64) (.cons (.sl (.cons (.int .i64) .nil)) (.cons (.int .i64) (.cons (.sl (.cons (.int .i64) .nil)) (.cons (.int .i64) (.cons (.int .i64) (.cons (.sl (.cons (.int .i64) .nil)) (.cons (.int .i64) (.cons .bool (.cons (.sl (.cons (.int .i64) (.cons (.int .i64) .nil))) .nil)))))))))))))))))))))))))))))))))
abbrev fl5 (x0 : THead) (x1 : TSigned) : D5 := (x0.1, x0.2.1, x0.2.2.1, x0.2.2.2.1, x0.2.2.2.2.1, x0.2.2.2.2.2.1, x0.2.2.2.2.2.2.1, x0.2.2.2.2.2.2.2.1, x0.2.2.2.2.2.2.2.2.1, x0.2.2.2.2.2.2.2.2.2.1, x0.2.2.2.2.2.2.2.2.2.2.1, x0.2.2.2.2.2.2.2.2.2.2.2.1, x0.2.2.2.2.2.2.2.2.2.2.2.2.1, x0.2.2.2.2.2.2.2.2.2.2.2.2.2.1, x0.2.2.2.2.2.2.2.2.2.2.2.2.2.2.1, x0.2.2.2.2.2.2.2.2.2.2.2.2.2.2.2, x1.1, x1.2.1, x1.2.2.1, x1.2.2.2.1, x1.2.2.2.2.1, x1.2.2.2.2.2.1, x1.2.2.2.2.2.2.1, x1.2.2.2.2.2.2.2.1, x1.2.2.2.2.2.2.2.2.1, x1.2.2.2.2.2.2.2.2.2.1, x1.2.2.2.2.2.2.2.2.2.2.1, x1.2.2.2.2.2.2.2.2.2.2.2.1, x1.2.2.2.2.2.2.2.2.2.2.2.2.1, x1.2.2.2.2.2.2.2.2.2.2.2.2.2.1, x1.2.2.2.2.2.2.2.2.2.2.2.2.2.2.1, x1.2.2.2.2.2.2.2.2.2.2.2.2.2.2.2.1, x1.2.2.2.2.2.2.2.2.2.2.2.2.2.2.2.2)
abbrev p5_0 (x : D5) : THead := (x.1, x.2.1, x.2.2.1, x.2.2.2.1, x.2.2.2.2.1, x.2.2.2.2.2.1, x.2.2.2.2.2.2.1, x.2.2.2.2.2.2.2.1, x.2.2.2.2.2.2.2.2.1, x.2.2.2.2.2.2.2.2.2.1, x.2.2.2.2.2.2.2.2.2.2.1, x.2.2.2.2.2.2.2.2.2.2.2.1, x.2.2.2.2.2.2.2.2.2.2.2.2.1, x.2.2.2.2.2.2.2.2.2.2.2.2.2.1, x.2.2.2.2.2.2.2.2.2.2.2.2.2.2.1, x.2.2.2.2.2.2.2.2.2.2.2.2.2.2.2.1)
abbrev p5_1 (x : D5) : TSigned := x.2.2.2.2.2.2.2.2.2.2.2.2.2.2.2.2
abbrev D6 : Type := List TSigned × Int × Int × Int × Int × Int × Int × Int × Int × List Int × Int × List Int × Int × Int × List Int × Int × Bool × List TSig
abbrev A6 : ETy := (.cons (.sl eSigned) (.cons (.int .i64) (.cons (.int .i64) (.cons (.int .i64) (.cons (.int .i64) (.cons (.int .i64) (.cons (.int .i64) (.cons (.int .i64) (.cons (.int .i64) (.cons (.sl (.cons (.int .i64) .nil)) (.cons (.int .i64) (.cons (.sl (.cons (.int .i64) .nil)) (.cons (.int .i64) (.cons (.int .i64) (.cons (.sl (.cons (.int .i64) .nil)) (.cons (.int .i64) (.cons .bool (.cons (.sl (.cons (.int .i64) (.cons (.int .i64) .nil))) .nil))))))))))))))))))
abbrev fl6 (x0 : List TSigned) (x1 : TSigned) : D6 := (x0, x1.1, x1.2.1, x1.2.2.1, x1.2.2.2.1, x1.2.2.2.2.1, x1.2.2.2.2.2.1, x1.2.2.2.2.2.2.1, x1.2.2.2.2.2.2.2.1, x1.2.2.2.2.2.2.2.2.1, x1.2.2.2.2.2.2.2.2.2.1, x1.2.2.2.2.2.2.2.2.2.2.1, x1.2.2.2.2.2.2.2.2.2.2.2.1, x1.2.2.2.2.2.2.2.2.2.2.2.2.1, x1.2.2.2.2.2.2.2.2.2.2.2.2.2.1, x1.2.2.2.2.2.2.2.2.2.2.2.2.2.2.1, x1.2.2.2.2.2.2.2.2.2.2.2.2.2.2.2.1, x1.2.2.2.2.2.2.2.2.2.2.2.2.2.2.2.2)
abbrev p6_0 (x : D6) : List TSigned := x.1
abbrev p6_1 (x : D6) : TSigned := x.2
abbrev D7 : Type := Int × Int × Int × Int × Int × Int × Int × Int × List Int × Int × List Int × Int × Int × List Int × Int × Bool × List TSig × List Int × Int
abbrev A7 : ETy := (.cons (.int .i64) (.cons (.int .i64) (.cons (.int .i64) (.cons (.int .i64) (.cons (.int .i64) (.cons (.int .i64) (.cons (.int .i64) (.cons (.int .i64) (.cons (.sl (.cons (.int .i64) .nil)) (.cons (.int .i64) (.cons (.sl (.cons (.int .i64) .nil)) (.cons (.int .i64) (.cons (.int .i64) (.cons (.sl (.cons (.int .i64) .nil)) (.cons (.int .i64) (.cons .bool (.cons (.sl (.cons (.int .i64) (.cons (.int .i64) .nil))) (.cons (.sl (.cons (.int .i64) .nil)) (.cons (.int .i64) .nil)))))))))))))))))))
abbrev fl7 (x0 : TSigned) (x1 : TKeys) : D7 := (x0.1, x0.2.1, x0.2.2.1, x0.2.2.2.1, x0.2.2.2.2.1, x0.2.2.2.2.2.1, x0.2.2.2.2.2.2.1, x0.2.2.2.2.2.2.2.1, x0.2.2.2.2.2.2.2.2.1, x0.2.2.2.2.2.2.2.2.2.1, x0.2.2.2.2.2.2.2.2.2.2.1, x0.2.2.2.2.2.2.2.2.2.2.2.1, x0.2.2.2.2.2.2.2.2.2.2.2.2.1, x0.2.2.2.2.2.2.2.2.2.2.2.2.2.1, x0.2.2.2.2.2.2.2.2.2.2.2.2.2.2.1, x0.2.2.2.2.2.2.2.2.2.2.2.2.2.2.2.1, x0.2.2.2.2.2.2.2.2.2.2.2.2.2.2.2.2, x1.1, x1.2)
abbrev p7_0 (x : D7) : TSigned := (x.1, x.2.1, x.2.2.1, x.2.2.2.1, x.2.2.2.2.1, x.2.2.2.2.2.1, x.2.2.2.2.2.2.1, x.2.2.2.2.2.2.2.1, x.2.2.2.2.2.2.2.2.1, x.2.2.2.2.2.2.2.2.2.1, x.2.2.2.2.2.2.2.2.2.2.1, x.2.2.2.2.2.2.2.2.2.2.2.1, x.2.2.2.2.2.2.2.2.2.2.2.2.1, x.2.2.2.2.2.2.2.2.2.2.2.2.2.1, x.2.2.2.2.2.2.2.2.2.2.2.2.2.2.1, x.2.2.2.2.2.2.2.2.2.2.2.2.2.2.2.1, x.2.2.2.2.2.2.2.2.2.2.2.2.2.2.2.2.1)
abbrev p7_1 (x : D7) : TKeys := x.2.2.2.2.2.2.2.2.2.2.2.2.2.2.2.2.2
abbrev D8 : Type := Int × Int × Int × Int × Int × Int × Int × Int × List Int × Int × List Int × Int × Int × List Int × Int × Bool × List TSig × Int × Int × Int × Int × Int × Int × Int × Int × List Int × Int × List Int × Int × Int × List Int × Int × Bool × List TSig
abbrev A8 : ETy := (.cons (.int .i64) (.cons (.int .i64) (.cons (.int .i64) (.cons (.int .i64) (.cons (.int .i64) (.cons (.int .i64) (.cons (.int .i64) (.cons (.int .i64) (.cons (.sl (.cons (.int .i64) .nil)) (.cons (.int .i64) (.cons (.sl (.cons (.int .i64) .nil)) (.cons (.int .i64) (.cons (.int .i64) (.cons (.sl (.cons (.int .i64) .nil)) (.cons (.int .i64) (.cons .bool (.cons (.sl (.cons (.int .i64) (.cons (.int .i64) .nil))) (.cons (.int .i64) (.cons (.int .i64) (.cons (.int .i64) (.cons (.int .i64) (.cons (.int .i64) (.cons (.int .i64) (.cons (.int .i64) (.cons (.int .i64) (.cons (.sl (.cons (.int .i64) .nil)) (.cons (.int .i64) (.cons (.sl (.cons (.int .i64) .nil)) (.cons (.int .i64) (.cons (.int .i64) (.cons (.sl (.cons (.int .i64) .nil)) (.cons (.int .i64) (.cons .bool (.cons (.sl (.cons (.int .i64) (.cons (.int .i64) .nil))) .nil))))))))))))))))))))))))))))))))))
abbrev fl8 (x0 : TSigned) (x1 : TSigned) : D8 := (x0.1, x0.2.1, x0.2.2.1, x0.2.2.2.1, x0.2.2.2.2.1, x0.2.2.2.2.2.1, x0.2.2.2.2.2.2.1, x0.2.2.2.2.2.2.2.1, x0.2.2.2.2.2.2.2.2.1, x0.2.2.2.2.2.2.2.2.2.1, x0.2.2.2.2.2.2.2.2.2.2.1, x0.2.2.2.2.2.2.2.2.2.2.2.1, x0.2.2.2.2.2.2.2.2.2.2.2.2.1, x0.2.2.2.2.2.2.2.2.2.2.2.2.2.1, x0.2.2.2.2.2.2.2.2.2.2.2.2.2.2.1, x0.2.2.2.2.2.2.2.2.2.2.2.2.2.2.2.1, x0.2.2.2.2.2.2.2.2.2.2.2.2.2.2.2.2, x1.1, x1.2.1, x1.2.2.1, x1.2.2.2.1, x1.2.2.2.2.1, x1.2.2.2.2.2.1, x1.2.2.2.2.2.2.1, x1.2.2.2.2.2.2.2.1, x1.2.2.2.2.2.2.2.2.1, x1.2.2.2.2.2.2.2.2.2.1, x1.2.2.2.2.2.2.2.2.2.2.1, x1.2.2.2.2.2.2.2.2.2.2.2.1, x1.2.2.2.2.2.2.2.2.2.2.2.2.1, x1.2.2.2.2.2.2.2.2.2.2.2.2.2.1, x1.2.2.2.2.2.2.2.2.2.2.2.2.2.2.1, x1.2.2.2.2.2.2.2.2.2.2.2.2.2.2.2.1, x1.2.2.2.2.2.2.2.2.2.2.2.2.2.2.2.2)
abbrev p8_0 (x : D8) : TSigned := (x.1, x.2.1, x.2.2.1, x.2.2.2.1, x.2.2.2.2.1, x.2.2.2.2.2.1, x.2.2.2.2.2.2.1, x.2.2.2.2.2.2.2.1, x.2.2.2.2.2.2.2.2.1, x.2.2.2.2.2.2.2.2.2.1, x.2.2.2.2.2.2.2.2.2.2.1, x.2.2.2.2.2.2.2.2.2.2.2.1, x.2.2.2.2.2.2.2.2.2.2.2.2.1, x.2.2.2.2.2.2.2.2.2.2.2.2.2.1, x.2.2.2.2.2.2.2.2.2.2.2.2.2.2.1, x.2.2.2.2.2.2.2.2.2.2.2.2.2.2.2.1, x.2.2.2.2.2.2.2.2.2.2.2.2.2.2.2.2.1)
abbrev p8_1 (x : D8) : TSigned := x.2.2.2.2.2.2.2.2.2.2.2.2.2.2.2.2.2
abbrev tys : List (Nat × TI) := [(3, ⟨.int .i64, false, [.val (.int .i64 (0 : Int))], 8, [], (.cons (.int .i64) .nil)⟩),
  (4, ⟨.bool, false, [.val (.bool false)], 1, [], (.cons .bool .nil)⟩),
  (22, ⟨.sl 68, false, [.nil0], 24, [], (.cons (.sl V.eSigned) .nil)⟩),
  (24, ⟨.sl 3, false, [.nil0], 24, [], (.cons (.sl (.cons (.int .i64) .nil)) .nil)⟩),
  (26, ⟨.st, false, [.nil0, .val (.int .i64 (0 : Int))], 32, [(0, 1, false), (1, 1, false)], (.cons (.sl (.cons (.int .i64) .nil)) (.cons (.int .i64) .nil))⟩),
  (28, ⟨.st, false, [.val (.int .i64 (0 : Int)), .val (.int .i64 (0 : Int)), .val (.int .i64 (0 : Int)), .val (.int .i64 (0 : Int)), .val (.int .i64 (0 : Int)), .val (.int .i64 (0 : Int)), .val (.int .i64 (0 : Int)), .val (.int .i64 (0 : Int)), .nil0, .val (.int .i64 (0 : Int)), .nil0, .val (.int .i64 (0 : Int)), .val (.int .i64 (0 : Int)), .nil0, .val (.int .i64 (0 : Int)), .val (.bool false)], 176, [(0, 1, false), (1, 1, false), (2, 1, false), (3, 1, false), (4, 1, false), (5, 1, false), (6, 1, false), (7, 1, false), (8, 2, true), (10, 2, true), (12, 1, false), (13, 2, true), (15, 1, false)], V.eHead⟩),
  (31, ⟨.sl 74, false, [.nil0], 24, [], (.cons (.sl V.eSigned) .nil)⟩),
  (38, ⟨.st, false, [.nil0, .val (.int .i64 (0 : Int))], 32, [(0, 1, false), (1, 1, false)], (.cons (.sl (.cons (.int .i64) .nil)) (.cons (.int .i64) .nil))⟩),
  (40, ⟨.st, false, [.val (.int .i64 (0 : Int)), .val (.int .i64 (0 : Int)), .val (.int .i64 (0 : Int)), .val (.int .i64 (0 : Int)), .val (.int .i64 (0 : Int)), .val (.int .i64 (0 : Int)), .val (.int .i64 (0 : Int)), .val (.int .i64 (0 : Int)), .nil0, .val (.int .i64 (0 : Int)), .nil0, .val (.int .i64 (0 : Int)), .val (.int .i64 (0 : Int)), .nil0, .val (.int .i64 (0 : Int)), .val (.bool false)], 176, [(0, 1, false), (1, 1, false), (2, 1, false), (3, 1, false), (4, 1, false), (5, 1, false), (6, 1, false), (7, 1, false), (8, 2, true), (10, 2, true), (12, 1, false), (13, 2, true), (15, 1, false)], V.eHead⟩),
  (66, ⟨.sl 241, false, [.nil0], 24, [], (.cons (.sl (.cons (.int .i64) (.cons (.int .i64) .nil))) .nil)⟩),
  (68, ⟨.st, false, [.val (.int .i64 (0 : Int)), .val (.int .i64 (0 : Int)), .val (.int .i64 (0 : Int)), .val (.int .i64 (0 : Int)), .val (.int .i64 (0 : Int)), .val (.int .i64 (0 : Int)), .val (.int .i64 (0 : Int)), .val (.int .i64 (0 : Int)), .nil0, .val (.int .i64 (0 : Int)), .nil0, .val (.int .i64 (0 : Int)), .val (.int .i64 (0 : Int)), .nil0, .val (.int .i64 (0 : Int)), .val (.bool false), .nil0], 200, [(0, 16, true), (16, 1, false)], V.eSigned⟩),
  (72, ⟨.sl 94, false, [.nil0], 24, [], (.cons (.sl (.cons (.int .i64) (.cons (.int .i64) .nil))) .nil)⟩),
  (74, ⟨.st, false, [.val (.int .i64 (0 : Int)), .val (.int .i64 (0 : Int)), .val (.int .i64 (0 : Int)), .val (.int .i64 (0 : Int)), .val (.int .i64 (0 : Int)), .val (.int .i64 (0 : Int)), .val (.int .i64 (0 : Int)), .val (.int .i64 (0 : Int)), .nil0, .val (.int .i64 (0 : Int)), .nil0, .val (.int .i64 (0 : Int)), .val (.int .i64 (0 : Int)), .nil0, .val (.int .i64 (0 : Int)), .val (.bool false), .nil0], 200, [(0, 16, true), (16, 1, false)], V.eSigned⟩),
  (94, ⟨.st, true, [.val (.int .i64 (0 : Int)), .val (.int .i64 (0 : Int))], 16, [(0, 1, false), (1, 1, false)], (.cons (.int .i64) (.cons (.int .i64) .nil))⟩),
  (241, ⟨.st, true, [.val (.int .i64 (0 : Int)), .val (.int .i64 (0 : Int))], 16, [(0, 1, false), (1, 1, false)], (.cons (.int .i64) (.cons (.int .i64) .nil))⟩),
  (271, ⟨.sl 24, false, [.nil0], 24, [], (.cons (.sl (.cons (.sl (.cons (.int .i64) .nil)) .nil)) .nil)⟩)]
theorem tysOk : tyAll Tryz.prog tys = true := by kernel_rfl
theorem mixed : Tryz.prog.follows .mixedOrders = true := by kernel_rfl
end V
noncomputable abbrev laws_szIntS.con : V.Con := ⟨(.cons (.sl (.cons (.int .i64) .nil)) (.cons (.int .i64) .nil)), (.cons (.int .i64) .nil), fun (x : List Int × Int) => laws_szIntS x.1 x.2, [], [(false, 1), (false, 1)], [(false, 1)], [false], []⟩
noncomputable abbrev laws_szIntS.E : V.Env := V.mkE V.tys [] [] [] [] [] []
noncomputable abbrev laws_szIntS.kt (x0 : List Int) (x1 : Int) : V.Kt Int := V.ktOf laws_szIntS.E laws_szIntS.con Tryz.f164 ((x0, x1) : List Int × Int)
theorem laws_szIntS.eq (x0 : List Int) (x1 : Int) : V.evBody laws_szIntS.E laws_szIntS.con Tryz.f164 ((x0, x1) : List Int × Int) = laws_szIntS x0 x1 := by kernel_rfl
theorem laws_szIntS.ok : V.Valid Tryz.prog 164 laws_szIntS.con :=
  V.body_ok (V.env_ok V.mixed V.tysOk V.tab_nil) Tryz.func164 (by kernel_rfl) (by kernel_rfl) (by kernel_rfl) (fun x y h => (show V.evBody laws_szIntS.E laws_szIntS.con Tryz.f164 x = _ from laws_szIntS.eq x.1 x.2).trans h)
noncomputable abbrev laws_szKeys.con : V.Con := ⟨(.cons (.sl (.cons (.int .i64) .nil)) (.cons (.int .i64) (.cons (.int .i64) .nil))), (.cons (.int .i64) .nil), fun (x : List Int × Int × Int) => laws_szKeys (x.1, x.2.1) x.2.2, [], [(true, 2), (false, 1)], [(false, 1)], [false], []⟩
noncomputable abbrev laws_szKeys.E : V.Env := V.mkE V.tys [(164, laws_szIntS.con)] [] [] [] [] []
noncomputable abbrev laws_szKeys.kt (x0 : TKeys) (x1 : Int) : V.Kt Int := V.ktOf laws_szKeys.E laws_szKeys.con Tryz.f72 ((x0.1, x0.2, x1) : List Int × Int × Int)
theorem laws_szKeys.eq (x0 : TKeys) (x1 : Int) : V.evBody laws_szKeys.E laws_szKeys.con Tryz.f72 ((x0.1, x0.2, x1) : List Int × Int × Int) = laws_szKeys x0 x1 := by kernel_rfl
theorem laws_szKeys.ok : V.Valid Tryz.prog 72 laws_szKeys.con :=
  V.body_ok (V.env_ok V.mixed V.tysOk (V.tab_cons laws_szIntS.ok V.tab_nil)) Tryz.func72 (by kernel_rfl) (by kernel_rfl) (by kernel_rfl) (fun x y h => (show V.evBody laws_szKeys.E laws_szKeys.con Tryz.f72 x = _ from laws_szKeys.eq (x.1, x.2.1) x.2.2).trans h)
noncomputable abbrev laws_szHead.con : V.Con := ⟨V.A0, (.cons (.int .i64) .nil), fun (x : V.D0) => laws_szHead (V.p0_0 x) (V.p0_1 x), [], [(true, 16), (false, 1)], [(false, 1)], [false], []⟩
noncomputable abbrev laws_szHead.E : V.Env := V.mkE V.tys [(72, laws_szKeys.con)] [] [] [] [] []
noncomputable abbrev laws_szHead.kt (x0 : THead) (x1 : Int) : V.Kt Int := V.ktOf laws_szHead.E laws_szHead.con Tryz.f24 (V.fl0 x0 x1)
noncomputable abbrev laws_szHead.s (x0 : THead) (x1 : Int) : V.St := ⟨[(0, .v true [.val (.int .i64 x0.1), .val (.int .i64 x0.2.1), .val (.int .i64 x0.2.2.1), .val (.int .i64 x0.2.2.2.1), .val (.int .i64 x0.2.2.2.2.1), .val (.int .i64 x0.2.2.2.2.2.1), .val (.int .i64 x0.2.2.2.2.2.2.1), .val (.int .i64 x0.2.2.2.2.2.2.2.1), .val (.sl (.cons (.int .i64) .nil) x0.2.2.2.2.2.2.2.2.1), .val (.int .i64 x0.2.2.2.2.2.2.2.2.2.1), .val (.sl (.cons (.int .i64) .nil) x0.2.2.2.2.2.2.2.2.2.2.1), .val (.int .i64 x0.2.2.2.2.2.2.2.2.2.2.2.1), .val (.int .i64 x0.2.2.2.2.2.2.2.2.2.2.2.2.1), .val (.sl (.cons (.int .i64) .nil) x0.2.2.2.2.2.2.2.2.2.2.2.2.2.1), .val (.int .i64 x0.2.2.2.2.2.2.2.2.2.2.2.2.2.2.1), .val (.bool x0.2.2.2.2.2.2.2.2.2.2.2.2.2.2.2)]), (1, .v false [.val (.int .i64 x1)])], []⟩
theorem laws_szHead.v0 (x0 : THead) (x1 : Int) : V.evBody laws_szHead.E laws_szHead.con Tryz.f24 (V.fl0 x0 x1) = V.evC laws_szHead.E Tryz.f24.ntmps (V.codeOf Tryz.f24) (laws_szHead.kt x0 x1) (laws_szHead.s x0 x1) := by kernel_rfl
theorem laws_szHead.v (x0 : THead) (x1 : Int) : V.evC laws_szHead.E Tryz.f24.ntmps (V.codeOf Tryz.f24) (laws_szHead.kt x0 x1) (laws_szHead.s x0 x1) = laws_szHead x0 x1 := by kernel_rfl
theorem laws_szHead.eq (x0 : THead) (x1 : Int) : V.evBody laws_szHead.E laws_szHead.con Tryz.f24 (V.fl0 x0 x1) = laws_szHead x0 x1 := (laws_szHead.v0 x0 x1).trans (laws_szHead.v x0 x1)
theorem laws_szHead.ok : V.Valid Tryz.prog 24 laws_szHead.con :=
  V.body_ok (V.env_ok V.mixed V.tysOk (V.tab_cons laws_szKeys.ok V.tab_nil)) Tryz.func24 (by kernel_rfl) (by kernel_rfl) (by kernel_rfl) (fun x y h => (show V.evBody laws_szHead.E laws_szHead.con Tryz.f24 x = _ from laws_szHead.eq (V.p0_0 x) (V.p0_1 x)).trans h)
noncomputable abbrev laws_szSigS.con : V.Con := ⟨(.cons (.sl (.cons (.int .i64) (.cons (.int .i64) .nil))) (.cons (.int .i64) .nil)), (.cons (.int .i64) .nil), fun (x : List TSig × Int) => laws_szSigS x.1 x.2, [], [(false, 1), (false, 1)], [(false, 1)], [false], []⟩
noncomputable abbrev laws_szSigS.E : V.Env := V.mkE V.tys [] [] [] [] [] []
noncomputable abbrev laws_szSigS.kt (x0 : List TSig) (x1 : Int) : V.Kt Int := V.ktOf laws_szSigS.E laws_szSigS.con Tryz.f116 ((x0, x1) : List TSig × Int)
theorem laws_szSigS.eq (x0 : List TSig) (x1 : Int) : V.evBody laws_szSigS.E laws_szSigS.con Tryz.f116 ((x0, x1) : List TSig × Int) = laws_szSigS x0 x1 := by kernel_rfl
theorem laws_szSigS.ok : V.Valid Tryz.prog 116 laws_szSigS.con :=
  V.body_ok (V.env_ok V.mixed V.tysOk V.tab_nil) Tryz.func116 (by kernel_rfl) (by kernel_rfl) (by kernel_rfl) (fun x y h => (show V.evBody laws_szSigS.E laws_szSigS.con Tryz.f116 x = _ from laws_szSigS.eq x.1 x.2).trans h)
noncomputable abbrev laws_szSigned.con : V.Con := ⟨V.A1, (.cons (.int .i64) .nil), fun (x : V.D1) => laws_szSigned (V.p1_0 x) (V.p1_1 x), [], [(true, 17), (false, 1)], [(false, 1)], [false], []⟩
noncomputable abbrev laws_szSigned.E : V.Env := V.mkE V.tys [(24, laws_szHead.con), (116, laws_szSigS.con)] [] [] [] [] []
noncomputable abbrev laws_szSigned.kt (x0 : TSigned) (x1 : Int) : V.Kt Int := V.ktOf laws_szSigned.E laws_szSigned.con Tryz.f39 (V.fl1 x0 x1)
noncomputable abbrev laws_szSigned.s (x0 : TSigned) (x1 : Int) : V.St := ⟨[(0, .v true [.val (.int .i64 x0.1), .val (.int .i64 x0.2.1), .val (.int .i64 x0.2.2.1), .val (.int .i64 x0.2.2.2.1), .val (.int .i64 x0.2.2.2.2.1), .val (.int .i64 x0.2.2.2.2.2.1), .val (.int .i64 x0.2.2.2.2.2.2.1), .val (.int .i64 x0.2.2.2.2.2.2.2.1), .val (.sl (.cons (.int .i64) .nil) x0.2.2.2.2.2.2.2.2.1), .val (.int .i64 x0.2.2.2.2.2.2.2.2.2.1), .val (.sl (.cons (.int .i64) .nil) x0.2.2.2.2.2.2.2.2.2.2.1), .val (.int .i64 x0.2.2.2.2.2.2.2.2.2.2.2.1), .val (.int .i64 x0.2.2.2.2.2.2.2.2.2.2.2.2.1), .val (.sl (.cons (.int .i64) .nil) x0.2.2.2.2.2.2.2.2.2.2.2.2.2.1), .val (.int .i64 x0.2.2.2.2.2.2.2.2.2.2.2.2.2.2.1), .val (.bool x0.2.2.2.2.2.2.2.2.2.2.2.2.2.2.2.1), .val (.sl (.cons (.int .i64) (.cons (.int .i64) .nil)) x0.2.2.2.2.2.2.2.2.2.2.2.2.2.2.2.2)]), (1, .v false [.val (.int .i64 x1)])], []⟩
theorem laws_szSigned.v0 (x0 : TSigned) (x1 : Int) : V.evBody laws_szSigned.E laws_szSigned.con Tryz.f39 (V.fl1 x0 x1) = V.evC laws_szSigned.E Tryz.f39.ntmps (V.codeOf Tryz.f39) (laws_szSigned.kt x0 x1) (laws_szSigned.s x0 x1) := by kernel_rfl
theorem laws_szSigned.v (x0 : TSigned) (x1 : Int) : V.evC laws_szSigned.E Tryz.f39.ntmps (V.codeOf Tryz.f39) (laws_szSigned.kt x0 x1) (laws_szSigned.s x0 x1) = laws_szSigned x0 x1 := by kernel_rfl
theorem laws_szSigned.eq (x0 : TSigned) (x1 : Int) : V.evBody laws_szSigned.E laws_szSigned.con Tryz.f39 (V.fl1 x0 x1) = laws_szSigned x0 x1 := (laws_szSigned.v0 x0 x1).trans (laws_szSigned.v x0 x1)
theorem laws_szSigned.ok : V.Valid Tryz.prog 39 laws_szSigned.con :=
  V.body_ok (V.env_ok V.mixed V.tysOk (V.tab_cons laws_szHead.ok (V.tab_cons laws_szSigS.ok V.tab_nil))) Tryz.func39 (by kernel_rfl) (by kernel_rfl) (by kernel_rfl) (fun x y h => (show V.evBody laws_szSigned.E laws_szSigned.con Tryz.f39 x = _ from laws_szSigned.eq (V.p1_0 x) (V.p1_1 x)).trans h)
noncomputable abbrev laws_szSignedS.con : V.Con := ⟨(.cons (.sl V.eSigned) (.cons (.int .i64) .nil)), (.cons (.int .i64) .nil), fun (x : List TSigned × Int) => laws_szSignedS x.1 x.2, [], [(false, 1), (false, 1)], [(false, 1)], [false], []⟩
noncomputable abbrev laws_szSignedS.E : V.Env := V.mkE V.tys [(39, laws_szSigned.con)] [(10, [0, 1, 5], [])] [] [] [] []
noncomputable abbrev laws_szSignedS.kt (x0 : List TSigned) (x1 : Int) : V.Kt Int := V.ktOf laws_szSignedS.E laws_szSignedS.con Tryz.f15 ((x0, x1) : List TSigned × Int)
noncomputable abbrev laws_szSignedS.s10 (x0 : List TSigned) (v10_1 : Int) (v10_2 : Int) : V.St := ⟨[(0, .v false [.val (.sl V.eSigned x0)]), (1, .v false [.val (.int .i64 v10_1)]), (5, .v false [.val (.int .i64 v10_2)])], []⟩
theorem laws_szSignedS.r10 (x0 : List TSigned) (x1 : Int) (R : V.St → Option Int) (v10_1 : Int) (v10_2 : Int) : V.loopF laws_szSignedS.E Tryz.f15.ntmps [1, 1, 1, 0, 1, 0] [] (V.codeOf Tryz.f15) (laws_szSignedS.kt x0 x1) R (laws_szSignedS.s10 x0 v10_1 v10_2) = laws_szSignedS.g10 x0 (fun v10_1 v10_2 => R (laws_szSignedS.s10 x0 v10_1 v10_2)) v10_1 v10_2 := by kernel_rfl
theorem laws_szSignedS.e10 (x0 : List TSigned) (x1 : Int) : ∀ (n : Nat) (v10_1 : Int) (v10_2 : Int), V.loopN (V.loopF laws_szSignedS.E Tryz.f15.ntmps [1, 1, 1, 0, 1, 0] [] (V.codeOf Tryz.f15) (laws_szSignedS.kt x0 x1)) n (laws_szSignedS.s10 x0 v10_1 v10_2) = laws_szSignedS.l10 x0 n v10_1 v10_2 := by
  intro n
  induction n with
  | zero => intros; rfl
  | succ n ih =>
    intro v10_1 v10_2
    show V.loopF laws_szSignedS.E Tryz.f15.ntmps [1, 1, 1, 0, 1, 0] [] (V.codeOf Tryz.f15) (laws_szSignedS.kt x0 x1) (V.loopN (V.loopF laws_szSignedS.E Tryz.f15.ntmps [1, 1, 1, 0, 1, 0] [] (V.codeOf Tryz.f15) (laws_szSignedS.kt x0 x1)) n) (laws_szSignedS.s10 x0 v10_1 v10_2) = _
    rw [laws_szSignedS.r10]
    simp only [ih]
    rfl
theorem laws_szSignedS.v (x0 : List TSigned) (x1 : Int) : V.evBody laws_szSignedS.E laws_szSignedS.con Tryz.f15 ((x0, x1) : List TSigned × Int) = laws_szSignedS.b x0 x1 (fun v10_1 v10_2 => V.loopN (V.loopF laws_szSignedS.E Tryz.f15.ntmps [1, 1, 1, 0, 1, 0] [] (V.codeOf Tryz.f15) (laws_szSignedS.kt x0 x1)) V.KK (laws_szSignedS.s10 x0 v10_1 v10_2)) := by kernel_rfl
theorem laws_szSignedS.eq (x0 : List TSigned) (x1 : Int) : V.evBody laws_szSignedS.E laws_szSignedS.con Tryz.f15 ((x0, x1) : List TSigned × Int) = laws_szSignedS x0 x1 := by
  rw [laws_szSignedS.v]
  simp only [laws_szSignedS.e10]
  rfl
theorem laws_szSignedS.ok : V.Valid Tryz.prog 15 laws_szSignedS.con :=
  V.body_ok (V.env_ok V.mixed V.tysOk (V.tab_cons laws_szSigned.ok V.tab_nil)) Tryz.func15 (by kernel_rfl) (by kernel_rfl) (by kernel_rfl) (fun x y h => (show V.evBody laws_szSignedS.E laws_szSignedS.con Tryz.f15 x = _ from laws_szSignedS.eq x.1 x.2).trans h)
noncomputable abbrev laws_toIntS.con : V.Con := ⟨(.cons (.sl (.cons (.int .i64) .nil)) .nil), (.cons (.sl (.cons (.int .i64) .nil)) .nil), fun (x : List Int) => laws_toIntS x, [], [(false, 1)], [(false, 1)], [true], []⟩
noncomputable abbrev laws_toIntS.E : V.Env := V.mkE V.tys [] [(6, [0, 3, 4], [])] [] [] [] []
noncomputable abbrev laws_toIntS.kt (x0 : List Int) : V.Kt (List Int) := V.ktOf laws_toIntS.E laws_toIntS.con Tryz.f168 ((x0) : List Int)
noncomputable abbrev laws_toIntS.s6 (x0 : List Int) (v6_1 : Int) (v6_2 : List Int) : V.St := ⟨[(0, .v false [.val (.sl (.cons (.int .i64) .nil) x0)]), (3, .v false [.ref 64000038400192]), (4, .v false [.val (.int .i64 v6_1)])], [(64000038400192, .row (.cons (.int .i64) .nil) true v6_2)]⟩
theorem laws_toIntS.r6 (x0 : List Int) (R : V.St → Option (List Int)) (v6_1 : Int) (v6_2 : List Int) : V.loopF laws_toIntS.E Tryz.f168.ntmps [1, 1, 0, 1, 0] [] (V.codeOf Tryz.f168) (laws_toIntS.kt x0) R (laws_toIntS.s6 x0 v6_1 v6_2) = laws_toIntS.g6 x0 (fun v6_1 v6_2 => R (laws_toIntS.s6 x0 v6_1 v6_2)) v6_1 v6_2 := by kernel_rfl
theorem laws_toIntS.e6 (x0 : List Int) : ∀ (n : Nat) (v6_1 : Int) (v6_2 : List Int), V.loopN (V.loopF laws_toIntS.E Tryz.f168.ntmps [1, 1, 0, 1, 0] [] (V.codeOf Tryz.f168) (laws_toIntS.kt x0)) n (laws_toIntS.s6 x0 v6_1 v6_2) = laws_toIntS.l6 x0 n v6_1 v6_2 := by
  intro n
  induction n with
  | zero => intros; rfl
  | succ n ih =>
    intro v6_1 v6_2
    show V.loopF laws_toIntS.E Tryz.f168.ntmps [1, 1, 0, 1, 0] [] (V.codeOf Tryz.f168) (laws_toIntS.kt x0) (V.loopN (V.loopF laws_toIntS.E Tryz.f168.ntmps [1, 1, 0, 1, 0] [] (V.codeOf Tryz.f168) (laws_toIntS.kt x0)) n) (laws_toIntS.s6 x0 v6_1 v6_2) = _
    rw [laws_toIntS.r6]
    simp only [ih]
    rfl
theorem laws_toIntS.v (x0 : List Int) : V.evBody laws_toIntS.E laws_toIntS.con Tryz.f168 ((x0) : List Int) = laws_toIntS.b x0 (fun v6_1 v6_2 => V.loopN (V.loopF laws_toIntS.E Tryz.f168.ntmps [1, 1, 0, 1, 0] [] (V.codeOf Tryz.f168) (laws_toIntS.kt x0)) V.KK (laws_toIntS.s6 x0 v6_1 v6_2)) := by kernel_rfl
theorem laws_toIntS.eq (x0 : List Int) : V.evBody laws_toIntS.E laws_toIntS.con Tryz.f168 ((x0) : List Int) = laws_toIntS x0 := by
  rw [laws_toIntS.v]
  simp only [laws_toIntS.e6]
  rfl
theorem laws_toIntS.ok : V.Valid Tryz.prog 168 laws_toIntS.con :=
  V.body_ok (V.env_ok V.mixed V.tysOk V.tab_nil) Tryz.func168 (by kernel_rfl) (by kernel_rfl) (by kernel_rfl) (fun x y h => (show V.evBody laws_toIntS.E laws_toIntS.con Tryz.f168 x = _ from laws_toIntS.eq x).trans h)
noncomputable abbrev laws_toKeys.con : V.Con := ⟨(.cons (.sl (.cons (.int .i64) .nil)) (.cons (.int .i64) .nil)), (.cons (.sl (.cons (.int .i64) .nil)) (.cons (.int .i64) .nil)), fun (x : List Int × Int) => laws_toKeys x, [], [(true, 2)], [(true, 2)], [true, false], []⟩
noncomputable abbrev laws_toKeys.E : V.Env := V.mkE V.tys [(168, laws_toIntS.con)] [] [] [] [] []
noncomputable abbrev laws_toKeys.kt (x0 : TKeys) : V.Kt TKeys := V.ktOf laws_toKeys.E laws_toKeys.con Tryz.f74 ((x0.1, x0.2) : List Int × Int)
theorem laws_toKeys.eq (x0 : TKeys) : V.evBody laws_toKeys.E laws_toKeys.con Tryz.f74 ((x0.1, x0.2) : List Int × Int) = laws_toKeys x0 := by kernel_rfl
theorem laws_toKeys.ok : V.Valid Tryz.prog 74 laws_toKeys.con :=
  V.body_ok (V.env_ok V.mixed V.tysOk (V.tab_cons laws_toIntS.ok V.tab_nil)) Tryz.func74 (by kernel_rfl) (by kernel_rfl) (by kernel_rfl) (fun x y h => (show V.evBody laws_toKeys.E laws_toKeys.con Tryz.f74 x = _ from laws_toKeys.eq x).trans h)
noncomputable abbrev laws_toHead.con : V.Con := ⟨V.A2, V.eHead, fun (x : V.D2) => laws_toHead (V.p2_0 x), [], [(true, 16)], [(true, 16)], [false, false, false, false, false, false, false, false, true, false, true, false, false, true, false, false], []⟩
noncomputable abbrev laws_toHead.E : V.Env := V.mkE V.tys [(74, laws_toKeys.con)] [] [] [] [] []
noncomputable abbrev laws_toHead.kt (x0 : THead) : V.Kt THead := V.ktOf laws_toHead.E laws_toHead.con Tryz.f27 (V.fl2 x0)
noncomputable abbrev laws_toHead.s (x0 : THead) : V.St := ⟨[(0, .v true [.val (.int .i64 x0.1), .val (.int .i64 x0.2.1), .val (.int .i64 x0.2.2.1), .val (.int .i64 x0.2.2.2.1), .val (.int .i64 x0.2.2.2.2.1), .val (.int .i64 x0.2.2.2.2.2.1), .val (.int .i64 x0.2.2.2.2.2.2.1), .val (.int .i64 x0.2.2.2.2.2.2.2.1), .val (.sl (.cons (.int .i64) .nil) x0.2.2.2.2.2.2.2.2.1), .val (.int .i64 x0.2.2.2.2.2.2.2.2.2.1), .val (.sl (.cons (.int .i64) .nil) x0.2.2.2.2.2.2.2.2.2.2.1), .val (.int .i64 x0.2.2.2.2.2.2.2.2.2.2.2.1), .val (.int .i64 x0.2.2.2.2.2.2.2.2.2.2.2.2.1), .val (.sl (.cons (.int .i64) .nil) x0.2.2.2.2.2.2.2.2.2.2.2.2.2.1), .val (.int .i64 x0.2.2.2.2.2.2.2.2.2.2.2.2.2.2.1), .val (.bool x0.2.2.2.2.2.2.2.2.2.2.2.2.2.2.2)])], []⟩
theorem laws_toHead.v0 (x0 : THead) : V.evBody laws_toHead.E laws_toHead.con Tryz.f27 (V.fl2 x0) = V.evC laws_toHead.E Tryz.f27.ntmps (V.codeOf Tryz.f27) (laws_toHead.kt x0) (laws_toHead.s x0) := by kernel_rfl
theorem laws_toHead.v (x0 : THead) : V.evC laws_toHead.E Tryz.f27.ntmps (V.codeOf Tryz.f27) (laws_toHead.kt x0) (laws_toHead.s x0) = laws_toHead x0 := by kernel_rfl
theorem laws_toHead.eq (x0 : THead) : V.evBody laws_toHead.E laws_toHead.con Tryz.f27 (V.fl2 x0) = laws_toHead x0 := (laws_toHead.v0 x0).trans (laws_toHead.v x0)
theorem laws_toHead.ok : V.Valid Tryz.prog 27 laws_toHead.con :=
  V.body_ok (V.env_ok V.mixed V.tysOk (V.tab_cons laws_toKeys.ok V.tab_nil)) Tryz.func27 (by kernel_rfl) (by kernel_rfl) (by kernel_rfl) (fun x y h => (show V.evBody laws_toHead.E laws_toHead.con Tryz.f27 x = _ from laws_toHead.eq (V.p2_0 x)).trans h)
noncomputable abbrev laws_toSig.con : V.Con := ⟨(.cons (.int .i64) (.cons (.int .i64) .nil)), (.cons (.int .i64) (.cons (.int .i64) .nil)), fun (x : Int × Int) => laws_toSig x, [], [(true, 2)], [(true, 2)], [false, false], []⟩
noncomputable abbrev laws_toSig.E : V.Env := V.mkE V.tys [] [] [] [] [] []
noncomputable abbrev laws_toSig.kt (x0 : TSig) : V.Kt TSig := V.ktOf laws_toSig.E laws_toSig.con Tryz.f213 ((x0.1, x0.2) : Int × Int)
theorem laws_toSig.eq (x0 : TSig) : V.evBody laws_toSig.E laws_toSig.con Tryz.f213 ((x0.1, x0.2) : Int × Int) = laws_toSig x0 := by kernel_rfl
theorem laws_toSig.ok : V.Valid Tryz.prog 213 laws_toSig.con :=
  V.body_ok (V.env_ok V.mixed V.tysOk V.tab_nil) Tryz.func213 (by kernel_rfl) (by kernel_rfl) (by kernel_rfl) (fun x y h => (show V.evBody laws_toSig.E laws_toSig.con Tryz.f213 x = _ from laws_toSig.eq x).trans h)
noncomputable abbrev laws_toSigS.con : V.Con := ⟨(.cons (.sl (.cons (.int .i64) (.cons (.int .i64) .nil))) .nil), (.cons (.sl (.cons (.int .i64) (.cons (.int .i64) .nil))) .nil), fun (x : List TSig) => laws_toSigS x, [], [(false, 1)], [(false, 1)], [true], []⟩
noncomputable abbrev laws_toSigS.E : V.Env := V.mkE V.tys [(213, laws_toSig.con)] [(6, [0, 3, 4], [])] [] [] [] []
noncomputable abbrev laws_toSigS.kt (x0 : List TSig) : V.Kt (List TSig) := V.ktOf laws_toSigS.E laws_toSigS.con Tryz.f120 ((x0) : List TSig)
noncomputable abbrev laws_toSigS.s6 (x0 : List TSig) (v6_1 : Int) (v6_2 : List TSig) : V.St := ⟨[(0, .v false [.val (.sl (.cons (.int .i64) (.cons (.int .i64) .nil)) x0)]), (3, .v false [.ref 64000038400192]), (4, .v false [.val (.int .i64 v6_1)])], [(64000038400192, .row (.cons (.int .i64) (.cons (.int .i64) .nil)) true v6_2)]⟩
theorem laws_toSigS.r6 (x0 : List TSig) (R : V.St → Option (List TSig)) (v6_1 : Int) (v6_2 : List TSig) : V.loopF laws_toSigS.E Tryz.f120.ntmps [1, 1, 0, 1, 0] [] (V.codeOf Tryz.f120) (laws_toSigS.kt x0) R (laws_toSigS.s6 x0 v6_1 v6_2) = laws_toSigS.g6 x0 (fun v6_1 v6_2 => R (laws_toSigS.s6 x0 v6_1 v6_2)) v6_1 v6_2 := by kernel_rfl
theorem laws_toSigS.e6 (x0 : List TSig) : ∀ (n : Nat) (v6_1 : Int) (v6_2 : List TSig), V.loopN (V.loopF laws_toSigS.E Tryz.f120.ntmps [1, 1, 0, 1, 0] [] (V.codeOf Tryz.f120) (laws_toSigS.kt x0)) n (laws_toSigS.s6 x0 v6_1 v6_2) = laws_toSigS.l6 x0 n v6_1 v6_2 := by
  intro n
  induction n with
  | zero => intros; rfl
  | succ n ih =>
    intro v6_1 v6_2
    show V.loopF laws_toSigS.E Tryz.f120.ntmps [1, 1, 0, 1, 0] [] (V.codeOf Tryz.f120) (laws_toSigS.kt x0) (V.loopN (V.loopF laws_toSigS.E Tryz.f120.ntmps [1, 1, 0, 1, 0] [] (V.codeOf Tryz.f120) (laws_toSigS.kt x0)) n) (laws_toSigS.s6 x0 v6_1 v6_2) = _
    rw [laws_toSigS.r6]
    simp only [ih]
    rfl
theorem laws_toSigS.v (x0 : List TSig) : V.evBody laws_toSigS.E laws_toSigS.con Tryz.f120 ((x0) : List TSig) = laws_toSigS.b x0 (fun v6_1 v6_2 => V.loopN (V.loopF laws_toSigS.E Tryz.f120.ntmps [1, 1, 0, 1, 0] [] (V.codeOf Tryz.f120) (laws_toSigS.kt x0)) V.KK (laws_toSigS.s6 x0 v6_1 v6_2)) := by kernel_rfl
theorem laws_toSigS.eq (x0 : List TSig) : V.evBody laws_toSigS.E laws_toSigS.con Tryz.f120 ((x0) : List TSig) = laws_toSigS x0 := by
  rw [laws_toSigS.v]
  simp only [laws_toSigS.e6]
  rfl
theorem laws_toSigS.ok : V.Valid Tryz.prog 120 laws_toSigS.con :=
  V.body_ok (V.env_ok V.mixed V.tysOk (V.tab_cons laws_toSig.ok V.tab_nil)) Tryz.func120 (by kernel_rfl) (by kernel_rfl) (by kernel_rfl) (fun x y h => (show V.evBody laws_toSigS.E laws_toSigS.con Tryz.f120 x = _ from laws_toSigS.eq x).trans h)
noncomputable abbrev laws_toSigned.con : V.Con := ⟨V.A3, V.eSigned, fun (x : V.D3) => laws_toSigned (V.p3_0 x), [], [(true, 17)], [(true, 17)], [false, false, false, false, false, false, false, false, true, false, true, false, false, true, false, false, true], []⟩
noncomputable abbrev laws_toSigned.E : V.Env := V.mkE V.tys [(27, laws_toHead.con), (120, laws_toSigS.con)] [] [] [] [] []
noncomputable abbrev laws_toSigned.kt (x0 : TSigned) : V.Kt TSigned := V.ktOf laws_toSigned.E laws_toSigned.con Tryz.f41 (V.fl3 x0)
noncomputable abbrev laws_toSigned.s (x0 : TSigned) : V.St := ⟨[(0, .v true [.val (.int .i64 x0.1), .val (.int .i64 x0.2.1), .val (.int .i64 x0.2.2.1), .val (.int .i64 x0.2.2.2.1), .val (.int .i64 x0.2.2.2.2.1), .val (.int .i64 x0.2.2.2.2.2.1), .val (.int .i64 x0.2.2.2.2.2.2.1), .val (.int .i64 x0.2.2.2.2.2.2.2.1), .val (.sl (.cons (.int .i64) .nil) x0.2.2.2.2.2.2.2.2.1), .val (.int .i64 x0.2.2.2.2.2.2.2.2.2.1), .val (.sl (.cons (.int .i64) .nil) x0.2.2.2.2.2.2.2.2.2.2.1), .val (.int .i64 x0.2.2.2.2.2.2.2.2.2.2.2.1), .val (.int .i64 x0.2.2.2.2.2.2.2.2.2.2.2.2.1), .val (.sl (.cons (.int .i64) .nil) x0.2.2.2.2.2.2.2.2.2.2.2.2.2.1), .val (.int .i64 x0.2.2.2.2.2.2.2.2.2.2.2.2.2.2.1), .val (.bool x0.2.2.2.2.2.2.2.2.2.2.2.2.2.2.2.1), .val (.sl (.cons (.int .i64) (.cons (.int .i64) .nil)) x0.2.2.2.2.2.2.2.2.2.2.2.2.2.2.2.2)])], []⟩
theorem laws_toSigned.v0 (x0 : TSigned) : V.evBody laws_toSigned.E laws_toSigned.con Tryz.f41 (V.fl3 x0) = V.evC laws_toSigned.E Tryz.f41.ntmps (V.codeOf Tryz.f41) (laws_toSigned.kt x0) (laws_toSigned.s x0) := by kernel_rfl
theorem laws_toSigned.v (x0 : TSigned) : V.evC laws_toSigned.E Tryz.f41.ntmps (V.codeOf Tryz.f41) (laws_toSigned.kt x0) (laws_toSigned.s x0) = laws_toSigned x0 := by kernel_rfl
theorem laws_toSigned.eq (x0 : TSigned) : V.evBody laws_toSigned.E laws_toSigned.con Tryz.f41 (V.fl3 x0) = laws_toSigned x0 := (laws_toSigned.v0 x0).trans (laws_toSigned.v x0)
theorem laws_toSigned.ok : V.Valid Tryz.prog 41 laws_toSigned.con :=
  V.body_ok (V.env_ok V.mixed V.tysOk (V.tab_cons laws_toHead.ok (V.tab_cons laws_toSigS.ok V.tab_nil))) Tryz.func41 (by kernel_rfl) (by kernel_rfl) (by kernel_rfl) (fun x y h => (show V.evBody laws_toSigned.E laws_toSigned.con Tryz.f41 x = _ from laws_toSigned.eq (V.p3_0 x)).trans h)
noncomputable abbrev laws_toSignedS.con : V.Con := ⟨(.cons (.sl V.eSigned) .nil), (.cons (.sl V.eSigned) .nil), fun (x : List TSigned) => laws_toSignedS x, [], [(false, 1)], [(false, 1)], [true], []⟩
noncomputable abbrev laws_toSignedS.E : V.Env := V.mkE V.tys [(41, laws_toSigned.con)] [(6, [0, 3, 4], [])] [] [] [] []
noncomputable abbrev laws_toSignedS.kt (x0 : List TSigned) : V.Kt (List TSigned) := V.ktOf laws_toSignedS.E laws_toSignedS.con Tryz.f17 ((x0) : List TSigned)
noncomputable abbrev laws_toSignedS.s6 (x0 : List TSigned) (v6_1 : Int) (v6_2 : List TSigned) : V.St := ⟨[(0, .v false [.val (.sl V.eSigned x0)]), (3, .v false [.ref 64000038400192]), (4, .v false [.val (.int .i64 v6_1)])], [(64000038400192, .row V.eSigned true v6_2)]⟩
theorem laws_toSignedS.r6 (x0 : List TSigned) (R : V.St → Option (List TSigned)) (v6_1 : Int) (v6_2 : List TSigned) : V.loopF laws_toSignedS.E Tryz.f17.ntmps [1, 1, 0, 1, 0] [] (V.codeOf Tryz.f17) (laws_toSignedS.kt x0) R (laws_toSignedS.s6 x0 v6_1 v6_2) = laws_toSignedS.g6 x0 (fun v6_1 v6_2 => R (laws_toSignedS.s6 x0 v6_1 v6_2)) v6_1 v6_2 := by kernel_rfl
theorem laws_toSignedS.e6 (x0 : List TSigned) : ∀ (n : Nat) (v6_1 : Int) (v6_2 : List TSigned), V.loopN (V.loopF laws_toSignedS.E Tryz.f17.ntmps [1, 1, 0, 1, 0] [] (V.codeOf Tryz.f17) (laws_toSignedS.kt x0)) n (laws_toSignedS.s6 x0 v6_1 v6_2) = laws_toSignedS.l6 x0 n v6_1 v6_2 := by
  intro n
  induction n with
  | zero => intros; rfl
  | succ n ih =>
    intro v6_1 v6_2
    show V.loopF laws_toSignedS.E Tryz.f17.ntmps [1, 1, 0, 1, 0] [] (V.codeOf Tryz.f17) (laws_toSignedS.kt x0) (V.loopN (V.loopF laws_toSignedS.E Tryz.f17.ntmps [1, 1, 0, 1, 0] [] (V.codeOf Tryz.f17) (laws_toSignedS.kt x0)) n) (laws_toSignedS.s6 x0 v6_1 v6_2) = _
    rw [laws_toSignedS.r6]
    simp only [ih]
    rfl
theorem laws_toSignedS.v (x0 : List TSigned) : V.evBody laws_toSignedS.E laws_toSignedS.con Tryz.f17 ((x0) : List TSigned) = laws_toSignedS.b x0 (fun v6_1 v6_2 => V.loopN (V.loopF laws_toSignedS.E Tryz.f17.ntmps [1, 1, 0, 1, 0] [] (V.codeOf Tryz.f17) (laws_toSignedS.kt x0)) V.KK (laws_toSignedS.s6 x0 v6_1 v6_2)) := by kernel_rfl
theorem laws_toSignedS.eq (x0 : List TSigned) : V.evBody laws_toSignedS.E laws_toSignedS.con Tryz.f17 ((x0) : List TSigned) = laws_toSignedS x0 := by
  rw [laws_toSignedS.v]
  simp only [laws_toSignedS.e6]
  rfl
theorem laws_toSignedS.ok : V.Valid Tryz.prog 17 laws_toSignedS.con :=
  V.body_ok (V.env_ok V.mixed V.tysOk (V.tab_cons laws_toSigned.ok V.tab_nil)) Tryz.func17 (by kernel_rfl) (by kernel_rfl) (by kernel_rfl) (fun x y h => (show V.evBody laws_toSignedS.E laws_toSignedS.con Tryz.f17 x = _ from laws_toSignedS.eq x).trans h)
noncomputable abbrev spec_l1In.con : V.Con := ⟨(.cons (.int .i64) (.cons (.int .i64) (.cons (.int .i64) .nil))), (.cons .bool .nil), fun (x : Int × Int × Int) => spec_l1In x.1 x.2.1 x.2.2, [], [(false, 1), (false, 1), (false, 1)], [(false, 1)], [false], []⟩
noncomputable abbrev spec_l1In.E : V.Env := V.mkE V.tys [] [] [] [] [] []
noncomputable abbrev spec_l1In.kt (x0 : Int) (x1 : Int) (x2 : Int) : V.Kt Bool := V.ktOf spec_l1In.E spec_l1In.con Tryz.f175 ((x0, x1, x2) : Int × Int × Int)
theorem spec_l1In.eq (x0 : Int) (x1 : Int) (x2 : Int) : V.evBody spec_l1In.E spec_l1In.con Tryz.f175 ((x0, x1, x2) : Int × Int × Int) = spec_l1In x0 x1 x2 := by kernel_rfl
theorem spec_l1In.ok : V.Valid Tryz.prog 175 spec_l1In.con :=
  V.body_ok (V.env_ok V.mixed V.tysOk V.tab_nil) Tryz.func175 (by kernel_rfl) (by kernel_rfl) (by kernel_rfl) (fun x y h => (show V.evBody spec_l1In.E spec_l1In.con Tryz.f175 x = _ from spec_l1In.eq x.1 x.2.1 x.2.2).trans h)
noncomputable abbrev spec_IsKeys.con : V.Con := ⟨(.cons (.sl (.cons (.int .i64) .nil)) (.cons (.int .i64) .nil)), (.cons .bool .nil), fun (x : List Int × Int) => spec_IsKeys x, [], [(true, 2)], [(false, 1)], [false], []⟩
noncomputable abbrev spec_IsKeys.E : V.Env := V.mkE V.tys [(175, spec_l1In.con)] [(4, [1, 3], [])] [(4, 22)] [] [] []
noncomputable abbrev spec_IsKeys.kt (x0 : TKeys) : V.Kt Bool := V.ktOf spec_IsKeys.E spec_IsKeys.con Tryz.f246 ((x0.1, x0.2) : List Int × Int)
noncomputable abbrev spec_IsKeys.s4 (x0 : TKeys) (v4_0 : Int) : V.St := ⟨[(1, .v false [.ptr 64000 0]), (3, .v false [.val (.int .i64 v4_0)])], [(64000, .box [.val (.sl (.cons (.int .i64) .nil) x0.1), .val (.int .i64 x0.2)])]⟩
theorem spec_IsKeys.r4 (x0 : TKeys) (R : V.St → Option Bool) (v4_0 : Int) : V.loopF spec_IsKeys.E Tryz.f246.ntmps [1, 0, 1, 0] [] (V.codeOf Tryz.f246) (spec_IsKeys.kt x0) R (spec_IsKeys.s4 x0 v4_0) = spec_IsKeys.g4 x0 (fun v4_0 => R (spec_IsKeys.s4 x0 v4_0)) v4_0 := by kernel_rfl
theorem spec_IsKeys.e4 (x0 : TKeys) : ∀ (n : Nat) (v4_0 : Int), V.loopN (V.loopF spec_IsKeys.E Tryz.f246.ntmps [1, 0, 1, 0] [] (V.codeOf Tryz.f246) (spec_IsKeys.kt x0)) n (spec_IsKeys.s4 x0 v4_0) = spec_IsKeys.l4 x0 n v4_0 := by
  intro n
  induction n with
  | zero => intros; rfl
  | succ n ih =>
    intro v4_0
    show V.loopF spec_IsKeys.E Tryz.f246.ntmps [1, 0, 1, 0] [] (V.codeOf Tryz.f246) (spec_IsKeys.kt x0) (V.loopN (V.loopF spec_IsKeys.E Tryz.f246.ntmps [1, 0, 1, 0] [] (V.codeOf Tryz.f246) (spec_IsKeys.kt x0)) n) (spec_IsKeys.s4 x0 v4_0) = _
    rw [spec_IsKeys.r4]
    simp only [ih]
    rfl
theorem spec_IsKeys.v (x0 : TKeys) : V.evBody spec_IsKeys.E spec_IsKeys.con Tryz.f246 ((x0.1, x0.2) : List Int × Int) = spec_IsKeys.b x0 (fun v4_0 => V.loopN (V.loopF spec_IsKeys.E Tryz.f246.ntmps [1, 0, 1, 0] [] (V.codeOf Tryz.f246) (spec_IsKeys.kt x0)) V.KK (spec_IsKeys.s4 x0 v4_0)) := by kernel_rfl
theorem spec_IsKeys.eq (x0 : TKeys) : V.evBody spec_IsKeys.E spec_IsKeys.con Tryz.f246 ((x0.1, x0.2) : List Int × Int) = spec_IsKeys x0 := by
  rw [spec_IsKeys.v]
  simp only [spec_IsKeys.e4]
  rfl
theorem spec_IsKeys.ok : V.Valid Tryz.prog 246 spec_IsKeys.con :=
  V.body_ok (V.env_ok V.mixed V.tysOk (V.tab_cons spec_l1In.ok V.tab_nil)) Tryz.func246 (by kernel_rfl) (by kernel_rfl) (by kernel_rfl) (fun x y h => (show V.evBody spec_IsKeys.E spec_IsKeys.con Tryz.f246 x = _ from spec_IsKeys.eq x).trans h)
noncomputable abbrev spec_NoKeys.con : V.Con := ⟨(.cons (.sl (.cons (.int .i64) .nil)) (.cons (.int .i64) .nil)), (.cons .bool .nil), fun (x : List Int × Int) => spec_NoKeys x, [], [(true, 2)], [(false, 1)], [false], []⟩
noncomputable abbrev spec_NoKeys.E : V.Env := V.mkE V.tys [] [] [] [] [] []
noncomputable abbrev spec_NoKeys.kt (x0 : TKeys) : V.Kt Bool := V.ktOf spec_NoKeys.E spec_NoKeys.con Tryz.f247 ((x0.1, x0.2) : List Int × Int)
theorem spec_NoKeys.eq (x0 : TKeys) : V.evBody spec_NoKeys.E spec_NoKeys.con Tryz.f247 ((x0.1, x0.2) : List Int × Int) = spec_NoKeys x0 := by kernel_rfl
theorem spec_NoKeys.ok : V.Valid Tryz.prog 247 spec_NoKeys.con :=
  V.body_ok (V.env_ok V.mixed V.tysOk V.tab_nil) Tryz.func247 (by kernel_rfl) (by kernel_rfl) (by kernel_rfl) (fun x y h => (show V.evBody spec_NoKeys.E spec_NoKeys.con Tryz.f247 x = _ from spec_NoKeys.eq x).trans h)
noncomputable abbrev spec_IsHead.con : V.Con := ⟨V.A2, (.cons .bool .nil), fun (x : V.D2) => spec_IsHead (V.p2_0 x), [], [(true, 16)], [(false, 1)], [false], []⟩
noncomputable abbrev spec_IsHead.E : V.Env := V.mkE V.tys [(175, spec_l1In.con), (246, spec_IsKeys.con), (247, spec_NoKeys.con)] [(7, [1], []), (11, [1], []), (21, [1], [])] [] [] [] []
noncomputable abbrev spec_IsHead.kt (x0 : THead) : V.Kt Bool := V.ktOf spec_IsHead.E spec_IsHead.con Tryz.f186 (V.fl2 x0)
noncomputable abbrev spec_IsHead.s21 (x0 : THead) : V.St := ⟨[(1, .v false [.ptr 64000 0])], [(64000, .box [.val (.int .i64 x0.1), .val (.int .i64 x0.2.1), .val (.int .i64 x0.2.2.1), .val (.int .i64 x0.2.2.2.1), .val (.int .i64 x0.2.2.2.2.1), .val (.int .i64 x0.2.2.2.2.2.1), .val (.int .i64 x0.2.2.2.2.2.2.1), .val (.int .i64 x0.2.2.2.2.2.2.2.1), .val (.sl (.cons (.int .i64) .nil) x0.2.2.2.2.2.2.2.2.1), .val (.int .i64 x0.2.2.2.2.2.2.2.2.2.1), .val (.sl (.cons (.int .i64) .nil) x0.2.2.2.2.2.2.2.2.2.2.1), .val (.int .i64 x0.2.2.2.2.2.2.2.2.2.2.2.1), .val (.int .i64 x0.2.2.2.2.2.2.2.2.2.2.2.2.1), .val (.sl (.cons (.int .i64) .nil) x0.2.2.2.2.2.2.2.2.2.2.2.2.2.1), .val (.int .i64 x0.2.2.2.2.2.2.2.2.2.2.2.2.2.2.1), .val (.bool x0.2.2.2.2.2.2.2.2.2.2.2.2.2.2.2)])]⟩
noncomputable abbrev spec_IsHead.s11 (x0 : THead) : V.St := ⟨[(1, .v false [.ptr 64000 0])], [(64000, .box [.val (.int .i64 x0.1), .val (.int .i64 x0.2.1), .val (.int .i64 x0.2.2.1), .val (.int .i64 x0.2.2.2.1), .val (.int .i64 x0.2.2.2.2.1), .val (.int .i64 x0.2.2.2.2.2.1), .val (.int .i64 x0.2.2.2.2.2.2.1), .val (.int .i64 x0.2.2.2.2.2.2.2.1), .val (.sl (.cons (.int .i64) .nil) x0.2.2.2.2.2.2.2.2.1), .val (.int .i64 x0.2.2.2.2.2.2.2.2.2.1), .val (.sl (.cons (.int .i64) .nil) x0.2.2.2.2.2.2.2.2.2.2.1), .val (.int .i64 x0.2.2.2.2.2.2.2.2.2.2.2.1), .val (.int .i64 x0.2.2.2.2.2.2.2.2.2.2.2.2.1), .val (.sl (.cons (.int .i64) .nil) x0.2.2.2.2.2.2.2.2.2.2.2.2.2.1), .val (.int .i64 x0.2.2.2.2.2.2.2.2.2.2.2.2.2.2.1), .val (.bool x0.2.2.2.2.2.2.2.2.2.2.2.2.2.2.2)])]⟩
noncomputable abbrev spec_IsHead.s7 (x0 : THead) : V.St := ⟨[(1, .v false [.ptr 64000 0])], [(64000, .box [.val (.int .i64 x0.1), .val (.int .i64 x0.2.1), .val (.int .i64 x0.2.2.1), .val (.int .i64 x0.2.2.2.1), .val (.int .i64 x0.2.2.2.2.1), .val (.int .i64 x0.2.2.2.2.2.1), .val (.int .i64 x0.2.2.2.2.2.2.1), .val (.int .i64 x0.2.2.2.2.2.2.2.1), .val (.sl (.cons (.int .i64) .nil) x0.2.2.2.2.2.2.2.2.1), .val (.int .i64 x0.2.2.2.2.2.2.2.2.2.1), .val (.sl (.cons (.int .i64) .nil) x0.2.2.2.2.2.2.2.2.2.2.1), .val (.int .i64 x0.2.2.2.2.2.2.2.2.2.2.2.1), .val (.int .i64 x0.2.2.2.2.2.2.2.2.2.2.2.2.1), .val (.sl (.cons (.int .i64) .nil) x0.2.2.2.2.2.2.2.2.2.2.2.2.2.1), .val (.int .i64 x0.2.2.2.2.2.2.2.2.2.2.2.2.2.2.1), .val (.bool x0.2.2.2.2.2.2.2.2.2.2.2.2.2.2.2)])]⟩
theorem spec_IsHead.r21 (x0 : THead) : V.normK 21 ([1], []) (V.joinF spec_IsHead.E Tryz.f186.ntmps [1, 1, 1] [] (V.codeOf Tryz.f186) (spec_IsHead.kt x0)) (spec_IsHead.s21 x0) = spec_IsHead.g21 x0 := by kernel_rfl
theorem spec_IsHead.e21 (x0 : THead) : V.normK 21 ([1], []) (V.joinF spec_IsHead.E Tryz.f186.ntmps [1, 1, 1] [] (V.codeOf Tryz.f186) (spec_IsHead.kt x0)) (spec_IsHead.s21 x0) = spec_IsHead.l21 x0 := by
  rw [spec_IsHead.r21]
  rfl
theorem spec_IsHead.r11 (x0 : THead) : V.normK 11 ([1], []) (V.joinF spec_IsHead.E Tryz.f186.ntmps [1, 1] [] (V.codeOf Tryz.f186) (spec_IsHead.kt x0)) (spec_IsHead.s11 x0) = spec_IsHead.g11 x0 (V.normK 21 ([1], []) (V.joinF spec_IsHead.E Tryz.f186.ntmps [1, 1, 1] [] (V.codeOf Tryz.f186) (spec_IsHead.kt x0)) (spec_IsHead.s21 x0)) := by kernel_rfl
theorem spec_IsHead.e11 (x0 : THead) : V.normK 11 ([1], []) (V.joinF spec_IsHead.E Tryz.f186.ntmps [1, 1] [] (V.codeOf Tryz.f186) (spec_IsHead.kt x0)) (spec_IsHead.s11 x0) = spec_IsHead.l11 x0 := by
  rw [spec_IsHead.r11]
  simp only [spec_IsHead.e21]
  rfl
theorem spec_IsHead.r7 (x0 : THead) : V.normK 7 ([1], []) (V.joinF spec_IsHead.E Tryz.f186.ntmps [1] [] (V.codeOf Tryz.f186) (spec_IsHead.kt x0)) (spec_IsHead.s7 x0) = spec_IsHead.g7 x0 (V.normK 11 ([1], []) (V.joinF spec_IsHead.E Tryz.f186.ntmps [1, 1] [] (V.codeOf Tryz.f186) (spec_IsHead.kt x0)) (spec_IsHead.s11 x0)) := by kernel_rfl
theorem spec_IsHead.e7 (x0 : THead) : V.normK 7 ([1], []) (V.joinF spec_IsHead.E Tryz.f186.ntmps [1] [] (V.codeOf Tryz.f186) (spec_IsHead.kt x0)) (spec_IsHead.s7 x0) = spec_IsHead.l7 x0 := by
  rw [spec_IsHead.r7]
  simp only [spec_IsHead.e11]
  rfl
noncomputable abbrev spec_IsHead.s (x0 : THead) : V.St := ⟨[(0, .v true [.val (.int .i64 x0.1), .val (.int .i64 x0.2.1), .val (.int .i64 x0.2.2.1), .val (.int .i64 x0.2.2.2.1), .val (.int .i64 x0.2.2.2.2.1), .val (.int .i64 x0.2.2.2.2.2.1), .val (.int .i64 x0.2.2.2.2.2.2.1), .val (.int .i64 x0.2.2.2.2.2.2.2.1), .val (.sl (.cons (.int .i64) .nil) x0.2.2.2.2.2.2.2.2.1), .val (.int .i64 x0.2.2.2.2.2.2.2.2.2.1), .val (.sl (.cons (.int .i64) .nil) x0.2.2.2.2.2.2.2.2.2.2.1), .val (.int .i64 x0.2.2.2.2.2.2.2.2.2.2.2.1), .val (.int .i64 x0.2.2.2.2.2.2.2.2.2.2.2.2.1), .val (.sl (.cons (.int .i64) .nil) x0.2.2.2.2.2.2.2.2.2.2.2.2.2.1), .val (.int .i64 x0.2.2.2.2.2.2.2.2.2.2.2.2.2.2.1), .val (.bool x0.2.2.2.2.2.2.2.2.2.2.2.2.2.2.2)])], []⟩
theorem spec_IsHead.v0 (x0 : THead) : V.evBody spec_IsHead.E spec_IsHead.con Tryz.f186 (V.fl2 x0) = V.evC spec_IsHead.E Tryz.f186.ntmps (V.codeOf Tryz.f186) (spec_IsHead.kt x0) (spec_IsHead.s x0) := by kernel_rfl
theorem spec_IsHead.v (x0 : THead) : V.evC spec_IsHead.E Tryz.f186.ntmps (V.codeOf Tryz.f186) (spec_IsHead.kt x0) (spec_IsHead.s x0) = spec_IsHead.b x0 (V.normK 7 ([1], []) (V.joinF spec_IsHead.E Tryz.f186.ntmps [1] [] (V.codeOf Tryz.f186) (spec_IsHead.kt x0)) (spec_IsHead.s7 x0)) := by kernel_rfl
theorem spec_IsHead.eq (x0 : THead) : V.evBody spec_IsHead.E spec_IsHead.con Tryz.f186 (V.fl2 x0) = spec_IsHead x0 := by
  rw [spec_IsHead.v0, spec_IsHead.v]
  simp only [spec_IsHead.e7]
  rfl
theorem spec_IsHead.ok : V.Valid Tryz.prog 186 spec_IsHead.con :=
  V.body_ok (V.env_ok V.mixed V.tysOk (V.tab_cons spec_l1In.ok (V.tab_cons spec_IsKeys.ok (V.tab_cons spec_NoKeys.ok V.tab_nil)))) Tryz.func186 (by kernel_rfl) (by kernel_rfl) (by kernel_rfl) (fun x y h => (show V.evBody spec_IsHead.E spec_IsHead.con Tryz.f186 x = _ from spec_IsHead.eq (V.p2_0 x)).trans h)
noncomputable abbrev spec_KeysInts.con : V.Con := ⟨(.cons (.sl (.cons (.int .i64) .nil)) (.cons (.int .i64) .nil)), (.cons (.sl (.cons (.int .i64) .nil)) .nil), fun (x : List Int × Int) => spec_KeysInts x, [], [(true, 2)], [(false, 1)], [true], []⟩
noncomputable abbrev spec_KeysInts.E : V.Env := V.mkE V.tys [] [] [] [] [] []
noncomputable abbrev spec_KeysInts.kt (x0 : TKeys) : V.Kt (List Int) := V.ktOf spec_KeysInts.E spec_KeysInts.con Tryz.f270 ((x0.1, x0.2) : List Int × Int)
theorem spec_KeysInts.eq (x0 : TKeys) : V.evBody spec_KeysInts.E spec_KeysInts.con Tryz.f270 ((x0.1, x0.2) : List Int × Int) = spec_KeysInts x0 := by kernel_rfl
theorem spec_KeysInts.ok : V.Valid Tryz.prog 270 spec_KeysInts.con :=
  V.body_ok (V.env_ok V.mixed V.tysOk V.tab_nil) Tryz.func270 (by kernel_rfl) (by kernel_rfl) (by kernel_rfl) (fun x y h => (show V.evBody spec_KeysInts.E spec_KeysInts.con Tryz.f270 x = _ from spec_KeysInts.eq x).trans h)
noncomputable abbrev spec_Mod.con : V.Con := ⟨(.cons (.int .i64) (.cons (.int .i64) .nil)), (.cons (.int .i64) .nil), fun (x : Int × Int) => spec_Mod x.1 x.2, [], [(false, 1), (false, 1)], [(false, 1)], [false], []⟩
noncomputable abbrev spec_Mod.E : V.Env := V.mkE V.tys [(175, spec_l1In.con)] [] [] [] [] []
noncomputable abbrev spec_Mod.kt (x0 : Int) (x1 : Int) : V.Kt Int := V.ktOf spec_Mod.E spec_Mod.con Tryz.f281 ((x0, x1) : Int × Int)
theorem spec_Mod.eq (x0 : Int) (x1 : Int) : V.evBody spec_Mod.E spec_Mod.con Tryz.f281 ((x0, x1) : Int × Int) = spec_Mod x0 x1 := by kernel_rfl
theorem spec_Mod.ok : V.Valid Tryz.prog 281 spec_Mod.con :=
  V.body_ok (V.env_ok V.mixed V.tysOk (V.tab_cons spec_l1In.ok V.tab_nil)) Tryz.func281 (by kernel_rfl) (by kernel_rfl) (by kernel_rfl) (fun x y h => (show V.evBody spec_Mod.E spec_Mod.con Tryz.f281 x = _ from spec_Mod.eq x.1 x.2).trans h)
noncomputable abbrev spec_Hash.con : V.Con := ⟨(.cons (.sl (.cons (.int .i64) .nil)) .nil), (.cons (.int .i64) .nil), fun (x : List Int) => spec_Hash x, [], [(false, 1)], [(false, 1)], [false], []⟩
noncomputable abbrev spec_Hash.E : V.Env := V.mkE V.tys [(281, spec_Mod.con)] [(6, [0, 3, 4], [])] [] [] [] []
noncomputable abbrev spec_Hash.kt (x0 : List Int) : V.Kt Int := V.ktOf spec_Hash.E spec_Hash.con Tryz.f248 ((x0) : List Int)
noncomputable abbrev spec_Hash.s6 (x0 : List Int) (v6_1 : Int) (v6_2 : Int) : V.St := ⟨[(0, .v false [.val (.sl (.cons (.int .i64) .nil) x0)]), (3, .v false [.val (.int .i64 v6_1)]), (4, .v false [.val (.int .i64 v6_2)])], []⟩
theorem spec_Hash.r6 (x0 : List Int) (R : V.St → Option Int) (v6_1 : Int) (v6_2 : Int) : V.loopF spec_Hash.E Tryz.f248.ntmps [1, 1, 0, 1, 0] [] (V.codeOf Tryz.f248) (spec_Hash.kt x0) R (spec_Hash.s6 x0 v6_1 v6_2) = spec_Hash.g6 x0 (fun v6_1 v6_2 => R (spec_Hash.s6 x0 v6_1 v6_2)) v6_1 v6_2 := by kernel_rfl
theorem spec_Hash.e6 (x0 : List Int) : ∀ (n : Nat) (v6_1 : Int) (v6_2 : Int), V.loopN (V.loopF spec_Hash.E Tryz.f248.ntmps [1, 1, 0, 1, 0] [] (V.codeOf Tryz.f248) (spec_Hash.kt x0)) n (spec_Hash.s6 x0 v6_1 v6_2) = spec_Hash.l6 x0 n v6_1 v6_2 := by
  intro n
  induction n with
  | zero => intros; rfl
  | succ n ih =>
    intro v6_1 v6_2
    show V.loopF spec_Hash.E Tryz.f248.ntmps [1, 1, 0, 1, 0] [] (V.codeOf Tryz.f248) (spec_Hash.kt x0) (V.loopN (V.loopF spec_Hash.E Tryz.f248.ntmps [1, 1, 0, 1, 0] [] (V.codeOf Tryz.f248) (spec_Hash.kt x0)) n) (spec_Hash.s6 x0 v6_1 v6_2) = _
    rw [spec_Hash.r6]
    simp only [ih]
    rfl
theorem spec_Hash.v (x0 : List Int) : V.evBody spec_Hash.E spec_Hash.con Tryz.f248 ((x0) : List Int) = spec_Hash.b x0 (fun v6_1 v6_2 => V.loopN (V.loopF spec_Hash.E Tryz.f248.ntmps [1, 1, 0, 1, 0] [] (V.codeOf Tryz.f248) (spec_Hash.kt x0)) V.KK (spec_Hash.s6 x0 v6_1 v6_2)) := by kernel_rfl
theorem spec_Hash.eq (x0 : List Int) : V.evBody spec_Hash.E spec_Hash.con Tryz.f248 ((x0) : List Int) = spec_Hash x0 := by
  rw [spec_Hash.v]
  simp only [spec_Hash.e6]
  rfl
theorem spec_Hash.ok : V.Valid Tryz.prog 248 spec_Hash.con :=
  V.body_ok (V.env_ok V.mixed V.tysOk (V.tab_cons spec_Mod.ok V.tab_nil)) Tryz.func248 (by kernel_rfl) (by kernel_rfl) (by kernel_rfl) (fun x y h => (show V.evBody spec_Hash.E spec_Hash.con Tryz.f248 x = _ from spec_Hash.eq x).trans h)
noncomputable abbrev spec_ZoneOf.con : V.Con := ⟨(.cons (.sl (.cons (.int .i64) .nil)) (.cons (.int .i64) (.cons (.int .i64) .nil))), (.cons (.int .i64) .nil), fun (x : List Int × Int × Int) => spec_ZoneOf (x.1, x.2.1) x.2.2, [], [(true, 2), (false, 1)], [(false, 1)], [false], []⟩
noncomputable abbrev spec_ZoneOf.E : V.Env := V.mkE V.tys [(248, spec_Hash.con), (270, spec_KeysInts.con)] [] [] [] [] []
noncomputable abbrev spec_ZoneOf.kt (x0 : TKeys) (x1 : Int) : V.Kt Int := V.ktOf spec_ZoneOf.E spec_ZoneOf.con Tryz.f233 ((x0.1, x0.2, x1) : List Int × Int × Int)
theorem spec_ZoneOf.eq (x0 : TKeys) (x1 : Int) : V.evBody spec_ZoneOf.E spec_ZoneOf.con Tryz.f233 ((x0.1, x0.2, x1) : List Int × Int × Int) = spec_ZoneOf x0 x1 := by kernel_rfl
theorem spec_ZoneOf.ok : V.Valid Tryz.prog 233 spec_ZoneOf.con :=
  V.body_ok (V.env_ok V.mixed V.tysOk (V.tab_cons spec_Hash.ok (V.tab_cons spec_KeysInts.ok V.tab_nil))) Tryz.func233 (by kernel_rfl) (by kernel_rfl) (by kernel_rfl) (fun x y h => (show V.evBody spec_ZoneOf.E spec_ZoneOf.con Tryz.f233 x = _ from spec_ZoneOf.eq (x.1, x.2.1) x.2.2).trans h)
noncomputable abbrev spec_HeadInts.con : V.Con := ⟨V.A2, (.cons (.sl (.cons (.int .i64) .nil)) .nil), fun (x : V.D2) => spec_HeadInts (V.p2_0 x), [], [(true, 16)], [(false, 1)], [true], []⟩
noncomputable abbrev spec_HeadInts.E : V.Env := V.mkE V.tys [(270, spec_KeysInts.con)] [] [] [] [] []
noncomputable abbrev spec_HeadInts.kt (x0 : THead) : V.Kt (List Int) := V.ktOf spec_HeadInts.E spec_HeadInts.con Tryz.f212 (V.fl2 x0)
noncomputable abbrev spec_HeadInts.s (x0 : THead) : V.St := ⟨[(0, .v true [.val (.int .i64 x0.1), .val (.int .i64 x0.2.1), .val (.int .i64 x0.2.2.1), .val (.int .i64 x0.2.2.2.1), .val (.int .i64 x0.2.2.2.2.1), .val (.int .i64 x0.2.2.2.2.2.1), .val (.int .i64 x0.2.2.2.2.2.2.1), .val (.int .i64 x0.2.2.2.2.2.2.2.1), .val (.sl (.cons (.int .i64) .nil) x0.2.2.2.2.2.2.2.2.1), .val (.int .i64 x0.2.2.2.2.2.2.2.2.2.1), .val (.sl (.cons (.int .i64) .nil) x0.2.2.2.2.2.2.2.2.2.2.1), .val (.int .i64 x0.2.2.2.2.2.2.2.2.2.2.2.1), .val (.int .i64 x0.2.2.2.2.2.2.2.2.2.2.2.2.1), .val (.sl (.cons (.int .i64) .nil) x0.2.2.2.2.2.2.2.2.2.2.2.2.2.1), .val (.int .i64 x0.2.2.2.2.2.2.2.2.2.2.2.2.2.2.1), .val (.bool x0.2.2.2.2.2.2.2.2.2.2.2.2.2.2.2)])], []⟩
theorem spec_HeadInts.v0 (x0 : THead) : V.evBody spec_HeadInts.E spec_HeadInts.con Tryz.f212 (V.fl2 x0) = V.evC spec_HeadInts.E Tryz.f212.ntmps (V.codeOf Tryz.f212) (spec_HeadInts.kt x0) (spec_HeadInts.s x0) := by kernel_rfl
theorem spec_HeadInts.v (x0 : THead) : V.evC spec_HeadInts.E Tryz.f212.ntmps (V.codeOf Tryz.f212) (spec_HeadInts.kt x0) (spec_HeadInts.s x0) = spec_HeadInts x0 := by kernel_rfl
theorem spec_HeadInts.eq (x0 : THead) : V.evBody spec_HeadInts.E spec_HeadInts.con Tryz.f212 (V.fl2 x0) = spec_HeadInts x0 := (spec_HeadInts.v0 x0).trans (spec_HeadInts.v x0)
theorem spec_HeadInts.ok : V.Valid Tryz.prog 212 spec_HeadInts.con :=
  V.body_ok (V.env_ok V.mixed V.tysOk (V.tab_cons spec_KeysInts.ok V.tab_nil)) Tryz.func212 (by kernel_rfl) (by kernel_rfl) (by kernel_rfl) (fun x y h => (show V.evBody spec_HeadInts.E spec_HeadInts.con Tryz.f212 x = _ from spec_HeadInts.eq (V.p2_0 x)).trans h)
noncomputable abbrev spec_KeyedHash.con : V.Con := ⟨(.cons (.int .i64) (.cons (.sl (.cons (.int .i64) .nil)) .nil)), (.cons (.int .i64) .nil), fun (x : Int × List Int) => spec_KeyedHash x.1 x.2, [], [(false, 1), (false, 1)], [(false, 1)], [false], []⟩
noncomputable abbrev spec_KeyedHash.E : V.Env := V.mkE V.tys [(248, spec_Hash.con)] [] [] [] [] []
noncomputable abbrev spec_KeyedHash.kt (x0 : Int) (x1 : List Int) : V.Kt Int := V.ktOf spec_KeyedHash.E spec_KeyedHash.con Tryz.f223 ((x0, x1) : Int × List Int)
theorem spec_KeyedHash.eq (x0 : Int) (x1 : List Int) : V.evBody spec_KeyedHash.E spec_KeyedHash.con Tryz.f223 ((x0, x1) : Int × List Int) = spec_KeyedHash x0 x1 := by kernel_rfl
theorem spec_KeyedHash.ok : V.Valid Tryz.prog 223 spec_KeyedHash.con :=
  V.body_ok (V.env_ok V.mixed V.tysOk (V.tab_cons spec_Hash.ok V.tab_nil)) Tryz.func223 (by kernel_rfl) (by kernel_rfl) (by kernel_rfl) (fun x y h => (show V.evBody spec_KeyedHash.E spec_KeyedHash.con Tryz.f223 x = _ from spec_KeyedHash.eq x.1 x.2).trans h)
noncomputable abbrev spec_TagOf.con : V.Con := ⟨(.cons (.int .i64) (.cons (.sl (.cons (.int .i64) .nil)) .nil)), (.cons (.int .i64) .nil), fun (x : Int × List Int) => spec_TagOf x.1 x.2, [], [(false, 1), (false, 1)], [(false, 1)], [false], []⟩
noncomputable abbrev spec_TagOf.E : V.Env := V.mkE V.tys [(223, spec_KeyedHash.con)] [] [] [] [] []
noncomputable abbrev spec_TagOf.kt (x0 : Int) (x1 : List Int) : V.Kt Int := V.ktOf spec_TagOf.E spec_TagOf.con Tryz.f138 ((x0, x1) : Int × List Int)
theorem spec_TagOf.eq (x0 : Int) (x1 : List Int) : V.evBody spec_TagOf.E spec_TagOf.con Tryz.f138 ((x0, x1) : Int × List Int) = spec_TagOf x0 x1 := by kernel_rfl
theorem spec_TagOf.ok : V.Valid Tryz.prog 138 spec_TagOf.con :=
  V.body_ok (V.env_ok V.mixed V.tysOk (V.tab_cons spec_KeyedHash.ok V.tab_nil)) Tryz.func138 (by kernel_rfl) (by kernel_rfl) (by kernel_rfl) (fun x y h => (show V.evBody spec_TagOf.E spec_TagOf.con Tryz.f138 x = _ from spec_TagOf.eq x.1 x.2).trans h)
noncomputable abbrev spec_IsSigBy.con : V.Con := ⟨(.cons (.int .i64) (.cons (.int .i64) (.cons (.sl (.cons (.int .i64) .nil)) .nil))), (.cons .bool .nil), fun (x : Int × Int × List Int) => spec_IsSigBy (x.1, x.2.1) x.2.2, [], [(true, 2), (false, 1)], [(false, 1)], [false], []⟩
noncomputable abbrev spec_IsSigBy.E : V.Env := V.mkE V.tys [(138, spec_TagOf.con), (175, spec_l1In.con)] [] [(1, 10)] [] [] []
noncomputable abbrev spec_IsSigBy.kt (x0 : TSig) (x1 : List Int) : V.Kt Bool := V.ktOf spec_IsSigBy.E spec_IsSigBy.con Tryz.f292 ((x0.1, x0.2, x1) : Int × Int × List Int)
theorem spec_IsSigBy.eq (x0 : TSig) (x1 : List Int) : V.evBody spec_IsSigBy.E spec_IsSigBy.con Tryz.f292 ((x0.1, x0.2, x1) : Int × Int × List Int) = spec_IsSigBy x0 x1 := by kernel_rfl
theorem spec_IsSigBy.ok : V.Valid Tryz.prog 292 spec_IsSigBy.con :=
  V.body_ok (V.env_ok V.mixed V.tysOk (V.tab_cons spec_TagOf.ok (V.tab_cons spec_l1In.ok V.tab_nil))) Tryz.func292 (by kernel_rfl) (by kernel_rfl) (by kernel_rfl) (fun x y h => (show V.evBody spec_IsSigBy.E spec_IsSigBy.con Tryz.f292 x = _ from spec_IsSigBy.eq (x.1, x.2.1) x.2.2).trans h)
noncomputable abbrev spec_CountSigs.con : V.Con := ⟨(.cons (.sl (.cons (.int .i64) .nil)) (.cons (.int .i64) (.cons (.sl (.cons (.int .i64) .nil)) (.cons (.sl (.cons (.int .i64) (.cons (.int .i64) .nil))) .nil)))), (.cons (.int .i64) .nil), fun (x : List Int × Int × List Int × List TSig) => spec_CountSigs (x.1, x.2.1) x.2.2.1 x.2.2.2, [], [(true, 2), (false, 1), (false, 1)], [(false, 1)], [false], []⟩
noncomputable abbrev spec_CountSigs.E : V.Env := V.mkE V.tys [(292, spec_IsSigBy.con)] [(6, [1, 2, 3, 7, 8], []), (12, [1, 2, 3, 7, 8, 9], []), (19, [1, 2, 3, 7, 8, 9, 41], [])] [(8, 17)] [] [] []
noncomputable abbrev spec_CountSigs.kt (x0 : TKeys) (x1 : List Int) (x2 : List TSig) : V.Kt Int := V.ktOf spec_CountSigs.E spec_CountSigs.con Tryz.f269 ((x0.1, x0.2, x1, x2) : List Int × Int × List Int × List TSig)
noncomputable abbrev spec_CountSigs.s19 (x0 : TKeys) (x1 : List Int) (x2 : List TSig) (v6_2 : Int) (v6_3 : Int) (v12_4 : Int) (v19_5 : Bool) : V.St := ⟨[(1, .v false [.val (.sl (.cons (.int .i64) .nil) x1)]), (2, .v false [.val (.sl (.cons (.int .i64) (.cons (.int .i64) .nil)) x2)]), (3, .v false [.ptr 64000 0]), (7, .v false [.val (.int .i64 v6_2)]), (8, .v false [.val (.int .i64 v6_3)]), (9, .v false [.val (.int .i64 v12_4)]), (41, .v false [.val (.bool v19_5)])], [(64000, .box [.val (.sl (.cons (.int .i64) .nil) x0.1), .val (.int .i64 x0.2)])]⟩
noncomputable abbrev spec_CountSigs.s12 (x0 : TKeys) (x1 : List Int) (x2 : List TSig) (v6_2 : Int) (v6_3 : Int) (v12_4 : Int) : V.St := ⟨[(1, .v false [.val (.sl (.cons (.int .i64) .nil) x1)]), (2, .v false [.val (.sl (.cons (.int .i64) (.cons (.int .i64) .nil)) x2)]), (3, .v false [.ptr 64000 0]), (7, .v false [.val (.int .i64 v6_2)]), (8, .v false [.val (.int .i64 v6_3)]), (9, .v false [.val (.int .i64 v12_4)])], [(64000, .box [.val (.sl (.cons (.int .i64) .nil) x0.1), .val (.int .i64 x0.2)])]⟩
noncomputable abbrev spec_CountSigs.s6 (x0 : TKeys) (x1 : List Int) (x2 : List TSig) (v6_2 : Int) (v6_3 : Int) : V.St := ⟨[(1, .v false [.val (.sl (.cons (.int .i64) .nil) x1)]), (2, .v false [.val (.sl (.cons (.int .i64) (.cons (.int .i64) .nil)) x2)]), (3, .v false [.ptr 64000 0]), (7, .v false [.val (.int .i64 v6_2)]), (8, .v false [.val (.int .i64 v6_3)])], [(64000, .box [.val (.sl (.cons (.int .i64) .nil) x0.1), .val (.int .i64 x0.2)])]⟩
theorem spec_CountSigs.r19 (x0 : TKeys) (x1 : List Int) (x2 : List TSig) (v12_4 : Int) (v6_2 : Int) (v6_3 : Int) (R6 : V.St → Option Int) (R12 : V.St → Option Int) (v19_5 : Bool) : V.normK 19 ([1, 2, 3, 7, 8, 9, 41], []) (V.joinF spec_CountSigs.E Tryz.f269.ntmps [1, 1, 0, 1, 0, 0, 1, 0, 0, 1, 0, 0, 1, 0, 0] [R6, R12] (V.codeOf Tryz.f269) (spec_CountSigs.kt x0 x1 x2)) (spec_CountSigs.s19 x0 x1 x2 v6_2 v6_3 v12_4 v19_5) = spec_CountSigs.g19 x0 x1 x2 v6_2 v6_3 v12_4 (fun v6_2 v6_3 => R6 (spec_CountSigs.s6 x0 x1 x2 v6_2 v6_3)) (fun v12_4 => R12 (spec_CountSigs.s12 x0 x1 x2 v6_2 v6_3 v12_4)) v19_5 := by kernel_rfl
theorem spec_CountSigs.e19 (x0 : TKeys) (x1 : List Int) (x2 : List TSig) (v12_4 : Int) (v6_2 : Int) (v6_3 : Int) (R6 : V.St → Option Int) (R12 : V.St → Option Int) (v19_5 : Bool) : V.normK 19 ([1, 2, 3, 7, 8, 9, 41], []) (V.joinF spec_CountSigs.E Tryz.f269.ntmps [1, 1, 0, 1, 0, 0, 1, 0, 0, 1, 0, 0, 1, 0, 0] [R6, R12] (V.codeOf Tryz.f269) (spec_CountSigs.kt x0 x1 x2)) (spec_CountSigs.s19 x0 x1 x2 v6_2 v6_3 v12_4 v19_5) = spec_CountSigs.l19 x0 x1 x2 v6_2 v6_3 v12_4 (fun v6_2 v6_3 => R6 (spec_CountSigs.s6 x0 x1 x2 v6_2 v6_3)) (fun v12_4 => R12 (spec_CountSigs.s12 x0 x1 x2 v6_2 v6_3 v12_4)) v19_5 := by
  rw [spec_CountSigs.r19]
  rfl
theorem spec_CountSigs.r12 (x0 : TKeys) (x1 : List Int) (x2 : List TSig) (v6_2 : Int) (v6_3 : Int) (R6 : V.St → Option Int) (R : V.St → Option Int) (v12_4 : Int) : V.loopF spec_CountSigs.E Tryz.f269.ntmps [1, 1, 0, 1, 0, 0, 1, 0, 0, 1, 0] [R6] (V.codeOf Tryz.f269) (spec_CountSigs.kt x0 x1 x2) R (spec_CountSigs.s12 x0 x1 x2 v6_2 v6_3 v12_4) = spec_CountSigs.g12 x0 x1 x2 v6_2 v6_3 (fun v6_2 v6_3 => R6 (spec_CountSigs.s6 x0 x1 x2 v6_2 v6_3)) (fun v12_4 => R (spec_CountSigs.s12 x0 x1 x2 v6_2 v6_3 v12_4)) (fun v19_5 => V.normK 19 ([1, 2, 3, 7, 8, 9, 41], []) (V.joinF spec_CountSigs.E Tryz.f269.ntmps [1, 1, 0, 1, 0, 0, 1, 0, 0, 1, 0, 0, 1, 0, 0] [R6, R] (V.codeOf Tryz.f269) (spec_CountSigs.kt x0 x1 x2)) (spec_CountSigs.s19 x0 x1 x2 v6_2 v6_3 v12_4 v19_5)) v12_4 := by kernel_rfl
theorem spec_CountSigs.e12 (x0 : TKeys) (x1 : List Int) (x2 : List TSig) (v6_2 : Int) (v6_3 : Int) (R6 : V.St → Option Int) : ∀ (n : Nat) (v12_4 : Int), V.loopN (V.loopF spec_CountSigs.E Tryz.f269.ntmps [1, 1, 0, 1, 0, 0, 1, 0, 0, 1, 0] [R6] (V.codeOf Tryz.f269) (spec_CountSigs.kt x0 x1 x2)) n (spec_CountSigs.s12 x0 x1 x2 v6_2 v6_3 v12_4) = spec_CountSigs.l12 x0 x1 x2 v6_2 v6_3 (fun v6_2 v6_3 => R6 (spec_CountSigs.s6 x0 x1 x2 v6_2 v6_3)) n v12_4 := by
  intro n
  induction n with
  | zero => intros; rfl
  | succ n ih =>
    intro v12_4
    show V.loopF spec_CountSigs.E Tryz.f269.ntmps [1, 1, 0, 1, 0, 0, 1, 0, 0, 1, 0] [R6] (V.codeOf Tryz.f269) (spec_CountSigs.kt x0 x1 x2) (V.loopN (V.loopF spec_CountSigs.E Tryz.f269.ntmps [1, 1, 0, 1, 0, 0, 1, 0, 0, 1, 0] [R6] (V.codeOf Tryz.f269) (spec_CountSigs.kt x0 x1 x2)) n) (spec_CountSigs.s12 x0 x1 x2 v6_2 v6_3 v12_4) = _
    rw [spec_CountSigs.r12]
    simp only [spec_CountSigs.e19, ih]
    rfl
theorem spec_CountSigs.r6 (x0 : TKeys) (x1 : List Int) (x2 : List TSig) (R : V.St → Option Int) (v6_2 : Int) (v6_3 : Int) : V.loopF spec_CountSigs.E Tryz.f269.ntmps [1, 1, 0, 1, 0] [] (V.codeOf Tryz.f269) (spec_CountSigs.kt x0 x1 x2) R (spec_CountSigs.s6 x0 x1 x2 v6_2 v6_3) = spec_CountSigs.g6 x0 x1 x2 (fun v6_2 v6_3 => R (spec_CountSigs.s6 x0 x1 x2 v6_2 v6_3)) (fun v12_4 => V.loopN (V.loopF spec_CountSigs.E Tryz.f269.ntmps [1, 1, 0, 1, 0, 0, 1, 0, 0, 1, 0] [R] (V.codeOf Tryz.f269) (spec_CountSigs.kt x0 x1 x2)) V.KK (spec_CountSigs.s12 x0 x1 x2 v6_2 v6_3 v12_4)) v6_2 v6_3 := by kernel_rfl
theorem spec_CountSigs.e6 (x0 : TKeys) (x1 : List Int) (x2 : List TSig) : ∀ (n : Nat) (v6_2 : Int) (v6_3 : Int), V.loopN (V.loopF spec_CountSigs.E Tryz.f269.ntmps [1, 1, 0, 1, 0] [] (V.codeOf Tryz.f269) (spec_CountSigs.kt x0 x1 x2)) n (spec_CountSigs.s6 x0 x1 x2 v6_2 v6_3) = spec_CountSigs.l6 x0 x1 x2 n v6_2 v6_3 := by
  intro n
  induction n with
  | zero => intros; rfl
  | succ n ih =>
    intro v6_2 v6_3
    show V.loopF spec_CountSigs.E Tryz.f269.ntmps [1, 1, 0, 1, 0] [] (V.codeOf Tryz.f269) (spec_CountSigs.kt x0 x1 x2) (V.loopN (V.loopF spec_CountSigs.E Tryz.f269.ntmps [1, 1, 0, 1, 0] [] (V.codeOf Tryz.f269) (spec_CountSigs.kt x0 x1 x2)) n) (spec_CountSigs.s6 x0 x1 x2 v6_2 v6_3) = _
    rw [spec_CountSigs.r6]
    simp only [spec_CountSigs.e12, ih]
    rfl
theorem spec_CountSigs.v (x0 : TKeys) (x1 : List Int) (x2 : List TSig) : V.evBody spec_CountSigs.E spec_CountSigs.con Tryz.f269 ((x0.1, x0.2, x1, x2) : List Int × Int × List Int × List TSig) = spec_CountSigs.b x0 x1 x2 (fun v6_2 v6_3 => V.loopN (V.loopF spec_CountSigs.E Tryz.f269.ntmps [1, 1, 0, 1, 0] [] (V.codeOf Tryz.f269) (spec_CountSigs.kt x0 x1 x2)) V.KK (spec_CountSigs.s6 x0 x1 x2 v6_2 v6_3)) := by kernel_rfl
theorem spec_CountSigs.eq (x0 : TKeys) (x1 : List Int) (x2 : List TSig) : V.evBody spec_CountSigs.E spec_CountSigs.con Tryz.f269 ((x0.1, x0.2, x1, x2) : List Int × Int × List Int × List TSig) = spec_CountSigs x0 x1 x2 := by
  rw [spec_CountSigs.v]
  simp only [spec_CountSigs.e6]
  rfl
theorem spec_CountSigs.ok : V.Valid Tryz.prog 269 spec_CountSigs.con :=
  V.body_ok (V.env_ok V.mixed V.tysOk (V.tab_cons spec_IsSigBy.ok V.tab_nil)) Tryz.func269 (by kernel_rfl) (by kernel_rfl) (by kernel_rfl) (fun x y h => (show V.evBody spec_CountSigs.E spec_CountSigs.con Tryz.f269 x = _ from spec_CountSigs.eq (x.1, x.2.1) x.2.2.1 x.2.2.2).trans h)
noncomputable abbrev spec_IsSigned.con : V.Con := ⟨(.cons (.sl (.cons (.int .i64) .nil)) (.cons (.int .i64) (.cons (.sl (.cons (.int .i64) .nil)) (.cons (.sl (.cons (.int .i64) (.cons (.int .i64) .nil))) .nil)))), (.cons .bool .nil), fun (x : List Int × Int × List Int × List TSig) => spec_IsSigned (x.1, x.2.1) x.2.2.1 x.2.2.2, [], [(true, 2), (false, 1), (false, 1)], [(false, 1)], [false], []⟩
noncomputable abbrev spec_IsSigned.E : V.Env := V.mkE V.tys [(246, spec_IsKeys.con), (269, spec_CountSigs.con)] [] [(1, 9)] [] [] []
noncomputable abbrev spec_IsSigned.kt (x0 : TKeys) (x1 : List Int) (x2 : List TSig) : V.Kt Bool := V.ktOf spec_IsSigned.E spec_IsSigned.con Tryz.f211 ((x0.1, x0.2, x1, x2) : List Int × Int × List Int × List TSig)
theorem spec_IsSigned.eq (x0 : TKeys) (x1 : List Int) (x2 : List TSig) : V.evBody spec_IsSigned.E spec_IsSigned.con Tryz.f211 ((x0.1, x0.2, x1, x2) : List Int × Int × List Int × List TSig) = spec_IsSigned x0 x1 x2 := by kernel_rfl
theorem spec_IsSigned.ok : V.Valid Tryz.prog 211 spec_IsSigned.con :=
  V.body_ok (V.env_ok V.mixed V.tysOk (V.tab_cons spec_IsKeys.ok (V.tab_cons spec_CountSigs.ok V.tab_nil))) Tryz.func211 (by kernel_rfl) (by kernel_rfl) (by kernel_rfl) (fun x y h => (show V.evBody spec_IsSigned.E spec_IsSigned.con Tryz.f211 x = _ from spec_IsSigned.eq (x.1, x.2.1) x.2.2.1 x.2.2.2).trans h)
noncomputable abbrev spec_IsFirst.con : V.Con := ⟨V.A3, (.cons .bool .nil), fun (x : V.D3) => spec_IsFirst (V.p3_0 x), [], [(true, 17)], [(false, 1)], [false], []⟩
noncomputable abbrev spec_IsFirst.E : V.Env := V.mkE V.tys [(186, spec_IsHead.con), (211, spec_IsSigned.con), (212, spec_HeadInts.con), (233, spec_ZoneOf.con)] [] [(2, 34)] [] [] []
noncomputable abbrev spec_IsFirst.kt (x0 : TSigned) : V.Kt Bool := V.ktOf spec_IsFirst.E spec_IsFirst.con Tryz.f241 (V.fl3 x0)
noncomputable abbrev spec_IsFirst.s (x0 : TSigned) : V.St := ⟨[(0, .v true [.val (.int .i64 x0.1), .val (.int .i64 x0.2.1), .val (.int .i64 x0.2.2.1), .val (.int .i64 x0.2.2.2.1), .val (.int .i64 x0.2.2.2.2.1), .val (.int .i64 x0.2.2.2.2.2.1), .val (.int .i64 x0.2.2.2.2.2.2.1), .val (.int .i64 x0.2.2.2.2.2.2.2.1), .val (.sl (.cons (.int .i64) .nil) x0.2.2.2.2.2.2.2.2.1), .val (.int .i64 x0.2.2.2.2.2.2.2.2.2.1), .val (.sl (.cons (.int .i64) .nil) x0.2.2.2.2.2.2.2.2.2.2.1), .val (.int .i64 x0.2.2.2.2.2.2.2.2.2.2.2.1), .val (.int .i64 x0.2.2.2.2.2.2.2.2.2.2.2.2.1), .val (.sl (.cons (.int .i64) .nil) x0.2.2.2.2.2.2.2.2.2.2.2.2.2.1), .val (.int .i64 x0.2.2.2.2.2.2.2.2.2.2.2.2.2.2.1), .val (.bool x0.2.2.2.2.2.2.2.2.2.2.2.2.2.2.2.1), .val (.sl (.cons (.int .i64) (.cons (.int .i64) .nil)) x0.2.2.2.2.2.2.2.2.2.2.2.2.2.2.2.2)])], []⟩
theorem spec_IsFirst.v0 (x0 : TSigned) : V.evBody spec_IsFirst.E spec_IsFirst.con Tryz.f241 (V.fl3 x0) = V.evC spec_IsFirst.E Tryz.f241.ntmps (V.codeOf Tryz.f241) (spec_IsFirst.kt x0) (spec_IsFirst.s x0) := by kernel_rfl
theorem spec_IsFirst.v (x0 : TSigned) : V.evC spec_IsFirst.E Tryz.f241.ntmps (V.codeOf Tryz.f241) (spec_IsFirst.kt x0) (spec_IsFirst.s x0) = spec_IsFirst x0 := by kernel_rfl
theorem spec_IsFirst.eq (x0 : TSigned) : V.evBody spec_IsFirst.E spec_IsFirst.con Tryz.f241 (V.fl3 x0) = spec_IsFirst x0 := (spec_IsFirst.v0 x0).trans (spec_IsFirst.v x0)
theorem spec_IsFirst.ok : V.Valid Tryz.prog 241 spec_IsFirst.con :=
  V.body_ok (V.env_ok V.mixed V.tysOk (V.tab_cons spec_IsHead.ok (V.tab_cons spec_IsSigned.ok (V.tab_cons spec_HeadInts.ok (V.tab_cons spec_ZoneOf.ok V.tab_nil))))) Tryz.func241 (by kernel_rfl) (by kernel_rfl) (by kernel_rfl) (fun x y h => (show V.evBody spec_IsFirst.E spec_IsFirst.con Tryz.f241 x = _ from spec_IsFirst.eq (V.p3_0 x)).trans h)
noncomputable abbrev spec_HeadDigest.con : V.Con := ⟨V.A2, (.cons (.int .i64) .nil), fun (x : V.D2) => spec_HeadDigest (V.p2_0 x), [], [(true, 16)], [(false, 1)], [false], []⟩
noncomputable abbrev spec_HeadDigest.E : V.Env := V.mkE V.tys [(212, spec_HeadInts.con), (248, spec_Hash.con)] [] [] [] [] []
noncomputable abbrev spec_HeadDigest.kt (x0 : THead) : V.Kt Int := V.ktOf spec_HeadDigest.E spec_HeadDigest.con Tryz.f187 (V.fl2 x0)
noncomputable abbrev spec_HeadDigest.s (x0 : THead) : V.St := ⟨[(0, .v true [.val (.int .i64 x0.1), .val (.int .i64 x0.2.1), .val (.int .i64 x0.2.2.1), .val (.int .i64 x0.2.2.2.1), .val (.int .i64 x0.2.2.2.2.1), .val (.int .i64 x0.2.2.2.2.2.1), .val (.int .i64 x0.2.2.2.2.2.2.1), .val (.int .i64 x0.2.2.2.2.2.2.2.1), .val (.sl (.cons (.int .i64) .nil) x0.2.2.2.2.2.2.2.2.1), .val (.int .i64 x0.2.2.2.2.2.2.2.2.2.1), .val (.sl (.cons (.int .i64) .nil) x0.2.2.2.2.2.2.2.2.2.2.1), .val (.int .i64 x0.2.2.2.2.2.2.2.2.2.2.2.1), .val (.int .i64 x0.2.2.2.2.2.2.2.2.2.2.2.2.1), .val (.sl (.cons (.int .i64) .nil) x0.2.2.2.2.2.2.2.2.2.2.2.2.2.1), .val (.int .i64 x0.2.2.2.2.2.2.2.2.2.2.2.2.2.2.1), .val (.bool x0.2.2.2.2.2.2.2.2.2.2.2.2.2.2.2)])], []⟩
theorem spec_HeadDigest.v0 (x0 : THead) : V.evBody spec_HeadDigest.E spec_HeadDigest.con Tryz.f187 (V.fl2 x0) = V.evC spec_HeadDigest.E Tryz.f187.ntmps (V.codeOf Tryz.f187) (spec_HeadDigest.kt x0) (spec_HeadDigest.s x0) := by kernel_rfl
theorem spec_HeadDigest.v (x0 : THead) : V.evC spec_HeadDigest.E Tryz.f187.ntmps (V.codeOf Tryz.f187) (spec_HeadDigest.kt x0) (spec_HeadDigest.s x0) = spec_HeadDigest x0 := by kernel_rfl
theorem spec_HeadDigest.eq (x0 : THead) : V.evBody spec_HeadDigest.E spec_HeadDigest.con Tryz.f187 (V.fl2 x0) = spec_HeadDigest x0 := (spec_HeadDigest.v0 x0).trans (spec_HeadDigest.v x0)
theorem spec_HeadDigest.ok : V.Valid Tryz.prog 187 spec_HeadDigest.con :=
  V.body_ok (V.env_ok V.mixed V.tysOk (V.tab_cons spec_HeadInts.ok (V.tab_cons spec_Hash.ok V.tab_nil))) Tryz.func187 (by kernel_rfl) (by kernel_rfl) (by kernel_rfl) (fun x y h => (show V.evBody spec_HeadDigest.E spec_HeadDigest.con Tryz.f187 x = _ from spec_HeadDigest.eq (V.p2_0 x)).trans h)
noncomputable abbrev spec_l15Owner.con : V.Con := ⟨V.A4, (.cons (.int .i64) .nil), fun (x : V.D4) => spec_l15Owner (V.p4_0 x) (V.p4_1 x), [], [(true, 16), (true, 16)], [(false, 1)], [false], []⟩
noncomputable abbrev spec_l15Owner.E : V.Env := V.mkE V.tys [] [] [] [] [] []
noncomputable abbrev spec_l15Owner.kt (x0 : THead) (x1 : THead) : V.Kt Int := V.ktOf spec_l15Owner.E spec_l15Owner.con Tryz.f208 (V.fl4 x0 x1)
noncomputable abbrev spec_l15Owner.s (x0 : THead) (x1 : THead) : V.St := ⟨[(0, .v true [.val (.int .i64 x0.1), .val (.int .i64 x0.2.1), .val (.int .i64 x0.2.2.1), .val (.int .i64 x0.2.2.2.1), .val (.int .i64 x0.2.2.2.2.1), .val (.int .i64 x0.2.2.2.2.2.1), .val (.int .i64 x0.2.2.2.2.2.2.1), .val (.int .i64 x0.2.2.2.2.2.2.2.1), .val (.sl (.cons (.int .i64) .nil) x0.2.2.2.2.2.2.2.2.1), .val (.int .i64 x0.2.2.2.2.2.2.2.2.2.1), .val (.sl (.cons (.int .i64) .nil) x0.2.2.2.2.2.2.2.2.2.2.1), .val (.int .i64 x0.2.2.2.2.2.2.2.2.2.2.2.1), .val (.int .i64 x0.2.2.2.2.2.2.2.2.2.2.2.2.1), .val (.sl (.cons (.int .i64) .nil) x0.2.2.2.2.2.2.2.2.2.2.2.2.2.1), .val (.int .i64 x0.2.2.2.2.2.2.2.2.2.2.2.2.2.2.1), .val (.bool x0.2.2.2.2.2.2.2.2.2.2.2.2.2.2.2)]), (1, .v true [.val (.int .i64 x1.1), .val (.int .i64 x1.2.1), .val (.int .i64 x1.2.2.1), .val (.int .i64 x1.2.2.2.1), .val (.int .i64 x1.2.2.2.2.1), .val (.int .i64 x1.2.2.2.2.2.1), .val (.int .i64 x1.2.2.2.2.2.2.1), .val (.int .i64 x1.2.2.2.2.2.2.2.1), .val (.sl (.cons (.int .i64) .nil) x1.2.2.2.2.2.2.2.2.1), .val (.int .i64 x1.2.2.2.2.2.2.2.2.2.1), .val (.sl (.cons (.int .i64) .nil) x1.2.2.2.2.2.2.2.2.2.2.1), .val (.int .i64 x1.2.2.2.2.2.2.2.2.2.2.2.1), .val (.int .i64 x1.2.2.2.2.2.2.2.2.2.2.2.2.1), .val (.sl (.cons (.int .i64) .nil) x1.2.2.2.2.2.2.2.2.2.2.2.2.2.1), .val (.int .i64 x1.2.2.2.2.2.2.2.2.2.2.2.2.2.2.1), .val (.bool x1.2.2.2.2.2.2.2.2.2.2.2.2.2.2.2)])], []⟩
theorem spec_l15Owner.v0 (x0 : THead) (x1 : THead) : V.evBody spec_l15Owner.E spec_l15Owner.con Tryz.f208 (V.fl4 x0 x1) = V.evC spec_l15Owner.E Tryz.f208.ntmps (V.codeOf Tryz.f208) (spec_l15Owner.kt x0 x1) (spec_l15Owner.s x0 x1) := by kernel_rfl
theorem spec_l15Owner.v (x0 : THead) (x1 : THead) : V.evC spec_l15Owner.E Tryz.f208.ntmps (V.codeOf Tryz.f208) (spec_l15Owner.kt x0 x1) (spec_l15Owner.s x0 x1) = spec_l15Owner x0 x1 := by kernel_rfl
theorem spec_l15Owner.eq (x0 : THead) (x1 : THead) : V.evBody spec_l15Owner.E spec_l15Owner.con Tryz.f208 (V.fl4 x0 x1) = spec_l15Owner x0 x1 := (spec_l15Owner.v0 x0 x1).trans (spec_l15Owner.v x0 x1)
theorem spec_l15Owner.ok : V.Valid Tryz.prog 208 spec_l15Owner.con :=
  V.body_ok (V.env_ok V.mixed V.tysOk V.tab_nil) Tryz.func208 (by kernel_rfl) (by kernel_rfl) (by kernel_rfl) (fun x y h => (show V.evBody spec_l15Owner.E spec_l15Owner.con Tryz.f208 x = _ from spec_l15Owner.eq (V.p4_0 x) (V.p4_1 x)).trans h)
noncomputable abbrev spec_EqualInts.con : V.Con := ⟨(.cons (.sl (.cons (.int .i64) .nil)) (.cons (.sl (.cons (.int .i64) .nil)) .nil)), (.cons .bool .nil), fun (x : List Int × List Int) => spec_EqualInts x.1 x.2, [], [(false, 1), (false, 1)], [(false, 1)], [false], []⟩
noncomputable abbrev spec_EqualInts.E : V.Env := V.mkE V.tys [] [(8, [0, 1, 5], [])] [(6, 8)] [] [] []
noncomputable abbrev spec_EqualInts.kt (x0 : List Int) (x1 : List Int) : V.Kt Bool := V.ktOf spec_EqualInts.E spec_EqualInts.con Tryz.f219 ((x0, x1) : List Int × List Int)
noncomputable abbrev spec_EqualInts.s8 (x0 : List Int) (x1 : List Int) (v8_2 : Int) : V.St := ⟨[(0, .v false [.val (.sl (.cons (.int .i64) .nil) x0)]), (1, .v false [.val (.sl (.cons (.int .i64) .nil) x1)]), (5, .v false [.val (.int .i64 v8_2)])], []⟩
theorem spec_EqualInts.r8 (x0 : List Int) (x1 : List Int) (R : V.St → Option Bool) (v8_2 : Int) : V.loopF spec_EqualInts.E Tryz.f219.ntmps [1, 1, 0, 1, 0] [] (V.codeOf Tryz.f219) (spec_EqualInts.kt x0 x1) R (spec_EqualInts.s8 x0 x1 v8_2) = spec_EqualInts.g8 x0 x1 (fun v8_2 => R (spec_EqualInts.s8 x0 x1 v8_2)) v8_2 := by kernel_rfl
theorem spec_EqualInts.e8 (x0 : List Int) (x1 : List Int) : ∀ (n : Nat) (v8_2 : Int), V.loopN (V.loopF spec_EqualInts.E Tryz.f219.ntmps [1, 1, 0, 1, 0] [] (V.codeOf Tryz.f219) (spec_EqualInts.kt x0 x1)) n (spec_EqualInts.s8 x0 x1 v8_2) = spec_EqualInts.l8 x0 x1 n v8_2 := by
  intro n
  induction n with
  | zero => intros; rfl
  | succ n ih =>
    intro v8_2
    show V.loopF spec_EqualInts.E Tryz.f219.ntmps [1, 1, 0, 1, 0] [] (V.codeOf Tryz.f219) (spec_EqualInts.kt x0 x1) (V.loopN (V.loopF spec_EqualInts.E Tryz.f219.ntmps [1, 1, 0, 1, 0] [] (V.codeOf Tryz.f219) (spec_EqualInts.kt x0 x1)) n) (spec_EqualInts.s8 x0 x1 v8_2) = _
    rw [spec_EqualInts.r8]
    simp only [ih]
    rfl
theorem spec_EqualInts.v (x0 : List Int) (x1 : List Int) : V.evBody spec_EqualInts.E spec_EqualInts.con Tryz.f219 ((x0, x1) : List Int × List Int) = spec_EqualInts.b x0 x1 (fun v8_2 => V.loopN (V.loopF spec_EqualInts.E Tryz.f219.ntmps [1, 1, 0, 1, 0] [] (V.codeOf Tryz.f219) (spec_EqualInts.kt x0 x1)) V.KK (spec_EqualInts.s8 x0 x1 v8_2)) := by kernel_rfl
theorem spec_EqualInts.eq (x0 : List Int) (x1 : List Int) : V.evBody spec_EqualInts.E spec_EqualInts.con Tryz.f219 ((x0, x1) : List Int × List Int) = spec_EqualInts x0 x1 := by
  rw [spec_EqualInts.v]
  simp only [spec_EqualInts.e8]
  rfl
theorem spec_EqualInts.ok : V.Valid Tryz.prog 219 spec_EqualInts.con :=
  V.body_ok (V.env_ok V.mixed V.tysOk V.tab_nil) Tryz.func219 (by kernel_rfl) (by kernel_rfl) (by kernel_rfl) (fun x y h => (show V.evBody spec_EqualInts.E spec_EqualInts.con Tryz.f219 x = _ from spec_EqualInts.eq x.1 x.2).trans h)
noncomputable abbrev spec_EqualKeys.con : V.Con := ⟨(.cons (.sl (.cons (.int .i64) .nil)) (.cons (.int .i64) (.cons (.sl (.cons (.int .i64) .nil)) (.cons (.int .i64) .nil)))), (.cons .bool .nil), fun (x : List Int × Int × List Int × Int) => spec_EqualKeys (x.1, x.2.1) x.2.2, [], [(true, 2), (true, 2)], [(false, 1)], [false], []⟩
noncomputable abbrev spec_EqualKeys.E : V.Env := V.mkE V.tys [(219, spec_EqualInts.con)] [] [] [] [] []
noncomputable abbrev spec_EqualKeys.kt (x0 : TKeys) (x1 : TKeys) : V.Kt Bool := V.ktOf spec_EqualKeys.E spec_EqualKeys.con Tryz.f267 ((x0.1, x0.2, x1.1, x1.2) : List Int × Int × List Int × Int)
theorem spec_EqualKeys.eq (x0 : TKeys) (x1 : TKeys) : V.evBody spec_EqualKeys.E spec_EqualKeys.con Tryz.f267 ((x0.1, x0.2, x1.1, x1.2) : List Int × Int × List Int × Int) = spec_EqualKeys x0 x1 := by kernel_rfl
theorem spec_EqualKeys.ok : V.Valid Tryz.prog 267 spec_EqualKeys.con :=
  V.body_ok (V.env_ok V.mixed V.tysOk (V.tab_cons spec_EqualInts.ok V.tab_nil)) Tryz.func267 (by kernel_rfl) (by kernel_rfl) (by kernel_rfl) (fun x y h => (show V.evBody spec_EqualKeys.E spec_EqualKeys.con Tryz.f267 x = _ from spec_EqualKeys.eq (x.1, x.2.1) x.2.2).trans h)
noncomputable abbrev spec_SameContents.con : V.Con := ⟨V.A4, (.cons .bool .nil), fun (x : V.D4) => spec_SameContents (V.p4_0 x) (V.p4_1 x), [], [(true, 16), (true, 16)], [(false, 1)], [false], []⟩
noncomputable abbrev spec_SameContents.E : V.Env := V.mkE V.tys [] [] [] [] [] []
noncomputable abbrev spec_SameContents.kt (x0 : THead) (x1 : THead) : V.Kt Bool := V.ktOf spec_SameContents.E spec_SameContents.con Tryz.f268 (V.fl4 x0 x1)
noncomputable abbrev spec_SameContents.s (x0 : THead) (x1 : THead) : V.St := ⟨[(0, .v true [.val (.int .i64 x0.1), .val (.int .i64 x0.2.1), .val (.int .i64 x0.2.2.1), .val (.int .i64 x0.2.2.2.1), .val (.int .i64 x0.2.2.2.2.1), .val (.int .i64 x0.2.2.2.2.2.1), .val (.int .i64 x0.2.2.2.2.2.2.1), .val (.int .i64 x0.2.2.2.2.2.2.2.1), .val (.sl (.cons (.int .i64) .nil) x0.2.2.2.2.2.2.2.2.1), .val (.int .i64 x0.2.2.2.2.2.2.2.2.2.1), .val (.sl (.cons (.int .i64) .nil) x0.2.2.2.2.2.2.2.2.2.2.1), .val (.int .i64 x0.2.2.2.2.2.2.2.2.2.2.2.1), .val (.int .i64 x0.2.2.2.2.2.2.2.2.2.2.2.2.1), .val (.sl (.cons (.int .i64) .nil) x0.2.2.2.2.2.2.2.2.2.2.2.2.2.1), .val (.int .i64 x0.2.2.2.2.2.2.2.2.2.2.2.2.2.2.1), .val (.bool x0.2.2.2.2.2.2.2.2.2.2.2.2.2.2.2)]), (1, .v true [.val (.int .i64 x1.1), .val (.int .i64 x1.2.1), .val (.int .i64 x1.2.2.1), .val (.int .i64 x1.2.2.2.1), .val (.int .i64 x1.2.2.2.2.1), .val (.int .i64 x1.2.2.2.2.2.1), .val (.int .i64 x1.2.2.2.2.2.2.1), .val (.int .i64 x1.2.2.2.2.2.2.2.1), .val (.sl (.cons (.int .i64) .nil) x1.2.2.2.2.2.2.2.2.1), .val (.int .i64 x1.2.2.2.2.2.2.2.2.2.1), .val (.sl (.cons (.int .i64) .nil) x1.2.2.2.2.2.2.2.2.2.2.1), .val (.int .i64 x1.2.2.2.2.2.2.2.2.2.2.2.1), .val (.int .i64 x1.2.2.2.2.2.2.2.2.2.2.2.2.1), .val (.sl (.cons (.int .i64) .nil) x1.2.2.2.2.2.2.2.2.2.2.2.2.2.1), .val (.int .i64 x1.2.2.2.2.2.2.2.2.2.2.2.2.2.2.1), .val (.bool x1.2.2.2.2.2.2.2.2.2.2.2.2.2.2.2)])], []⟩
theorem spec_SameContents.v0 (x0 : THead) (x1 : THead) : V.evBody spec_SameContents.E spec_SameContents.con Tryz.f268 (V.fl4 x0 x1) = V.evC spec_SameContents.E Tryz.f268.ntmps (V.codeOf Tryz.f268) (spec_SameContents.kt x0 x1) (spec_SameContents.s x0 x1) := by kernel_rfl
theorem spec_SameContents.v (x0 : THead) (x1 : THead) : V.evC spec_SameContents.E Tryz.f268.ntmps (V.codeOf Tryz.f268) (spec_SameContents.kt x0 x1) (spec_SameContents.s x0 x1) = spec_SameContents x0 x1 := by kernel_rfl
theorem spec_SameContents.eq (x0 : THead) (x1 : THead) : V.evBody spec_SameContents.E spec_SameContents.con Tryz.f268 (V.fl4 x0 x1) = spec_SameContents x0 x1 := (spec_SameContents.v0 x0 x1).trans (spec_SameContents.v x0 x1)
theorem spec_SameContents.ok : V.Valid Tryz.prog 268 spec_SameContents.con :=
  V.body_ok (V.env_ok V.mixed V.tysOk V.tab_nil) Tryz.func268 (by kernel_rfl) (by kernel_rfl) (by kernel_rfl) (fun x y h => (show V.evBody spec_SameContents.E spec_SameContents.con Tryz.f268 x = _ from spec_SameContents.eq (V.p4_0 x) (V.p4_1 x)).trans h)
noncomputable abbrev spec_l15Heir.con : V.Con := ⟨V.A4, (.cons (.int .i64) .nil), fun (x : V.D4) => spec_l15Heir (V.p4_0 x) (V.p4_1 x), [], [(true, 16), (true, 16)], [(false, 1)], [false], []⟩
noncomputable abbrev spec_l15Heir.E : V.Env := V.mkE V.tys [(247, spec_NoKeys.con), (267, spec_EqualKeys.con), (268, spec_SameContents.con)] [(9, [2, 3, 8], [])] [] [] [] []
noncomputable abbrev spec_l15Heir.kt (x0 : THead) (x1 : THead) : V.Kt Int := V.ktOf spec_l15Heir.E spec_l15Heir.con Tryz.f209 (V.fl4 x0 x1)
noncomputable abbrev spec_l15Heir.s9 (x0 : THead) (x1 : THead) (v9_0 : Bool) : V.St := ⟨[(2, .v false [.ptr 64000 0]), (3, .v false [.ptr 64064 0]), (8, .v false [.val (.bool v9_0)])], [(64000, .box [.val (.int .i64 x0.1), .val (.int .i64 x0.2.1), .val (.int .i64 x0.2.2.1), .val (.int .i64 x0.2.2.2.1), .val (.int .i64 x0.2.2.2.2.1), .val (.int .i64 x0.2.2.2.2.2.1), .val (.int .i64 x0.2.2.2.2.2.2.1), .val (.int .i64 x0.2.2.2.2.2.2.2.1), .val (.sl (.cons (.int .i64) .nil) x0.2.2.2.2.2.2.2.2.1), .val (.int .i64 x0.2.2.2.2.2.2.2.2.2.1), .val (.sl (.cons (.int .i64) .nil) x0.2.2.2.2.2.2.2.2.2.2.1), .val (.int .i64 x0.2.2.2.2.2.2.2.2.2.2.2.1), .val (.int .i64 x0.2.2.2.2.2.2.2.2.2.2.2.2.1), .val (.sl (.cons (.int .i64) .nil) x0.2.2.2.2.2.2.2.2.2.2.2.2.2.1), .val (.int .i64 x0.2.2.2.2.2.2.2.2.2.2.2.2.2.2.1), .val (.bool x0.2.2.2.2.2.2.2.2.2.2.2.2.2.2.2)]), (64064, .box [.val (.int .i64 x1.1), .val (.int .i64 x1.2.1), .val (.int .i64 x1.2.2.1), .val (.int .i64 x1.2.2.2.1), .val (.int .i64 x1.2.2.2.2.1), .val (.int .i64 x1.2.2.2.2.2.1), .val (.int .i64 x1.2.2.2.2.2.2.1), .val (.int .i64 x1.2.2.2.2.2.2.2.1), .val (.sl (.cons (.int .i64) .nil) x1.2.2.2.2.2.2.2.2.1), .val (.int .i64 x1.2.2.2.2.2.2.2.2.2.1), .val (.sl (.cons (.int .i64) .nil) x1.2.2.2.2.2.2.2.2.2.2.1), .val (.int .i64 x1.2.2.2.2.2.2.2.2.2.2.2.1), .val (.int .i64 x1.2.2.2.2.2.2.2.2.2.2.2.2.1), .val (.sl (.cons (.int .i64) .nil) x1.2.2.2.2.2.2.2.2.2.2.2.2.2.1), .val (.int .i64 x1.2.2.2.2.2.2.2.2.2.2.2.2.2.2.1), .val (.bool x1.2.2.2.2.2.2.2.2.2.2.2.2.2.2.2)])]⟩
theorem spec_l15Heir.r9 (x0 : THead) (x1 : THead) (v9_0 : Bool) : V.normK 9 ([2, 3, 8], []) (V.joinF spec_l15Heir.E Tryz.f209.ntmps [1, 0, 0, 1, 1] [] (V.codeOf Tryz.f209) (spec_l15Heir.kt x0 x1)) (spec_l15Heir.s9 x0 x1 v9_0) = spec_l15Heir.g9 x0 x1 v9_0 := by kernel_rfl
theorem spec_l15Heir.e9 (x0 : THead) (x1 : THead) (v9_0 : Bool) : V.normK 9 ([2, 3, 8], []) (V.joinF spec_l15Heir.E Tryz.f209.ntmps [1, 0, 0, 1, 1] [] (V.codeOf Tryz.f209) (spec_l15Heir.kt x0 x1)) (spec_l15Heir.s9 x0 x1 v9_0) = spec_l15Heir.l9 x0 x1 v9_0 := by
  rw [spec_l15Heir.r9]
  rfl
noncomputable abbrev spec_l15Heir.s (x0 : THead) (x1 : THead) : V.St := ⟨[(0, .v true [.val (.int .i64 x0.1), .val (.int .i64 x0.2.1), .val (.int .i64 x0.2.2.1), .val (.int .i64 x0.2.2.2.1), .val (.int .i64 x0.2.2.2.2.1), .val (.int .i64 x0.2.2.2.2.2.1), .val (.int .i64 x0.2.2.2.2.2.2.1), .val (.int .i64 x0.2.2.2.2.2.2.2.1), .val (.sl (.cons (.int .i64) .nil) x0.2.2.2.2.2.2.2.2.1), .val (.int .i64 x0.2.2.2.2.2.2.2.2.2.1), .val (.sl (.cons (.int .i64) .nil) x0.2.2.2.2.2.2.2.2.2.2.1), .val (.int .i64 x0.2.2.2.2.2.2.2.2.2.2.2.1), .val (.int .i64 x0.2.2.2.2.2.2.2.2.2.2.2.2.1), .val (.sl (.cons (.int .i64) .nil) x0.2.2.2.2.2.2.2.2.2.2.2.2.2.1), .val (.int .i64 x0.2.2.2.2.2.2.2.2.2.2.2.2.2.2.1), .val (.bool x0.2.2.2.2.2.2.2.2.2.2.2.2.2.2.2)]), (1, .v true [.val (.int .i64 x1.1), .val (.int .i64 x1.2.1), .val (.int .i64 x1.2.2.1), .val (.int .i64 x1.2.2.2.1), .val (.int .i64 x1.2.2.2.2.1), .val (.int .i64 x1.2.2.2.2.2.1), .val (.int .i64 x1.2.2.2.2.2.2.1), .val (.int .i64 x1.2.2.2.2.2.2.2.1), .val (.sl (.cons (.int .i64) .nil) x1.2.2.2.2.2.2.2.2.1), .val (.int .i64 x1.2.2.2.2.2.2.2.2.2.1), .val (.sl (.cons (.int .i64) .nil) x1.2.2.2.2.2.2.2.2.2.2.1), .val (.int .i64 x1.2.2.2.2.2.2.2.2.2.2.2.1), .val (.int .i64 x1.2.2.2.2.2.2.2.2.2.2.2.2.1), .val (.sl (.cons (.int .i64) .nil) x1.2.2.2.2.2.2.2.2.2.2.2.2.2.1), .val (.int .i64 x1.2.2.2.2.2.2.2.2.2.2.2.2.2.2.1), .val (.bool x1.2.2.2.2.2.2.2.2.2.2.2.2.2.2.2)])], []⟩
theorem spec_l15Heir.v0 (x0 : THead) (x1 : THead) : V.evBody spec_l15Heir.E spec_l15Heir.con Tryz.f209 (V.fl4 x0 x1) = V.evC spec_l15Heir.E Tryz.f209.ntmps (V.codeOf Tryz.f209) (spec_l15Heir.kt x0 x1) (spec_l15Heir.s x0 x1) := by kernel_rfl
theorem spec_l15Heir.v (x0 : THead) (x1 : THead) : V.evC spec_l15Heir.E Tryz.f209.ntmps (V.codeOf Tryz.f209) (spec_l15Heir.kt x0 x1) (spec_l15Heir.s x0 x1) = spec_l15Heir.b x0 x1 (fun v9_0 => V.normK 9 ([2, 3, 8], []) (V.joinF spec_l15Heir.E Tryz.f209.ntmps [1, 0, 0, 1, 1] [] (V.codeOf Tryz.f209) (spec_l15Heir.kt x0 x1)) (spec_l15Heir.s9 x0 x1 v9_0)) := by kernel_rfl
theorem spec_l15Heir.eq (x0 : THead) (x1 : THead) : V.evBody spec_l15Heir.E spec_l15Heir.con Tryz.f209 (V.fl4 x0 x1) = spec_l15Heir x0 x1 := by
  rw [spec_l15Heir.v0, spec_l15Heir.v]
  simp only [spec_l15Heir.e9]
  rfl
theorem spec_l15Heir.ok : V.Valid Tryz.prog 209 spec_l15Heir.con :=
  V.body_ok (V.env_ok V.mixed V.tysOk (V.tab_cons spec_NoKeys.ok (V.tab_cons spec_EqualKeys.ok (V.tab_cons spec_SameContents.ok V.tab_nil)))) Tryz.func209 (by kernel_rfl) (by kernel_rfl) (by kernel_rfl) (fun x y h => (show V.evBody spec_l15Heir.E spec_l15Heir.con Tryz.f209 x = _ from spec_l15Heir.eq (V.p4_0 x) (V.p4_1 x)).trans h)
noncomputable abbrev spec_l15Judge.con : V.Con := ⟨V.A4, (.cons (.int .i64) .nil), fun (x : V.D4) => spec_l15Judge (V.p4_0 x) (V.p4_1 x), [], [(true, 16), (true, 16)], [(false, 1)], [false], []⟩
noncomputable abbrev spec_l15Judge.E : V.Env := V.mkE V.tys [(247, spec_NoKeys.con), (267, spec_EqualKeys.con), (268, spec_SameContents.con)] [(9, [2, 3, 9], [])] [] [] [] []
noncomputable abbrev spec_l15Judge.kt (x0 : THead) (x1 : THead) : V.Kt Int := V.ktOf spec_l15Judge.E spec_l15Judge.con Tryz.f210 (V.fl4 x0 x1)
noncomputable abbrev spec_l15Judge.s9 (x0 : THead) (x1 : THead) (v9_0 : Bool) : V.St := ⟨[(2, .v false [.ptr 64000 0]), (3, .v false [.ptr 64064 0]), (9, .v false [.val (.bool v9_0)])], [(64000, .box [.val (.int .i64 x0.1), .val (.int .i64 x0.2.1), .val (.int .i64 x0.2.2.1), .val (.int .i64 x0.2.2.2.1), .val (.int .i64 x0.2.2.2.2.1), .val (.int .i64 x0.2.2.2.2.2.1), .val (.int .i64 x0.2.2.2.2.2.2.1), .val (.int .i64 x0.2.2.2.2.2.2.2.1), .val (.sl (.cons (.int .i64) .nil) x0.2.2.2.2.2.2.2.2.1), .val (.int .i64 x0.2.2.2.2.2.2.2.2.2.1), .val (.sl (.cons (.int .i64) .nil) x0.2.2.2.2.2.2.2.2.2.2.1), .val (.int .i64 x0.2.2.2.2.2.2.2.2.2.2.2.1), .val (.int .i64 x0.2.2.2.2.2.2.2.2.2.2.2.2.1), .val (.sl (.cons (.int .i64) .nil) x0.2.2.2.2.2.2.2.2.2.2.2.2.2.1), .val (.int .i64 x0.2.2.2.2.2.2.2.2.2.2.2.2.2.2.1), .val (.bool x0.2.2.2.2.2.2.2.2.2.2.2.2.2.2.2)]), (64064, .box [.val (.int .i64 x1.1), .val (.int .i64 x1.2.1), .val (.int .i64 x1.2.2.1), .val (.int .i64 x1.2.2.2.1), .val (.int .i64 x1.2.2.2.2.1), .val (.int .i64 x1.2.2.2.2.2.1), .val (.int .i64 x1.2.2.2.2.2.2.1), .val (.int .i64 x1.2.2.2.2.2.2.2.1), .val (.sl (.cons (.int .i64) .nil) x1.2.2.2.2.2.2.2.2.1), .val (.int .i64 x1.2.2.2.2.2.2.2.2.2.1), .val (.sl (.cons (.int .i64) .nil) x1.2.2.2.2.2.2.2.2.2.2.1), .val (.int .i64 x1.2.2.2.2.2.2.2.2.2.2.2.1), .val (.int .i64 x1.2.2.2.2.2.2.2.2.2.2.2.2.1), .val (.sl (.cons (.int .i64) .nil) x1.2.2.2.2.2.2.2.2.2.2.2.2.2.1), .val (.int .i64 x1.2.2.2.2.2.2.2.2.2.2.2.2.2.2.1), .val (.bool x1.2.2.2.2.2.2.2.2.2.2.2.2.2.2.2)])]⟩
theorem spec_l15Judge.r9 (x0 : THead) (x1 : THead) (v9_0 : Bool) : V.normK 9 ([2, 3, 9], []) (V.joinF spec_l15Judge.E Tryz.f210.ntmps [1, 0, 0, 1, 1] [] (V.codeOf Tryz.f210) (spec_l15Judge.kt x0 x1)) (spec_l15Judge.s9 x0 x1 v9_0) = spec_l15Judge.g9 x0 x1 v9_0 := by kernel_rfl
theorem spec_l15Judge.e9 (x0 : THead) (x1 : THead) (v9_0 : Bool) : V.normK 9 ([2, 3, 9], []) (V.joinF spec_l15Judge.E Tryz.f210.ntmps [1, 0, 0, 1, 1] [] (V.codeOf Tryz.f210) (spec_l15Judge.kt x0 x1)) (spec_l15Judge.s9 x0 x1 v9_0) = spec_l15Judge.l9 x0 x1 v9_0 := by
  rw [spec_l15Judge.r9]
  rfl
noncomputable abbrev spec_l15Judge.s (x0 : THead) (x1 : THead) : V.St := ⟨[(0, .v true [.val (.int .i64 x0.1), .val (.int .i64 x0.2.1), .val (.int .i64 x0.2.2.1), .val (.int .i64 x0.2.2.2.1), .val (.int .i64 x0.2.2.2.2.1), .val (.int .i64 x0.2.2.2.2.2.1), .val (.int .i64 x0.2.2.2.2.2.2.1), .val (.int .i64 x0.2.2.2.2.2.2.2.1), .val (.sl (.cons (.int .i64) .nil) x0.2.2.2.2.2.2.2.2.1), .val (.int .i64 x0.2.2.2.2.2.2.2.2.2.1), .val (.sl (.cons (.int .i64) .nil) x0.2.2.2.2.2.2.2.2.2.2.1), .val (.int .i64 x0.2.2.2.2.2.2.2.2.2.2.2.1), .val (.int .i64 x0.2.2.2.2.2.2.2.2.2.2.2.2.1), .val (.sl (.cons (.int .i64) .nil) x0.2.2.2.2.2.2.2.2.2.2.2.2.2.1), .val (.int .i64 x0.2.2.2.2.2.2.2.2.2.2.2.2.2.2.1), .val (.bool x0.2.2.2.2.2.2.2.2.2.2.2.2.2.2.2)]), (1, .v true [.val (.int .i64 x1.1), .val (.int .i64 x1.2.1), .val (.int .i64 x1.2.2.1), .val (.int .i64 x1.2.2.2.1), .val (.int .i64 x1.2.2.2.2.1), .val (.int .i64 x1.2.2.2.2.2.1), .val (.int .i64 x1.2.2.2.2.2.2.1), .val (.int .i64 x1.2.2.2.2.2.2.2.1), .val (.sl (.cons (.int .i64) .nil) x1.2.2.2.2.2.2.2.2.1), .val (.int .i64 x1.2.2.2.2.2.2.2.2.2.1), .val (.sl (.cons (.int .i64) .nil) x1.2.2.2.2.2.2.2.2.2.2.1), .val (.int .i64 x1.2.2.2.2.2.2.2.2.2.2.2.1), .val (.int .i64 x1.2.2.2.2.2.2.2.2.2.2.2.2.1), .val (.sl (.cons (.int .i64) .nil) x1.2.2.2.2.2.2.2.2.2.2.2.2.2.1), .val (.int .i64 x1.2.2.2.2.2.2.2.2.2.2.2.2.2.2.1), .val (.bool x1.2.2.2.2.2.2.2.2.2.2.2.2.2.2.2)])], []⟩
theorem spec_l15Judge.v0 (x0 : THead) (x1 : THead) : V.evBody spec_l15Judge.E spec_l15Judge.con Tryz.f210 (V.fl4 x0 x1) = V.evC spec_l15Judge.E Tryz.f210.ntmps (V.codeOf Tryz.f210) (spec_l15Judge.kt x0 x1) (spec_l15Judge.s x0 x1) := by kernel_rfl
theorem spec_l15Judge.v (x0 : THead) (x1 : THead) : V.evC spec_l15Judge.E Tryz.f210.ntmps (V.codeOf Tryz.f210) (spec_l15Judge.kt x0 x1) (spec_l15Judge.s x0 x1) = spec_l15Judge.b x0 x1 (fun v9_0 => V.normK 9 ([2, 3, 9], []) (V.joinF spec_l15Judge.E Tryz.f210.ntmps [1, 0, 0, 1, 1] [] (V.codeOf Tryz.f210) (spec_l15Judge.kt x0 x1)) (spec_l15Judge.s9 x0 x1 v9_0)) := by kernel_rfl
theorem spec_l15Judge.eq (x0 : THead) (x1 : THead) : V.evBody spec_l15Judge.E spec_l15Judge.con Tryz.f210 (V.fl4 x0 x1) = spec_l15Judge x0 x1 := by
  rw [spec_l15Judge.v0, spec_l15Judge.v]
  simp only [spec_l15Judge.e9]
  rfl
theorem spec_l15Judge.ok : V.Valid Tryz.prog 210 spec_l15Judge.con :=
  V.body_ok (V.env_ok V.mixed V.tysOk (V.tab_cons spec_NoKeys.ok (V.tab_cons spec_EqualKeys.ok (V.tab_cons spec_SameContents.ok V.tab_nil)))) Tryz.func210 (by kernel_rfl) (by kernel_rfl) (by kernel_rfl) (fun x y h => (show V.evBody spec_l15Judge.E spec_l15Judge.con Tryz.f210 x = _ from spec_l15Judge.eq (V.p4_0 x) (V.p4_1 x)).trans h)
noncomputable abbrev spec_NextCode.con : V.Con := ⟨V.A5, (.cons (.int .i64) .nil), fun (x : V.D5) => spec_NextCode (V.p5_0 x) (V.p5_1 x), [], [(true, 16), (true, 17)], [(false, 1)], [false], []⟩
noncomputable abbrev spec_NextCode.E : V.Env := V.mkE V.tys [(186, spec_IsHead.con), (187, spec_HeadDigest.con), (208, spec_l15Owner.con), (209, spec_l15Heir.con), (210, spec_l15Judge.con), (211, spec_IsSigned.con), (212, spec_HeadInts.con)] [(9, [2, 3, 5], []), (13, [2, 3, 5], []), (31, [3, 5, 6, 7], [])] [(4, 25), (15, 8)] [] [] []
noncomputable abbrev spec_NextCode.kt (x0 : THead) (x1 : TSigned) : V.Kt Int := V.ktOf spec_NextCode.E spec_NextCode.con Tryz.f118 (V.fl5 x0 x1)
noncomputable abbrev spec_NextCode.s31 (x1 : TSigned) (v31_0 : Int) (v31_34 : List Int) (v31_35 : Int) : V.St := ⟨[(3, .v false [.ptr 64064 0]), (5, .v false [.ptr 128128 0]), (6, .v false [.val (.int .i64 v31_0)]), (7, .v false [.ptr 512128 0])], [(64064, .box [.val (.int .i64 x1.1), .val (.int .i64 x1.2.1), .val (.int .i64 x1.2.2.1), .val (.int .i64 x1.2.2.2.1), .val (.int .i64 x1.2.2.2.2.1), .val (.int .i64 x1.2.2.2.2.2.1), .val (.int .i64 x1.2.2.2.2.2.2.1), .val (.int .i64 x1.2.2.2.2.2.2.2.1), .val (.sl (.cons (.int .i64) .nil) x1.2.2.2.2.2.2.2.2.1), .val (.int .i64 x1.2.2.2.2.2.2.2.2.2.1), .val (.sl (.cons (.int .i64) .nil) x1.2.2.2.2.2.2.2.2.2.2.1), .val (.int .i64 x1.2.2.2.2.2.2.2.2.2.2.2.1), .val (.int .i64 x1.2.2.2.2.2.2.2.2.2.2.2.2.1), .val (.sl (.cons (.int .i64) .nil) x1.2.2.2.2.2.2.2.2.2.2.2.2.2.1), .val (.int .i64 x1.2.2.2.2.2.2.2.2.2.2.2.2.2.2.1), .val (.bool x1.2.2.2.2.2.2.2.2.2.2.2.2.2.2.2.1), .val (.sl (.cons (.int .i64) (.cons (.int .i64) .nil)) x1.2.2.2.2.2.2.2.2.2.2.2.2.2.2.2.2)]), (128128, .box [.val (.int .i64 x1.1), .val (.int .i64 x1.2.1), .val (.int .i64 x1.2.2.1), .val (.int .i64 x1.2.2.2.1), .val (.int .i64 x1.2.2.2.2.1), .val (.int .i64 x1.2.2.2.2.2.1), .val (.int .i64 x1.2.2.2.2.2.2.1), .val (.int .i64 x1.2.2.2.2.2.2.2.1), .val (.sl (.cons (.int .i64) .nil) x1.2.2.2.2.2.2.2.2.1), .val (.int .i64 x1.2.2.2.2.2.2.2.2.2.1), .val (.sl (.cons (.int .i64) .nil) x1.2.2.2.2.2.2.2.2.2.2.1), .val (.int .i64 x1.2.2.2.2.2.2.2.2.2.2.2.1), .val (.int .i64 x1.2.2.2.2.2.2.2.2.2.2.2.2.1), .val (.sl (.cons (.int .i64) .nil) x1.2.2.2.2.2.2.2.2.2.2.2.2.2.1), .val (.int .i64 x1.2.2.2.2.2.2.2.2.2.2.2.2.2.2.1), .val (.bool x1.2.2.2.2.2.2.2.2.2.2.2.2.2.2.2.1)]), (512128, .box [.val (.sl (.cons (.int .i64) .nil) v31_34), .val (.int .i64 v31_35)])]⟩
noncomputable abbrev spec_NextCode.s13 (x0 : THead) (x1 : TSigned) : V.St := ⟨[(2, .v false [.ptr 64000 0]), (3, .v false [.ptr 64064 0]), (5, .v false [.ptr 128128 0])], [(64000, .box [.val (.int .i64 x0.1), .val (.int .i64 x0.2.1), .val (.int .i64 x0.2.2.1), .val (.int .i64 x0.2.2.2.1), .val (.int .i64 x0.2.2.2.2.1), .val (.int .i64 x0.2.2.2.2.2.1), .val (.int .i64 x0.2.2.2.2.2.2.1), .val (.int .i64 x0.2.2.2.2.2.2.2.1), .val (.sl (.cons (.int .i64) .nil) x0.2.2.2.2.2.2.2.2.1), .val (.int .i64 x0.2.2.2.2.2.2.2.2.2.1), .val (.sl (.cons (.int .i64) .nil) x0.2.2.2.2.2.2.2.2.2.2.1), .val (.int .i64 x0.2.2.2.2.2.2.2.2.2.2.2.1), .val (.int .i64 x0.2.2.2.2.2.2.2.2.2.2.2.2.1), .val (.sl (.cons (.int .i64) .nil) x0.2.2.2.2.2.2.2.2.2.2.2.2.2.1), .val (.int .i64 x0.2.2.2.2.2.2.2.2.2.2.2.2.2.2.1), .val (.bool x0.2.2.2.2.2.2.2.2.2.2.2.2.2.2.2)]), (64064, .box [.val (.int .i64 x1.1), .val (.int .i64 x1.2.1), .val (.int .i64 x1.2.2.1), .val (.int .i64 x1.2.2.2.1), .val (.int .i64 x1.2.2.2.2.1), .val (.int .i64 x1.2.2.2.2.2.1), .val (.int .i64 x1.2.2.2.2.2.2.1), .val (.int .i64 x1.2.2.2.2.2.2.2.1), .val (.sl (.cons (.int .i64) .nil) x1.2.2.2.2.2.2.2.2.1), .val (.int .i64 x1.2.2.2.2.2.2.2.2.2.1), .val (.sl (.cons (.int .i64) .nil) x1.2.2.2.2.2.2.2.2.2.2.1), .val (.int .i64 x1.2.2.2.2.2.2.2.2.2.2.2.1), .val (.int .i64 x1.2.2.2.2.2.2.2.2.2.2.2.2.1), .val (.sl (.cons (.int .i64) .nil) x1.2.2.2.2.2.2.2.2.2.2.2.2.2.1), .val (.int .i64 x1.2.2.2.2.2.2.2.2.2.2.2.2.2.2.1), .val (.bool x1.2.2.2.2.2.2.2.2.2.2.2.2.2.2.2.1), .val (.sl (.cons (.int .i64) (.cons (.int .i64) .nil)) x1.2.2.2.2.2.2.2.2.2.2.2.2.2.2.2.2)]), (128128, .box [.val (.int .i64 x1.1), .val (.int .i64 x1.2.1), .val (.int .i64 x1.2.2.1), .val (.int .i64 x1.2.2.2.1), .val (.int .i64 x1.2.2.2.2.1), .val (.int .i64 x1.2.2.2.2.2.1), .val (.int .i64 x1.2.2.2.2.2.2.1), .val (.int .i64 x1.2.2.2.2.2.2.2.1), .val (.sl (.cons (.int .i64) .nil) x1.2.2.2.2.2.2.2.2.1), .val (.int .i64 x1.2.2.2.2.2.2.2.2.2.1), .val (.sl (.cons (.int .i64) .nil) x1.2.2.2.2.2.2.2.2.2.2.1), .val (.int .i64 x1.2.2.2.2.2.2.2.2.2.2.2.1), .val (.int .i64 x1.2.2.2.2.2.2.2.2.2.2.2.2.1), .val (.sl (.cons (.int .i64) .nil) x1.2.2.2.2.2.2.2.2.2.2.2.2.2.1), .val (.int .i64 x1.2.2.2.2.2.2.2.2.2.2.2.2.2.2.1), .val (.bool x1.2.2.2.2.2.2.2.2.2.2.2.2.2.2.2.1)])]⟩
noncomputable abbrev spec_NextCode.s9 (x0 : THead) (x1 : TSigned) : V.St := ⟨[(2, .v false [.ptr 64000 0]), (3, .v false [.ptr 64064 0]), (5, .v false [.ptr 128128 0])], [(64000, .box [.val (.int .i64 x0.1), .val (.int .i64 x0.2.1), .val (.int .i64 x0.2.2.1), .val (.int .i64 x0.2.2.2.1), .val (.int .i64 x0.2.2.2.2.1), .val (.int .i64 x0.2.2.2.2.2.1), .val (.int .i64 x0.2.2.2.2.2.2.1), .val (.int .i64 x0.2.2.2.2.2.2.2.1), .val (.sl (.cons (.int .i64) .nil) x0.2.2.2.2.2.2.2.2.1), .val (.int .i64 x0.2.2.2.2.2.2.2.2.2.1), .val (.sl (.cons (.int .i64) .nil) x0.2.2.2.2.2.2.2.2.2.2.1), .val (.int .i64 x0.2.2.2.2.2.2.2.2.2.2.2.1), .val (.int .i64 x0.2.2.2.2.2.2.2.2.2.2.2.2.1), .val (.sl (.cons (.int .i64) .nil) x0.2.2.2.2.2.2.2.2.2.2.2.2.2.1), .val (.int .i64 x0.2.2.2.2.2.2.2.2.2.2.2.2.2.2.1), .val (.bool x0.2.2.2.2.2.2.2.2.2.2.2.2.2.2.2)]), (64064, .box [.val (.int .i64 x1.1), .val (.int .i64 x1.2.1), .val (.int .i64 x1.2.2.1), .val (.int .i64 x1.2.2.2.1), .val (.int .i64 x1.2.2.2.2.1), .val (.int .i64 x1.2.2.2.2.2.1), .val (.int .i64 x1.2.2.2.2.2.2.1), .val (.int .i64 x1.2.2.2.2.2.2.2.1), .val (.sl (.cons (.int .i64) .nil) x1.2.2.2.2.2.2.2.2.1), .val (.int .i64 x1.2.2.2.2.2.2.2.2.2.1), .val (.sl (.cons (.int .i64) .nil) x1.2.2.2.2.2.2.2.2.2.2.1), .val (.int .i64 x1.2.2.2.2.2.2.2.2.2.2.2.1), .val (.int .i64 x1.2.2.2.2.2.2.2.2.2.2.2.2.1), .val (.sl (.cons (.int .i64) .nil) x1.2.2.2.2.2.2.2.2.2.2.2.2.2.1), .val (.int .i64 x1.2.2.2.2.2.2.2.2.2.2.2.2.2.2.1), .val (.bool x1.2.2.2.2.2.2.2.2.2.2.2.2.2.2.2.1), .val (.sl (.cons (.int .i64) (.cons (.int .i64) .nil)) x1.2.2.2.2.2.2.2.2.2.2.2.2.2.2.2.2)]), (128128, .box [.val (.int .i64 x1.1), .val (.int .i64 x1.2.1), .val (.int .i64 x1.2.2.1), .val (.int .i64 x1.2.2.2.1), .val (.int .i64 x1.2.2.2.2.1), .val (.int .i64 x1.2.2.2.2.2.1), .val (.int .i64 x1.2.2.2.2.2.2.1), .val (.int .i64 x1.2.2.2.2.2.2.2.1), .val (.sl (.cons (.int .i64) .nil) x1.2.2.2.2.2.2.2.2.1), .val (.int .i64 x1.2.2.2.2.2.2.2.2.2.1), .val (.sl (.cons (.int .i64) .nil) x1.2.2.2.2.2.2.2.2.2.2.1), .val (.int .i64 x1.2.2.2.2.2.2.2.2.2.2.2.1), .val (.int .i64 x1.2.2.2.2.2.2.2.2.2.2.2.2.1), .val (.sl (.cons (.int .i64) .nil) x1.2.2.2.2.2.2.2.2.2.2.2.2.2.1), .val (.int .i64 x1.2.2.2.2.2.2.2.2.2.2.2.2.2.2.1), .val (.bool x1.2.2.2.2.2.2.2.2.2.2.2.2.2.2.2.1)])]⟩
theorem spec_NextCode.r31 (x0 : THead) (x1 : TSigned) (v31_0 : Int) (v31_34 : List Int) (v31_35 : Int) : V.normK 31 ([3, 5, 6, 7], []) (V.joinF spec_NextCode.E Tryz.f118.ntmps [1, 1, 1, 1, 1, 1] [] (V.codeOf Tryz.f118) (spec_NextCode.kt x0 x1)) (spec_NextCode.s31 x1 v31_0 v31_34 v31_35) = spec_NextCode.g31 x1 v31_0 v31_34 v31_35 := by kernel_rfl
theorem spec_NextCode.e31 (x0 : THead) (x1 : TSigned) (v31_0 : Int) (v31_34 : List Int) (v31_35 : Int) : V.normK 31 ([3, 5, 6, 7], []) (V.joinF spec_NextCode.E Tryz.f118.ntmps [1, 1, 1, 1, 1, 1] [] (V.codeOf Tryz.f118) (spec_NextCode.kt x0 x1)) (spec_NextCode.s31 x1 v31_0 v31_34 v31_35) = spec_NextCode.l31 x1 v31_0 v31_34 v31_35 := by
  rw [spec_NextCode.r31]
  rfl
theorem spec_NextCode.r13 (x0 : THead) (x1 : TSigned) : V.normK 13 ([2, 3, 5], []) (V.joinF spec_NextCode.E Tryz.f118.ntmps [1, 1, 1] [] (V.codeOf Tryz.f118) (spec_NextCode.kt x0 x1)) (spec_NextCode.s13 x0 x1) = spec_NextCode.g13 x0 x1 (fun v31_0 v31_34 v31_35 => V.normK 31 ([3, 5, 6, 7], []) (V.joinF spec_NextCode.E Tryz.f118.ntmps [1, 1, 1, 1, 1, 1] [] (V.codeOf Tryz.f118) (spec_NextCode.kt x0 x1)) (spec_NextCode.s31 x1 v31_0 v31_34 v31_35)) := by kernel_rfl
theorem spec_NextCode.e13 (x0 : THead) (x1 : TSigned) : V.normK 13 ([2, 3, 5], []) (V.joinF spec_NextCode.E Tryz.f118.ntmps [1, 1, 1] [] (V.codeOf Tryz.f118) (spec_NextCode.kt x0 x1)) (spec_NextCode.s13 x0 x1) = spec_NextCode.l13 x0 x1 := by
  rw [spec_NextCode.r13]
  simp only [spec_NextCode.e31]
  rfl
theorem spec_NextCode.r9 (x0 : THead) (x1 : TSigned) : V.normK 9 ([2, 3, 5], []) (V.joinF spec_NextCode.E Tryz.f118.ntmps [1, 1] [] (V.codeOf Tryz.f118) (spec_NextCode.kt x0 x1)) (spec_NextCode.s9 x0 x1) = spec_NextCode.g9 x0 x1 (V.normK 13 ([2, 3, 5], []) (V.joinF spec_NextCode.E Tryz.f118.ntmps [1, 1, 1] [] (V.codeOf Tryz.f118) (spec_NextCode.kt x0 x1)) (spec_NextCode.s13 x0 x1)) := by kernel_rfl
theorem spec_NextCode.e9 (x0 : THead) (x1 : TSigned) : V.normK 9 ([2, 3, 5], []) (V.joinF spec_NextCode.E Tryz.f118.ntmps [1, 1] [] (V.codeOf Tryz.f118) (spec_NextCode.kt x0 x1)) (spec_NextCode.s9 x0 x1) = spec_NextCode.l9 x0 x1 := by
  rw [spec_NextCode.r9]
  simp only [spec_NextCode.e13]
  rfl
noncomputable abbrev spec_NextCode.s (x0 : THead) (x1 : TSigned) : V.St := ⟨[(0, .v true [.val (.int .i64 x0.1), .val (.int .i64 x0.2.1), .val (.int .i64 x0.2.2.1), .val (.int .i64 x0.2.2.2.1), .val (.int .i64 x0.2.2.2.2.1), .val (.int .i64 x0.2.2.2.2.2.1), .val (.int .i64 x0.2.2.2.2.2.2.1), .val (.int .i64 x0.2.2.2.2.2.2.2.1), .val (.sl (.cons (.int .i64) .nil) x0.2.2.2.2.2.2.2.2.1), .val (.int .i64 x0.2.2.2.2.2.2.2.2.2.1), .val (.sl (.cons (.int .i64) .nil) x0.2.2.2.2.2.2.2.2.2.2.1), .val (.int .i64 x0.2.2.2.2.2.2.2.2.2.2.2.1), .val (.int .i64 x0.2.2.2.2.2.2.2.2.2.2.2.2.1), .val (.sl (.cons (.int .i64) .nil) x0.2.2.2.2.2.2.2.2.2.2.2.2.2.1), .val (.int .i64 x0.2.2.2.2.2.2.2.2.2.2.2.2.2.2.1), .val (.bool x0.2.2.2.2.2.2.2.2.2.2.2.2.2.2.2)]), (1, .v true [.val (.int .i64 x1.1), .val (.int .i64 x1.2.1), .val (.int .i64 x1.2.2.1), .val (.int .i64 x1.2.2.2.1), .val (.int .i64 x1.2.2.2.2.1), .val (.int .i64 x1.2.2.2.2.2.1), .val (.int .i64 x1.2.2.2.2.2.2.1), .val (.int .i64 x1.2.2.2.2.2.2.2.1), .val (.sl (.cons (.int .i64) .nil) x1.2.2.2.2.2.2.2.2.1), .val (.int .i64 x1.2.2.2.2.2.2.2.2.2.1), .val (.sl (.cons (.int .i64) .nil) x1.2.2.2.2.2.2.2.2.2.2.1), .val (.int .i64 x1.2.2.2.2.2.2.2.2.2.2.2.1), .val (.int .i64 x1.2.2.2.2.2.2.2.2.2.2.2.2.1), .val (.sl (.cons (.int .i64) .nil) x1.2.2.2.2.2.2.2.2.2.2.2.2.2.1), .val (.int .i64 x1.2.2.2.2.2.2.2.2.2.2.2.2.2.2.1), .val (.bool x1.2.2.2.2.2.2.2.2.2.2.2.2.2.2.2.1), .val (.sl (.cons (.int .i64) (.cons (.int .i64) .nil)) x1.2.2.2.2.2.2.2.2.2.2.2.2.2.2.2.2)])], []⟩
theorem spec_NextCode.v0 (x0 : THead) (x1 : TSigned) : V.evBody spec_NextCode.E spec_NextCode.con Tryz.f118 (V.fl5 x0 x1) = V.evC spec_NextCode.E Tryz.f118.ntmps (V.codeOf Tryz.f118) (spec_NextCode.kt x0 x1) (spec_NextCode.s x0 x1) := by kernel_rfl
theorem spec_NextCode.v (x0 : THead) (x1 : TSigned) : V.evC spec_NextCode.E Tryz.f118.ntmps (V.codeOf Tryz.f118) (spec_NextCode.kt x0 x1) (spec_NextCode.s x0 x1) = spec_NextCode.b x0 x1 (V.normK 9 ([2, 3, 5], []) (V.joinF spec_NextCode.E Tryz.f118.ntmps [1, 1] [] (V.codeOf Tryz.f118) (spec_NextCode.kt x0 x1)) (spec_NextCode.s9 x0 x1)) := by kernel_rfl
theorem spec_NextCode.eq (x0 : THead) (x1 : TSigned) : V.evBody spec_NextCode.E spec_NextCode.con Tryz.f118 (V.fl5 x0 x1) = spec_NextCode x0 x1 := by
  rw [spec_NextCode.v0, spec_NextCode.v]
  simp only [spec_NextCode.e9]
  rfl
theorem spec_NextCode.ok : V.Valid Tryz.prog 118 spec_NextCode.con :=
  V.body_ok (V.env_ok V.mixed V.tysOk (V.tab_cons spec_IsHead.ok (V.tab_cons spec_HeadDigest.ok (V.tab_cons spec_l15Owner.ok (V.tab_cons spec_l15Heir.ok (V.tab_cons spec_l15Judge.ok (V.tab_cons spec_IsSigned.ok (V.tab_cons spec_HeadInts.ok V.tab_nil)))))))) Tryz.func118 (by kernel_rfl) (by kernel_rfl) (by kernel_rfl) (fun x y h => (show V.evBody spec_NextCode.E spec_NextCode.con Tryz.f118 x = _ from spec_NextCode.eq (V.p5_0 x) (V.p5_1 x)).trans h)
noncomputable abbrev spec_MayFollow.con : V.Con := ⟨V.A5, (.cons .bool .nil), fun (x : V.D5) => spec_MayFollow (V.p5_0 x) (V.p5_1 x), [], [(true, 16), (true, 17)], [(false, 1)], [false], []⟩
noncomputable abbrev spec_MayFollow.E : V.Env := V.mkE V.tys [(118, spec_NextCode.con)] [] [] [] [] []
noncomputable abbrev spec_MayFollow.kt (x0 : THead) (x1 : TSigned) : V.Kt Bool := V.ktOf spec_MayFollow.E spec_MayFollow.con Tryz.f242 (V.fl5 x0 x1)
noncomputable abbrev spec_MayFollow.s (x0 : THead) (x1 : TSigned) : V.St := ⟨[(0, .v true [.val (.int .i64 x0.1), .val (.int .i64 x0.2.1), .val (.int .i64 x0.2.2.1), .val (.int .i64 x0.2.2.2.1), .val (.int .i64 x0.2.2.2.2.1), .val (.int .i64 x0.2.2.2.2.2.1), .val (.int .i64 x0.2.2.2.2.2.2.1), .val (.int .i64 x0.2.2.2.2.2.2.2.1), .val (.sl (.cons (.int .i64) .nil) x0.2.2.2.2.2.2.2.2.1), .val (.int .i64 x0.2.2.2.2.2.2.2.2.2.1), .val (.sl (.cons (.int .i64) .nil) x0.2.2.2.2.2.2.2.2.2.2.1), .val (.int .i64 x0.2.2.2.2.2.2.2.2.2.2.2.1), .val (.int .i64 x0.2.2.2.2.2.2.2.2.2.2.2.2.1), .val (.sl (.cons (.int .i64) .nil) x0.2.2.2.2.2.2.2.2.2.2.2.2.2.1), .val (.int .i64 x0.2.2.2.2.2.2.2.2.2.2.2.2.2.2.1), .val (.bool x0.2.2.2.2.2.2.2.2.2.2.2.2.2.2.2)]), (1, .v true [.val (.int .i64 x1.1), .val (.int .i64 x1.2.1), .val (.int .i64 x1.2.2.1), .val (.int .i64 x1.2.2.2.1), .val (.int .i64 x1.2.2.2.2.1), .val (.int .i64 x1.2.2.2.2.2.1), .val (.int .i64 x1.2.2.2.2.2.2.1), .val (.int .i64 x1.2.2.2.2.2.2.2.1), .val (.sl (.cons (.int .i64) .nil) x1.2.2.2.2.2.2.2.2.1), .val (.int .i64 x1.2.2.2.2.2.2.2.2.2.1), .val (.sl (.cons (.int .i64) .nil) x1.2.2.2.2.2.2.2.2.2.2.1), .val (.int .i64 x1.2.2.2.2.2.2.2.2.2.2.2.1), .val (.int .i64 x1.2.2.2.2.2.2.2.2.2.2.2.2.1), .val (.sl (.cons (.int .i64) .nil) x1.2.2.2.2.2.2.2.2.2.2.2.2.2.1), .val (.int .i64 x1.2.2.2.2.2.2.2.2.2.2.2.2.2.2.1), .val (.bool x1.2.2.2.2.2.2.2.2.2.2.2.2.2.2.2.1), .val (.sl (.cons (.int .i64) (.cons (.int .i64) .nil)) x1.2.2.2.2.2.2.2.2.2.2.2.2.2.2.2.2)])], []⟩
theorem spec_MayFollow.v0 (x0 : THead) (x1 : TSigned) : V.evBody spec_MayFollow.E spec_MayFollow.con Tryz.f242 (V.fl5 x0 x1) = V.evC spec_MayFollow.E Tryz.f242.ntmps (V.codeOf Tryz.f242) (spec_MayFollow.kt x0 x1) (spec_MayFollow.s x0 x1) := by kernel_rfl
theorem spec_MayFollow.v (x0 : THead) (x1 : TSigned) : V.evC spec_MayFollow.E Tryz.f242.ntmps (V.codeOf Tryz.f242) (spec_MayFollow.kt x0 x1) (spec_MayFollow.s x0 x1) = spec_MayFollow x0 x1 := by kernel_rfl
theorem spec_MayFollow.eq (x0 : THead) (x1 : TSigned) : V.evBody spec_MayFollow.E spec_MayFollow.con Tryz.f242 (V.fl5 x0 x1) = spec_MayFollow x0 x1 := (spec_MayFollow.v0 x0 x1).trans (spec_MayFollow.v x0 x1)
theorem spec_MayFollow.ok : V.Valid Tryz.prog 242 spec_MayFollow.con :=
  V.body_ok (V.env_ok V.mixed V.tysOk (V.tab_cons spec_NextCode.ok V.tab_nil)) Tryz.func242 (by kernel_rfl) (by kernel_rfl) (by kernel_rfl) (fun x y h => (show V.evBody spec_MayFollow.E spec_MayFollow.con Tryz.f242 x = _ from spec_MayFollow.eq (V.p5_0 x) (V.p5_1 x)).trans h)
noncomputable abbrev spec_FirstWrong.con : V.Con := ⟨(.cons (.sl V.eSigned) .nil), (.cons (.int .i64) .nil), fun (x : List TSigned) => spec_FirstWrong x, [], [(false, 1)], [(false, 1)], [false], []⟩
noncomputable abbrev spec_FirstWrong.E : V.Env := V.mkE V.tys [(241, spec_IsFirst.con), (242, spec_MayFollow.con)] [(4, [0, 3], [])] [(4, 23)] [] [] []
noncomputable abbrev spec_FirstWrong.kt (x0 : List TSigned) : V.Kt Int := V.ktOf spec_FirstWrong.E spec_FirstWrong.con Tryz.f181 ((x0) : List TSigned)
noncomputable abbrev spec_FirstWrong.s4 (x0 : List TSigned) (v4_1 : Int) : V.St := ⟨[(0, .v false [.val (.sl V.eSigned x0)]), (3, .v false [.val (.int .i64 v4_1)])], []⟩
theorem spec_FirstWrong.r4 (x0 : List TSigned) (R : V.St → Option Int) (v4_1 : Int) : V.loopF spec_FirstWrong.E Tryz.f181.ntmps [1, 0, 1, 0] [] (V.codeOf Tryz.f181) (spec_FirstWrong.kt x0) R (spec_FirstWrong.s4 x0 v4_1) = spec_FirstWrong.g4 x0 (fun v4_1 => R (spec_FirstWrong.s4 x0 v4_1)) v4_1 := by kernel_rfl
theorem spec_FirstWrong.e4 (x0 : List TSigned) : ∀ (n : Nat) (v4_1 : Int), V.loopN (V.loopF spec_FirstWrong.E Tryz.f181.ntmps [1, 0, 1, 0] [] (V.codeOf Tryz.f181) (spec_FirstWrong.kt x0)) n (spec_FirstWrong.s4 x0 v4_1) = spec_FirstWrong.l4 x0 n v4_1 := by
  intro n
  induction n with
  | zero => intros; rfl
  | succ n ih =>
    intro v4_1
    show V.loopF spec_FirstWrong.E Tryz.f181.ntmps [1, 0, 1, 0] [] (V.codeOf Tryz.f181) (spec_FirstWrong.kt x0) (V.loopN (V.loopF spec_FirstWrong.E Tryz.f181.ntmps [1, 0, 1, 0] [] (V.codeOf Tryz.f181) (spec_FirstWrong.kt x0)) n) (spec_FirstWrong.s4 x0 v4_1) = _
    rw [spec_FirstWrong.r4]
    simp only [ih]
    rfl
theorem spec_FirstWrong.v (x0 : List TSigned) : V.evBody spec_FirstWrong.E spec_FirstWrong.con Tryz.f181 ((x0) : List TSigned) = spec_FirstWrong.b x0 (fun v4_1 => V.loopN (V.loopF spec_FirstWrong.E Tryz.f181.ntmps [1, 0, 1, 0] [] (V.codeOf Tryz.f181) (spec_FirstWrong.kt x0)) V.KK (spec_FirstWrong.s4 x0 v4_1)) := by kernel_rfl
theorem spec_FirstWrong.eq (x0 : List TSigned) : V.evBody spec_FirstWrong.E spec_FirstWrong.con Tryz.f181 ((x0) : List TSigned) = spec_FirstWrong x0 := by
  rw [spec_FirstWrong.v]
  simp only [spec_FirstWrong.e4]
  rfl
theorem spec_FirstWrong.ok : V.Valid Tryz.prog 181 spec_FirstWrong.con :=
  V.body_ok (V.env_ok V.mixed V.tysOk (V.tab_cons spec_IsFirst.ok (V.tab_cons spec_MayFollow.ok V.tab_nil))) Tryz.func181 (by kernel_rfl) (by kernel_rfl) (by kernel_rfl) (fun x y h => (show V.evBody spec_FirstWrong.E spec_FirstWrong.con Tryz.f181 x = _ from spec_FirstWrong.eq x).trans h)
noncomputable abbrev spec_IsChain.con : V.Con := ⟨(.cons (.sl V.eSigned) .nil), (.cons .bool .nil), fun (x : List TSigned) => spec_IsChain x, [], [(false, 1)], [(false, 1)], [false], []⟩
noncomputable abbrev spec_IsChain.E : V.Env := V.mkE V.tys [(175, spec_l1In.con), (181, spec_FirstWrong.con)] [] [] [] [] []
noncomputable abbrev spec_IsChain.kt (x0 : List TSigned) : V.Kt Bool := V.ktOf spec_IsChain.E spec_IsChain.con Tryz.f85 ((x0) : List TSigned)
theorem spec_IsChain.eq (x0 : List TSigned) : V.evBody spec_IsChain.E spec_IsChain.con Tryz.f85 ((x0) : List TSigned) = spec_IsChain x0 := by kernel_rfl
theorem spec_IsChain.ok : V.Valid Tryz.prog 85 spec_IsChain.con :=
  V.body_ok (V.env_ok V.mixed V.tysOk (V.tab_cons spec_l1In.ok (V.tab_cons spec_FirstWrong.ok V.tab_nil))) Tryz.func85 (by kernel_rfl) (by kernel_rfl) (by kernel_rfl) (fun x y h => (show V.evBody spec_IsChain.E spec_IsChain.con Tryz.f85 x = _ from spec_IsChain.eq x).trans h)
noncomputable abbrev spec_l6Copy.con : V.Con := ⟨(.cons (.sl (.cons (.int .i64) .nil)) (.cons (.int .i64) .nil)), (.cons (.sl (.cons (.int .i64) .nil)) (.cons (.int .i64) .nil)), fun (x : List Int × Int) => spec_l6Copy x, [], [(true, 2)], [(true, 2)], [true, false], []⟩
noncomputable abbrev spec_l6Copy.E : V.Env := V.mkE V.tys [] [] [(1, 6)] [] [] []
noncomputable abbrev spec_l6Copy.kt (x0 : TKeys) : V.Kt TKeys := V.ktOf spec_l6Copy.E spec_l6Copy.con Tryz.f182 ((x0.1, x0.2) : List Int × Int)
theorem spec_l6Copy.eq (x0 : TKeys) : V.evBody spec_l6Copy.E spec_l6Copy.con Tryz.f182 ((x0.1, x0.2) : List Int × Int) = spec_l6Copy x0 := by kernel_rfl
theorem spec_l6Copy.ok : V.Valid Tryz.prog 182 spec_l6Copy.con :=
  V.body_ok (V.env_ok V.mixed V.tysOk V.tab_nil) Tryz.func182 (by kernel_rfl) (by kernel_rfl) (by kernel_rfl) (fun x y h => (show V.evBody spec_l6Copy.E spec_l6Copy.con Tryz.f182 x = _ from spec_l6Copy.eq x).trans h)
noncomputable abbrev spec_l13Copy.con : V.Con := ⟨V.A2, V.eHead, fun (x : V.D2) => spec_l13Copy (V.p2_0 x), [], [(true, 16)], [(true, 16)], [false, false, false, false, false, false, false, false, true, false, true, false, false, true, false, false], []⟩
noncomputable abbrev spec_l13Copy.E : V.Env := V.mkE V.tys [(182, spec_l6Copy.con)] [] [] [] [] []
noncomputable abbrev spec_l13Copy.kt (x0 : THead) : V.Kt THead := V.ktOf spec_l13Copy.E spec_l13Copy.con Tryz.f86 (V.fl2 x0)
noncomputable abbrev spec_l13Copy.s (x0 : THead) : V.St := ⟨[(0, .v true [.val (.int .i64 x0.1), .val (.int .i64 x0.2.1), .val (.int .i64 x0.2.2.1), .val (.int .i64 x0.2.2.2.1), .val (.int .i64 x0.2.2.2.2.1), .val (.int .i64 x0.2.2.2.2.2.1), .val (.int .i64 x0.2.2.2.2.2.2.1), .val (.int .i64 x0.2.2.2.2.2.2.2.1), .val (.sl (.cons (.int .i64) .nil) x0.2.2.2.2.2.2.2.2.1), .val (.int .i64 x0.2.2.2.2.2.2.2.2.2.1), .val (.sl (.cons (.int .i64) .nil) x0.2.2.2.2.2.2.2.2.2.2.1), .val (.int .i64 x0.2.2.2.2.2.2.2.2.2.2.2.1), .val (.int .i64 x0.2.2.2.2.2.2.2.2.2.2.2.2.1), .val (.sl (.cons (.int .i64) .nil) x0.2.2.2.2.2.2.2.2.2.2.2.2.2.1), .val (.int .i64 x0.2.2.2.2.2.2.2.2.2.2.2.2.2.2.1), .val (.bool x0.2.2.2.2.2.2.2.2.2.2.2.2.2.2.2)])], []⟩
theorem spec_l13Copy.v0 (x0 : THead) : V.evBody spec_l13Copy.E spec_l13Copy.con Tryz.f86 (V.fl2 x0) = V.evC spec_l13Copy.E Tryz.f86.ntmps (V.codeOf Tryz.f86) (spec_l13Copy.kt x0) (spec_l13Copy.s x0) := by kernel_rfl
theorem spec_l13Copy.v (x0 : THead) : V.evC spec_l13Copy.E Tryz.f86.ntmps (V.codeOf Tryz.f86) (spec_l13Copy.kt x0) (spec_l13Copy.s x0) = spec_l13Copy x0 := by kernel_rfl
theorem spec_l13Copy.eq (x0 : THead) : V.evBody spec_l13Copy.E spec_l13Copy.con Tryz.f86 (V.fl2 x0) = spec_l13Copy x0 := (spec_l13Copy.v0 x0).trans (spec_l13Copy.v x0)
theorem spec_l13Copy.ok : V.Valid Tryz.prog 86 spec_l13Copy.con :=
  V.body_ok (V.env_ok V.mixed V.tysOk (V.tab_cons spec_l6Copy.ok V.tab_nil)) Tryz.func86 (by kernel_rfl) (by kernel_rfl) (by kernel_rfl) (fun x y h => (show V.evBody spec_l13Copy.E spec_l13Copy.con Tryz.f86 x = _ from spec_l13Copy.eq (V.p2_0 x)).trans h)
noncomputable abbrev spec_LastHead.con : V.Con := ⟨(.cons (.sl V.eSigned) .nil), V.eRHeadBool, fun (x : List TSigned) => spec_LastHead x, [], [(false, 1)], [(true, 16), (false, 1)], [false, false, false, false, false, false, false, false, true, false, true, false, false, true, false, false, false], []⟩
noncomputable abbrev spec_LastHead.E : V.Env := V.mkE V.tys [(85, spec_IsChain.con), (86, spec_l13Copy.con)] [] [] [] [] []
noncomputable abbrev spec_LastHead.kt (x0 : List TSigned) : V.Kt TRHeadBool := V.ktOf spec_LastHead.E spec_LastHead.con Tryz.f16 ((x0) : List TSigned)
theorem spec_LastHead.eq (x0 : List TSigned) : V.evBody spec_LastHead.E spec_LastHead.con Tryz.f16 ((x0) : List TSigned) = spec_LastHead x0 := by kernel_rfl
theorem spec_LastHead.ok : V.Valid Tryz.prog 16 spec_LastHead.con :=
  V.body_ok (V.env_ok V.mixed V.tysOk (V.tab_cons spec_IsChain.ok (V.tab_cons spec_l13Copy.ok V.tab_nil))) Tryz.func16 (by kernel_rfl) (by kernel_rfl) (by kernel_rfl) (fun x y h => (show V.evBody spec_LastHead.E spec_LastHead.con Tryz.f16 x = _ from spec_LastHead.eq x).trans h)
noncomputable abbrev spec_l14Copy.con : V.Con := ⟨V.A3, V.eSigned, fun (x : V.D3) => spec_l14Copy (V.p3_0 x), [], [(true, 17)], [(true, 17)], [false, false, false, false, false, false, false, false, true, false, true, false, false, true, false, false, true], []⟩
noncomputable abbrev spec_l14Copy.E : V.Env := V.mkE V.tys [(86, spec_l13Copy.con)] [] [(1, 6)] [] [] []
noncomputable abbrev spec_l14Copy.kt (x0 : TSigned) : V.Kt TSigned := V.ktOf spec_l14Copy.E spec_l14Copy.con Tryz.f119 (V.fl3 x0)
noncomputable abbrev spec_l14Copy.s (x0 : TSigned) : V.St := ⟨[(0, .v true [.val (.int .i64 x0.1), .val (.int .i64 x0.2.1), .val (.int .i64 x0.2.2.1), .val (.int .i64 x0.2.2.2.1), .val (.int .i64 x0.2.2.2.2.1), .val (.int .i64 x0.2.2.2.2.2.1), .val (.int .i64 x0.2.2.2.2.2.2.1), .val (.int .i64 x0.2.2.2.2.2.2.2.1), .val (.sl (.cons (.int .i64) .nil) x0.2.2.2.2.2.2.2.2.1), .val (.int .i64 x0.2.2.2.2.2.2.2.2.2.1), .val (.sl (.cons (.int .i64) .nil) x0.2.2.2.2.2.2.2.2.2.2.1), .val (.int .i64 x0.2.2.2.2.2.2.2.2.2.2.2.1), .val (.int .i64 x0.2.2.2.2.2.2.2.2.2.2.2.2.1), .val (.sl (.cons (.int .i64) .nil) x0.2.2.2.2.2.2.2.2.2.2.2.2.2.1), .val (.int .i64 x0.2.2.2.2.2.2.2.2.2.2.2.2.2.2.1), .val (.bool x0.2.2.2.2.2.2.2.2.2.2.2.2.2.2.2.1), .val (.sl (.cons (.int .i64) (.cons (.int .i64) .nil)) x0.2.2.2.2.2.2.2.2.2.2.2.2.2.2.2.2)])], []⟩
theorem spec_l14Copy.v0 (x0 : TSigned) : V.evBody spec_l14Copy.E spec_l14Copy.con Tryz.f119 (V.fl3 x0) = V.evC spec_l14Copy.E Tryz.f119.ntmps (V.codeOf Tryz.f119) (spec_l14Copy.kt x0) (spec_l14Copy.s x0) := by kernel_rfl
theorem spec_l14Copy.v (x0 : TSigned) : V.evC spec_l14Copy.E Tryz.f119.ntmps (V.codeOf Tryz.f119) (spec_l14Copy.kt x0) (spec_l14Copy.s x0) = spec_l14Copy x0 := by kernel_rfl
theorem spec_l14Copy.eq (x0 : TSigned) : V.evBody spec_l14Copy.E spec_l14Copy.con Tryz.f119 (V.fl3 x0) = spec_l14Copy x0 := (spec_l14Copy.v0 x0).trans (spec_l14Copy.v x0)
theorem spec_l14Copy.ok : V.Valid Tryz.prog 119 spec_l14Copy.con :=
  V.body_ok (V.env_ok V.mixed V.tysOk (V.tab_cons spec_l13Copy.ok V.tab_nil)) Tryz.func119 (by kernel_rfl) (by kernel_rfl) (by kernel_rfl) (fun x y h => (show V.evBody spec_l14Copy.E spec_l14Copy.con Tryz.f119 x = _ from spec_l14Copy.eq (V.p3_0 x)).trans h)
noncomputable abbrev spec_l16Copy.con : V.Con := ⟨(.cons (.sl V.eSigned) .nil), (.cons (.sl V.eSigned) .nil), fun (x : List TSigned) => spec_l16Copy x, [], [(false, 1)], [(false, 1)], [true], []⟩
noncomputable abbrev spec_l16Copy.E : V.Env := V.mkE V.tys [(119, spec_l14Copy.con)] [(6, [0, 3, 4], [(64000038400192, V.eSigned, true)])] [] [] [] []
noncomputable abbrev spec_l16Copy.kt (x0 : List TSigned) : V.Kt (List TSigned) := V.ktOf spec_l16Copy.E spec_l16Copy.con Tryz.f117 ((x0) : List TSigned)
noncomputable abbrev spec_l16Copy.s6 (x0 : List TSigned) (v6_1 : Int) (v6_2 : List TSigned) : V.St := ⟨[(0, .v false [.val (.sl V.eSigned x0)]), (3, .v false [.ref 64000038400192]), (4, .v false [.val (.int .i64 v6_1)])], [(64000038400192, .row V.eSigned true v6_2)]⟩
theorem spec_l16Copy.r6 (x0 : List TSigned) (R : V.St → Option (List TSigned)) (v6_1 : Int) (v6_2 : List TSigned) : V.loopF spec_l16Copy.E Tryz.f117.ntmps [1, 1, 0, 1, 0] [] (V.codeOf Tryz.f117) (spec_l16Copy.kt x0) R (spec_l16Copy.s6 x0 v6_1 v6_2) = spec_l16Copy.g6 x0 (fun v6_1 v6_2 => R (spec_l16Copy.s6 x0 v6_1 v6_2)) v6_1 v6_2 := by kernel_rfl
theorem spec_l16Copy.e6 (x0 : List TSigned) : ∀ (n : Nat) (v6_1 : Int) (v6_2 : List TSigned), V.loopN (V.loopF spec_l16Copy.E Tryz.f117.ntmps [1, 1, 0, 1, 0] [] (V.codeOf Tryz.f117) (spec_l16Copy.kt x0)) n (spec_l16Copy.s6 x0 v6_1 v6_2) = spec_l16Copy.l6 x0 n v6_1 v6_2 := by
  intro n
  induction n with
  | zero => intros; rfl
  | succ n ih =>
    intro v6_1 v6_2
    show V.loopF spec_l16Copy.E Tryz.f117.ntmps [1, 1, 0, 1, 0] [] (V.codeOf Tryz.f117) (spec_l16Copy.kt x0) (V.loopN (V.loopF spec_l16Copy.E Tryz.f117.ntmps [1, 1, 0, 1, 0] [] (V.codeOf Tryz.f117) (spec_l16Copy.kt x0)) n) (spec_l16Copy.s6 x0 v6_1 v6_2) = _
    rw [spec_l16Copy.r6]
    simp only [ih]
    rfl
theorem spec_l16Copy.v (x0 : List TSigned) : V.evBody spec_l16Copy.E spec_l16Copy.con Tryz.f117 ((x0) : List TSigned) = spec_l16Copy.b x0 (fun v6_1 v6_2 => V.loopN (V.loopF spec_l16Copy.E Tryz.f117.ntmps [1, 1, 0, 1, 0] [] (V.codeOf Tryz.f117) (spec_l16Copy.kt x0)) V.KK (spec_l16Copy.s6 x0 v6_1 v6_2)) := by kernel_rfl
theorem spec_l16Copy.eq (x0 : List TSigned) : V.evBody spec_l16Copy.E spec_l16Copy.con Tryz.f117 ((x0) : List TSigned) = spec_l16Copy x0 := by
  rw [spec_l16Copy.v]
  simp only [spec_l16Copy.e6]
  rfl
theorem spec_l16Copy.ok : V.Valid Tryz.prog 117 spec_l16Copy.con :=
  V.body_ok (V.env_ok V.mixed V.tysOk (V.tab_cons spec_l14Copy.ok V.tab_nil)) Tryz.func117 (by kernel_rfl) (by kernel_rfl) (by kernel_rfl) (fun x y h => (show V.evBody spec_l16Copy.E spec_l16Copy.con Tryz.f117 x = _ from spec_l16Copy.eq x).trans h)
noncomputable abbrev spec_Extend.con : V.Con := ⟨V.A6, (.cons (.sl V.eSigned) (.cons (.int .i64) .nil)), fun (x : V.D6) => spec_Extend (V.p6_0 x) (V.p6_1 x), [], [(false, 1), (true, 17)], [(false, 1), (false, 1)], [true, false], []⟩
noncomputable abbrev spec_Extend.E : V.Env := V.mkE V.tys [(16, spec_LastHead.con), (117, spec_l16Copy.con), (118, spec_NextCode.con), (119, spec_l14Copy.con)] [(7, [0, 3, 6, 20], [])] [(7, 3)] [] [] []
noncomputable abbrev spec_Extend.kt (x0 : List TSigned) (x1 : TSigned) : V.Kt (List TSigned × Int) := V.ktOf spec_Extend.E spec_Extend.con Tryz.f40 (V.fl6 x0 x1)
noncomputable abbrev spec_Extend.s7 (x0 : List TSigned) (x1 : TSigned) (y1 : TRHeadBool) (v7_1 : Bool) : V.St := ⟨[(0, .v false [.val (.sl V.eSigned x0)]), (3, .v false [.ptr 64000 0]), (6, .v false [.ptr 128320 0]), (20, .v false [.val (.bool v7_1)])], [(64000, .box [.val (.int .i64 x1.1), .val (.int .i64 x1.2.1), .val (.int .i64 x1.2.2.1), .val (.int .i64 x1.2.2.2.1), .val (.int .i64 x1.2.2.2.2.1), .val (.int .i64 x1.2.2.2.2.2.1), .val (.int .i64 x1.2.2.2.2.2.2.1), .val (.int .i64 x1.2.2.2.2.2.2.2.1), .val (.sl (.cons (.int .i64) .nil) x1.2.2.2.2.2.2.2.2.1), .val (.int .i64 x1.2.2.2.2.2.2.2.2.2.1), .val (.sl (.cons (.int .i64) .nil) x1.2.2.2.2.2.2.2.2.2.2.1), .val (.int .i64 x1.2.2.2.2.2.2.2.2.2.2.2.1), .val (.int .i64 x1.2.2.2.2.2.2.2.2.2.2.2.2.1), .val (.sl (.cons (.int .i64) .nil) x1.2.2.2.2.2.2.2.2.2.2.2.2.2.1), .val (.int .i64 x1.2.2.2.2.2.2.2.2.2.2.2.2.2.2.1), .val (.bool x1.2.2.2.2.2.2.2.2.2.2.2.2.2.2.2.1), .val (.sl (.cons (.int .i64) (.cons (.int .i64) .nil)) x1.2.2.2.2.2.2.2.2.2.2.2.2.2.2.2.2)]), (128320, .box [.val (.int .i64 y1.1), .val (.int .i64 y1.2.1), .val (.int .i64 y1.2.2.1), .val (.int .i64 y1.2.2.2.1), .val (.int .i64 y1.2.2.2.2.1), .val (.int .i64 y1.2.2.2.2.2.1), .val (.int .i64 y1.2.2.2.2.2.2.1), .val (.int .i64 y1.2.2.2.2.2.2.2.1), .ref 64000000000008212488, .val (.int .i64 y1.2.2.2.2.2.2.2.2.2.1), .ref 64000000000008212490, .val (.int .i64 y1.2.2.2.2.2.2.2.2.2.2.2.1), .val (.int .i64 y1.2.2.2.2.2.2.2.2.2.2.2.2.1), .ref 64000000000008212493, .val (.int .i64 y1.2.2.2.2.2.2.2.2.2.2.2.2.2.2.1), .val (.bool y1.2.2.2.2.2.2.2.2.2.2.2.2.2.2.2.1)]), (64000000000008212488, .row (.cons (.int .i64) .nil) true y1.2.2.2.2.2.2.2.2.1), (64000000000008212490, .row (.cons (.int .i64) .nil) true y1.2.2.2.2.2.2.2.2.2.2.1), (64000000000008212493, .row (.cons (.int .i64) .nil) true y1.2.2.2.2.2.2.2.2.2.2.2.2.2.1)]⟩
theorem spec_Extend.r7 (x0 : List TSigned) (x1 : TSigned) (y1 : TRHeadBool) (v7_1 : Bool) : V.normK 7 ([0, 3, 6, 20], []) (V.joinF spec_Extend.E Tryz.f40.ntmps [1, 1, 0] [] (V.codeOf Tryz.f40) (spec_Extend.kt x0 x1)) (spec_Extend.s7 x0 x1 y1 v7_1) = spec_Extend.g7 x0 x1 y1 v7_1 := by kernel_rfl
theorem spec_Extend.e7 (x0 : List TSigned) (x1 : TSigned) (y1 : TRHeadBool) (v7_1 : Bool) : V.normK 7 ([0, 3, 6, 20], []) (V.joinF spec_Extend.E Tryz.f40.ntmps [1, 1, 0] [] (V.codeOf Tryz.f40) (spec_Extend.kt x0 x1)) (spec_Extend.s7 x0 x1 y1 v7_1) = spec_Extend.l7 x0 x1 y1 v7_1 := by
  rw [spec_Extend.r7]
  rfl
noncomputable abbrev spec_Extend.s (x0 : List TSigned) (x1 : TSigned) : V.St := ⟨[(0, .v false [.val (.sl V.eSigned x0)]), (1, .v true [.val (.int .i64 x1.1), .val (.int .i64 x1.2.1), .val (.int .i64 x1.2.2.1), .val (.int .i64 x1.2.2.2.1), .val (.int .i64 x1.2.2.2.2.1), .val (.int .i64 x1.2.2.2.2.2.1), .val (.int .i64 x1.2.2.2.2.2.2.1), .val (.int .i64 x1.2.2.2.2.2.2.2.1), .val (.sl (.cons (.int .i64) .nil) x1.2.2.2.2.2.2.2.2.1), .val (.int .i64 x1.2.2.2.2.2.2.2.2.2.1), .val (.sl (.cons (.int .i64) .nil) x1.2.2.2.2.2.2.2.2.2.2.1), .val (.int .i64 x1.2.2.2.2.2.2.2.2.2.2.2.1), .val (.int .i64 x1.2.2.2.2.2.2.2.2.2.2.2.2.1), .val (.sl (.cons (.int .i64) .nil) x1.2.2.2.2.2.2.2.2.2.2.2.2.2.1), .val (.int .i64 x1.2.2.2.2.2.2.2.2.2.2.2.2.2.2.1), .val (.bool x1.2.2.2.2.2.2.2.2.2.2.2.2.2.2.2.1), .val (.sl (.cons (.int .i64) (.cons (.int .i64) .nil)) x1.2.2.2.2.2.2.2.2.2.2.2.2.2.2.2.2)])], []⟩
theorem spec_Extend.v0 (x0 : List TSigned) (x1 : TSigned) : V.evBody spec_Extend.E spec_Extend.con Tryz.f40 (V.fl6 x0 x1) = V.evC spec_Extend.E Tryz.f40.ntmps (V.codeOf Tryz.f40) (spec_Extend.kt x0 x1) (spec_Extend.s x0 x1) := by kernel_rfl
theorem spec_Extend.v (x0 : List TSigned) (x1 : TSigned) : V.evC spec_Extend.E Tryz.f40.ntmps (V.codeOf Tryz.f40) (spec_Extend.kt x0 x1) (spec_Extend.s x0 x1) = spec_Extend.b x0 x1 (fun y1 v7_1 => V.normK 7 ([0, 3, 6, 20], []) (V.joinF spec_Extend.E Tryz.f40.ntmps [1, 1, 0] [] (V.codeOf Tryz.f40) (spec_Extend.kt x0 x1)) (spec_Extend.s7 x0 x1 y1 v7_1)) := by kernel_rfl
theorem spec_Extend.eq (x0 : List TSigned) (x1 : TSigned) : V.evBody spec_Extend.E spec_Extend.con Tryz.f40 (V.fl6 x0 x1) = spec_Extend x0 x1 := by
  rw [spec_Extend.v0, spec_Extend.v]
  simp only [spec_Extend.e7]
  rfl
theorem spec_Extend.ok : V.Valid Tryz.prog 40 spec_Extend.con :=
  V.body_ok (V.env_ok V.mixed V.tysOk (V.tab_cons spec_LastHead.ok (V.tab_cons spec_l16Copy.ok (V.tab_cons spec_NextCode.ok (V.tab_cons spec_l14Copy.ok V.tab_nil))))) Tryz.func40 (by kernel_rfl) (by kernel_rfl) (by kernel_rfl) (fun x y h => (show V.evBody spec_Extend.E spec_Extend.con Tryz.f40 x = _ from spec_Extend.eq (V.p6_0 x) (V.p6_1 x)).trans h)
noncomputable abbrev slices_Clone_int.con : V.Con := ⟨(.cons (.sl (.cons (.int .i64) .nil)) .nil), (.cons (.sl (.cons (.int .i64) .nil)) .nil), fun (x : List Int) => slices_Clone_int x, [], [(false, 1)], [(false, 1)], [true], []⟩
noncomputable abbrev slices_Clone_int.E : V.Env := V.mkE V.tys [] [] [] [] [] []
noncomputable abbrev slices_Clone_int.kt (x0 : List Int) : V.Kt (List Int) := V.ktOf slices_Clone_int.E slices_Clone_int.con Tryz.f245 ((x0) : List Int)
theorem slices_Clone_int.eq (x0 : List Int) : V.evBody slices_Clone_int.E slices_Clone_int.con Tryz.f245 ((x0) : List Int) = slices_Clone_int x0 := by kernel_rfl
theorem slices_Clone_int.ok : V.Valid Tryz.prog 245 slices_Clone_int.con :=
  V.body_ok (V.env_ok V.mixed V.tysOk V.tab_nil) Tryz.func245 (by kernel_rfl) (by kernel_rfl) (by kernel_rfl) (fun x y h => (show V.evBody slices_Clone_int.E slices_Clone_int.con Tryz.f245 x = _ from slices_Clone_int.eq x).trans h)
noncomputable abbrev impl_copyKeys.con : V.Con := ⟨(.cons (.sl (.cons (.int .i64) .nil)) (.cons (.int .i64) .nil)), (.cons (.sl (.cons (.int .i64) .nil)) (.cons (.int .i64) .nil)), fun (x : List Int × Int) => impl_copyKeys x, [], [(true, 2)], [(true, 2)], [true, false], []⟩
noncomputable abbrev impl_copyKeys.E : V.Env := V.mkE V.tys [(245, slices_Clone_int.con)] [] [(1, 5)] [] [] []
noncomputable abbrev impl_copyKeys.kt (x0 : TKeys) : V.Kt TKeys := V.ktOf impl_copyKeys.E impl_copyKeys.con Tryz.f184 ((x0.1, x0.2) : List Int × Int)
theorem impl_copyKeys.eq (x0 : TKeys) : V.evBody impl_copyKeys.E impl_copyKeys.con Tryz.f184 ((x0.1, x0.2) : List Int × Int) = impl_copyKeys x0 := by kernel_rfl
theorem impl_copyKeys.ok : V.Valid Tryz.prog 184 impl_copyKeys.con :=
  V.body_ok (V.env_ok V.mixed V.tysOk (V.tab_cons slices_Clone_int.ok V.tab_nil)) Tryz.func184 (by kernel_rfl) (by kernel_rfl) (by kernel_rfl) (fun x y h => (show V.evBody impl_copyKeys.E impl_copyKeys.con Tryz.f184 x = _ from impl_copyKeys.eq x).trans h)
noncomputable abbrev impl_copyHead.con : V.Con := ⟨V.A2, V.eHead, fun (x : V.D2) => impl_copyHead (V.p2_0 x), [], [(true, 16)], [(true, 16)], [false, false, false, false, false, false, false, false, true, false, true, false, false, true, false, false], []⟩
noncomputable abbrev impl_copyHead.E : V.Env := V.mkE V.tys [(184, impl_copyKeys.con)] [] [(1, 10)] [] [] []
noncomputable abbrev impl_copyHead.kt (x0 : THead) : V.Kt THead := V.ktOf impl_copyHead.E impl_copyHead.con Tryz.f88 (V.fl2 x0)
noncomputable abbrev impl_copyHead.s (x0 : THead) : V.St := ⟨[(0, .v true [.val (.int .i64 x0.1), .val (.int .i64 x0.2.1), .val (.int .i64 x0.2.2.1), .val (.int .i64 x0.2.2.2.1), .val (.int .i64 x0.2.2.2.2.1), .val (.int .i64 x0.2.2.2.2.2.1), .val (.int .i64 x0.2.2.2.2.2.2.1), .val (.int .i64 x0.2.2.2.2.2.2.2.1), .val (.sl (.cons (.int .i64) .nil) x0.2.2.2.2.2.2.2.2.1), .val (.int .i64 x0.2.2.2.2.2.2.2.2.2.1), .val (.sl (.cons (.int .i64) .nil) x0.2.2.2.2.2.2.2.2.2.2.1), .val (.int .i64 x0.2.2.2.2.2.2.2.2.2.2.2.1), .val (.int .i64 x0.2.2.2.2.2.2.2.2.2.2.2.2.1), .val (.sl (.cons (.int .i64) .nil) x0.2.2.2.2.2.2.2.2.2.2.2.2.2.1), .val (.int .i64 x0.2.2.2.2.2.2.2.2.2.2.2.2.2.2.1), .val (.bool x0.2.2.2.2.2.2.2.2.2.2.2.2.2.2.2)])], []⟩
theorem impl_copyHead.v0 (x0 : THead) : V.evBody impl_copyHead.E impl_copyHead.con Tryz.f88 (V.fl2 x0) = V.evC impl_copyHead.E Tryz.f88.ntmps (V.codeOf Tryz.f88) (impl_copyHead.kt x0) (impl_copyHead.s x0) := by kernel_rfl
theorem impl_copyHead.v (x0 : THead) : V.evC impl_copyHead.E Tryz.f88.ntmps (V.codeOf Tryz.f88) (impl_copyHead.kt x0) (impl_copyHead.s x0) = impl_copyHead x0 := by kernel_rfl
theorem impl_copyHead.eq (x0 : THead) : V.evBody impl_copyHead.E impl_copyHead.con Tryz.f88 (V.fl2 x0) = impl_copyHead x0 := (impl_copyHead.v0 x0).trans (impl_copyHead.v x0)
theorem impl_copyHead.ok : V.Valid Tryz.prog 88 impl_copyHead.con :=
  V.body_ok (V.env_ok V.mixed V.tysOk (V.tab_cons impl_copyKeys.ok V.tab_nil)) Tryz.func88 (by kernel_rfl) (by kernel_rfl) (by kernel_rfl) (fun x y h => (show V.evBody impl_copyHead.E impl_copyHead.con Tryz.f88 x = _ from impl_copyHead.eq (V.p2_0 x)).trans h)
noncomputable abbrev slices_Clone_impl_Sig.con : V.Con := ⟨(.cons (.sl (.cons (.int .i64) (.cons (.int .i64) .nil))) .nil), (.cons (.sl (.cons (.int .i64) (.cons (.int .i64) .nil))) .nil), fun (x : List TSig) => slices_Clone_impl_Sig x, [], [(false, 1)], [(false, 1)], [true], []⟩
noncomputable abbrev slices_Clone_impl_Sig.E : V.Env := V.mkE V.tys [] [] [] [] [] []
noncomputable abbrev slices_Clone_impl_Sig.kt (x0 : List TSig) : V.Kt (List TSig) := V.ktOf slices_Clone_impl_Sig.E slices_Clone_impl_Sig.con Tryz.f218 ((x0) : List TSig)
theorem slices_Clone_impl_Sig.eq (x0 : List TSig) : V.evBody slices_Clone_impl_Sig.E slices_Clone_impl_Sig.con Tryz.f218 ((x0) : List TSig) = slices_Clone_impl_Sig x0 := by kernel_rfl
theorem slices_Clone_impl_Sig.ok : V.Valid Tryz.prog 218 slices_Clone_impl_Sig.con :=
  V.body_ok (V.env_ok V.mixed V.tysOk V.tab_nil) Tryz.func218 (by kernel_rfl) (by kernel_rfl) (by kernel_rfl) (fun x y h => (show V.evBody slices_Clone_impl_Sig.E slices_Clone_impl_Sig.con Tryz.f218 x = _ from slices_Clone_impl_Sig.eq x).trans h)
noncomputable abbrev impl_copySigned.con : V.Con := ⟨V.A3, V.eSigned, fun (x : V.D3) => impl_copySigned (V.p3_0 x), [], [(true, 17)], [(true, 17)], [false, false, false, false, false, false, false, false, true, false, true, false, false, true, false, false, true], []⟩
noncomputable abbrev impl_copySigned.E : V.Env := V.mkE V.tys [(88, impl_copyHead.con), (218, slices_Clone_impl_Sig.con)] [] [(1, 5)] [] [] []
noncomputable abbrev impl_copySigned.kt (x0 : TSigned) : V.Kt TSigned := V.ktOf impl_copySigned.E impl_copySigned.con Tryz.f123 (V.fl3 x0)
noncomputable abbrev impl_copySigned.s (x0 : TSigned) : V.St := ⟨[(0, .v true [.val (.int .i64 x0.1), .val (.int .i64 x0.2.1), .val (.int .i64 x0.2.2.1), .val (.int .i64 x0.2.2.2.1), .val (.int .i64 x0.2.2.2.2.1), .val (.int .i64 x0.2.2.2.2.2.1), .val (.int .i64 x0.2.2.2.2.2.2.1), .val (.int .i64 x0.2.2.2.2.2.2.2.1), .val (.sl (.cons (.int .i64) .nil) x0.2.2.2.2.2.2.2.2.1), .val (.int .i64 x0.2.2.2.2.2.2.2.2.2.1), .val (.sl (.cons (.int .i64) .nil) x0.2.2.2.2.2.2.2.2.2.2.1), .val (.int .i64 x0.2.2.2.2.2.2.2.2.2.2.2.1), .val (.int .i64 x0.2.2.2.2.2.2.2.2.2.2.2.2.1), .val (.sl (.cons (.int .i64) .nil) x0.2.2.2.2.2.2.2.2.2.2.2.2.2.1), .val (.int .i64 x0.2.2.2.2.2.2.2.2.2.2.2.2.2.2.1), .val (.bool x0.2.2.2.2.2.2.2.2.2.2.2.2.2.2.2.1), .val (.sl (.cons (.int .i64) (.cons (.int .i64) .nil)) x0.2.2.2.2.2.2.2.2.2.2.2.2.2.2.2.2)])], []⟩
theorem impl_copySigned.v0 (x0 : TSigned) : V.evBody impl_copySigned.E impl_copySigned.con Tryz.f123 (V.fl3 x0) = V.evC impl_copySigned.E Tryz.f123.ntmps (V.codeOf Tryz.f123) (impl_copySigned.kt x0) (impl_copySigned.s x0) := by kernel_rfl
theorem impl_copySigned.v (x0 : TSigned) : V.evC impl_copySigned.E Tryz.f123.ntmps (V.codeOf Tryz.f123) (impl_copySigned.kt x0) (impl_copySigned.s x0) = impl_copySigned x0 := by kernel_rfl
theorem impl_copySigned.eq (x0 : TSigned) : V.evBody impl_copySigned.E impl_copySigned.con Tryz.f123 (V.fl3 x0) = impl_copySigned x0 := (impl_copySigned.v0 x0).trans (impl_copySigned.v x0)
theorem impl_copySigned.ok : V.Valid Tryz.prog 123 impl_copySigned.con :=
  V.body_ok (V.env_ok V.mixed V.tysOk (V.tab_cons impl_copyHead.ok (V.tab_cons slices_Clone_impl_Sig.ok V.tab_nil))) Tryz.func123 (by kernel_rfl) (by kernel_rfl) (by kernel_rfl) (fun x y h => (show V.evBody impl_copySigned.E impl_copySigned.con Tryz.f123 x = _ from impl_copySigned.eq (V.p3_0 x)).trans h)
noncomputable abbrev impl_copyChain.con : V.Con := ⟨(.cons (.sl V.eSigned) .nil), (.cons (.sl V.eSigned) .nil), fun (x : List TSigned) => impl_copyChain x, [], [(false, 1)], [(false, 1)], [true], []⟩
noncomputable abbrev impl_copyChain.E : V.Env := V.mkE V.tys [(123, impl_copySigned.con)] [(6, [3, 7, 8, 9], [(64000038400192, V.eSigned, true)])] [] [] [] []
noncomputable abbrev impl_copyChain.kt (x0 : List TSigned) : V.Kt (List TSigned) := V.ktOf impl_copyChain.E impl_copyChain.con Tryz.f121 ((x0) : List TSigned)
noncomputable abbrev impl_copyChain.s6 (x0 : List TSigned) (v6_1 : Int) (v6_2 : Int) (v6_3 : List TSigned) : V.St := ⟨[(3, .v false [.ref 64000038400192]), (7, .v false [.val (.sl V.eSigned x0)]), (8, .v false [.val (.int .i64 v6_1)]), (9, .v false [.val (.int .i64 v6_2)])], [(64000038400192, .row V.eSigned true v6_3)]⟩
theorem impl_copyChain.r6 (x0 : List TSigned) (R : V.St → Option (List TSigned)) (v6_1 : Int) (v6_2 : Int) (v6_3 : List TSigned) : V.loopF impl_copyChain.E Tryz.f121.ntmps [1, 1, 0, 1, 0] [] (V.codeOf Tryz.f121) (impl_copyChain.kt x0) R (impl_copyChain.s6 x0 v6_1 v6_2 v6_3) = impl_copyChain.g6 x0 (fun v6_1 v6_2 v6_3 => R (impl_copyChain.s6 x0 v6_1 v6_2 v6_3)) v6_1 v6_2 v6_3 := by kernel_rfl
theorem impl_copyChain.e6 (x0 : List TSigned) : ∀ (n : Nat) (v6_1 : Int) (v6_2 : Int) (v6_3 : List TSigned), V.loopN (V.loopF impl_copyChain.E Tryz.f121.ntmps [1, 1, 0, 1, 0] [] (V.codeOf Tryz.f121) (impl_copyChain.kt x0)) n (impl_copyChain.s6 x0 v6_1 v6_2 v6_3) = impl_copyChain.l6 x0 n v6_1 v6_2 v6_3 := by
  intro n
  induction n with
  | zero => intros; rfl
  | succ n ih =>
    intro v6_1 v6_2 v6_3
    show V.loopF impl_copyChain.E Tryz.f121.ntmps [1, 1, 0, 1, 0] [] (V.codeOf Tryz.f121) (impl_copyChain.kt x0) (V.loopN (V.loopF impl_copyChain.E Tryz.f121.ntmps [1, 1, 0, 1, 0] [] (V.codeOf Tryz.f121) (impl_copyChain.kt x0)) n) (impl_copyChain.s6 x0 v6_1 v6_2 v6_3) = _
    rw [impl_copyChain.r6]
    simp only [ih]
    rfl
theorem impl_copyChain.v (x0 : List TSigned) : V.evBody impl_copyChain.E impl_copyChain.con Tryz.f121 ((x0) : List TSigned) = impl_copyChain.b x0 (fun v6_1 v6_2 v6_3 => V.loopN (V.loopF impl_copyChain.E Tryz.f121.ntmps [1, 1, 0, 1, 0] [] (V.codeOf Tryz.f121) (impl_copyChain.kt x0)) V.KK (impl_copyChain.s6 x0 v6_1 v6_2 v6_3)) := by kernel_rfl
theorem impl_copyChain.eq (x0 : List TSigned) : V.evBody impl_copyChain.E impl_copyChain.con Tryz.f121 ((x0) : List TSigned) = impl_copyChain x0 := by
  rw [impl_copyChain.v]
  simp only [impl_copyChain.e6]
  rfl
theorem impl_copyChain.ok : V.Valid Tryz.prog 121 impl_copyChain.con :=
  V.body_ok (V.env_ok V.mixed V.tysOk (V.tab_cons impl_copySigned.ok V.tab_nil)) Tryz.func121 (by kernel_rfl) (by kernel_rfl) (by kernel_rfl) (fun x y h => (show V.evBody impl_copyChain.E impl_copyChain.con Tryz.f121 x = _ from impl_copyChain.eq x).trans h)
noncomputable abbrev impl_InRange.con : V.Con := ⟨(.cons (.int .i64) (.cons (.int .i64) (.cons (.int .i64) .nil))), (.cons .bool .nil), fun (x : Int × Int × Int) => impl_InRange x.1 x.2.1 x.2.2, [], [(false, 1), (false, 1), (false, 1)], [(false, 1)], [false], []⟩
noncomputable abbrev impl_InRange.E : V.Env := V.mkE V.tys [] [] [] [] [] []
noncomputable abbrev impl_InRange.kt (x0 : Int) (x1 : Int) (x2 : Int) : V.Kt Bool := V.ktOf impl_InRange.E impl_InRange.con Tryz.f179 ((x0, x1, x2) : Int × Int × Int)
theorem impl_InRange.eq (x0 : Int) (x1 : Int) (x2 : Int) : V.evBody impl_InRange.E impl_InRange.con Tryz.f179 ((x0, x1, x2) : Int × Int × Int) = impl_InRange x0 x1 x2 := by kernel_rfl
theorem impl_InRange.ok : V.Valid Tryz.prog 179 impl_InRange.con :=
  V.body_ok (V.env_ok V.mixed V.tysOk V.tab_nil) Tryz.func179 (by kernel_rfl) (by kernel_rfl) (by kernel_rfl) (fun x y h => (show V.evBody impl_InRange.E impl_InRange.con Tryz.f179 x = _ from impl_InRange.eq x.1 x.2.1 x.2.2).trans h)
noncomputable abbrev impl_isDigest.con : V.Con := ⟨(.cons (.int .i64) .nil), (.cons .bool .nil), fun (x : Int) => impl_isDigest x, [], [(false, 1)], [(false, 1)], [false], []⟩
noncomputable abbrev impl_isDigest.E : V.Env := V.mkE V.tys [(179, impl_InRange.con)] [] [] [] [] []
noncomputable abbrev impl_isDigest.kt (x0 : Int) : V.Kt Bool := V.ktOf impl_isDigest.E impl_isDigest.con Tryz.f226 ((x0) : Int)
theorem impl_isDigest.eq (x0 : Int) : V.evBody impl_isDigest.E impl_isDigest.con Tryz.f226 ((x0) : Int) = impl_isDigest x0 := by kernel_rfl
theorem impl_isDigest.ok : V.Valid Tryz.prog 226 impl_isDigest.con :=
  V.body_ok (V.env_ok V.mixed V.tysOk (V.tab_cons impl_InRange.ok V.tab_nil)) Tryz.func226 (by kernel_rfl) (by kernel_rfl) (by kernel_rfl) (fun x y h => (show V.evBody impl_isDigest.E impl_isDigest.con Tryz.f226 x = _ from impl_isDigest.eq x).trans h)
noncomputable abbrev impl_isSpan.con : V.Con := ⟨V.A2, (.cons .bool .nil), fun (x : V.D2) => impl_isSpan (V.p2_0 x), [], [(true, 16)], [(false, 1)], [false], []⟩
noncomputable abbrev impl_isSpan.E : V.Env := V.mkE V.tys [] [] [] [] [] []
noncomputable abbrev impl_isSpan.kt (x0 : THead) : V.Kt Bool := V.ktOf impl_isSpan.E impl_isSpan.con Tryz.f256 (V.fl2 x0)
noncomputable abbrev impl_isSpan.s (x0 : THead) : V.St := ⟨[(0, .v true [.val (.int .i64 x0.1), .val (.int .i64 x0.2.1), .val (.int .i64 x0.2.2.1), .val (.int .i64 x0.2.2.2.1), .val (.int .i64 x0.2.2.2.2.1), .val (.int .i64 x0.2.2.2.2.2.1), .val (.int .i64 x0.2.2.2.2.2.2.1), .val (.int .i64 x0.2.2.2.2.2.2.2.1), .val (.sl (.cons (.int .i64) .nil) x0.2.2.2.2.2.2.2.2.1), .val (.int .i64 x0.2.2.2.2.2.2.2.2.2.1), .val (.sl (.cons (.int .i64) .nil) x0.2.2.2.2.2.2.2.2.2.2.1), .val (.int .i64 x0.2.2.2.2.2.2.2.2.2.2.2.1), .val (.int .i64 x0.2.2.2.2.2.2.2.2.2.2.2.2.1), .val (.sl (.cons (.int .i64) .nil) x0.2.2.2.2.2.2.2.2.2.2.2.2.2.1), .val (.int .i64 x0.2.2.2.2.2.2.2.2.2.2.2.2.2.2.1), .val (.bool x0.2.2.2.2.2.2.2.2.2.2.2.2.2.2.2)])], []⟩
theorem impl_isSpan.v0 (x0 : THead) : V.evBody impl_isSpan.E impl_isSpan.con Tryz.f256 (V.fl2 x0) = V.evC impl_isSpan.E Tryz.f256.ntmps (V.codeOf Tryz.f256) (impl_isSpan.kt x0) (impl_isSpan.s x0) := by kernel_rfl
theorem impl_isSpan.v (x0 : THead) : V.evC impl_isSpan.E Tryz.f256.ntmps (V.codeOf Tryz.f256) (impl_isSpan.kt x0) (impl_isSpan.s x0) = impl_isSpan x0 := by kernel_rfl
theorem impl_isSpan.eq (x0 : THead) : V.evBody impl_isSpan.E impl_isSpan.con Tryz.f256 (V.fl2 x0) = impl_isSpan x0 := (impl_isSpan.v0 x0).trans (impl_isSpan.v x0)
theorem impl_isSpan.ok : V.Valid Tryz.prog 256 impl_isSpan.con :=
  V.body_ok (V.env_ok V.mixed V.tysOk V.tab_nil) Tryz.func256 (by kernel_rfl) (by kernel_rfl) (by kernel_rfl) (fun x y h => (show V.evBody impl_isSpan.E impl_isSpan.con Tryz.f256 x = _ from impl_isSpan.eq (V.p2_0 x)).trans h)
noncomputable abbrev impl_ascending.con : V.Con := ⟨(.cons (.sl (.cons (.int .i64) .nil)) .nil), (.cons .bool .nil), fun (x : List Int) => impl_ascending x, [], [(false, 1)], [(false, 1)], [false], []⟩
noncomputable abbrev impl_ascending.E : V.Env := V.mkE V.tys [] [(4, [0, 5, 6], [])] [(4, 12)] [] [] []
noncomputable abbrev impl_ascending.kt (x0 : List Int) : V.Kt Bool := V.ktOf impl_ascending.E impl_ascending.con Tryz.f287 ((x0) : List Int)
noncomputable abbrev impl_ascending.s4 (x0 : List Int) (v4_1 : Int) (v4_2 : Int) : V.St := ⟨[(0, .v false [.val (.sl (.cons (.int .i64) .nil) x0)]), (5, .v false [.val (.int .i64 v4_1)]), (6, .v false [.val (.int .i64 v4_2)])], []⟩
theorem impl_ascending.r4 (x0 : List Int) (R : V.St → Option Bool) (v4_1 : Int) (v4_2 : Int) : V.loopF impl_ascending.E Tryz.f287.ntmps [1, 0, 1, 0] [] (V.codeOf Tryz.f287) (impl_ascending.kt x0) R (impl_ascending.s4 x0 v4_1 v4_2) = impl_ascending.g4 x0 (fun v4_1 v4_2 => R (impl_ascending.s4 x0 v4_1 v4_2)) v4_1 v4_2 := by kernel_rfl
theorem impl_ascending.e4 (x0 : List Int) : ∀ (n : Nat) (v4_1 : Int) (v4_2 : Int), V.loopN (V.loopF impl_ascending.E Tryz.f287.ntmps [1, 0, 1, 0] [] (V.codeOf Tryz.f287) (impl_ascending.kt x0)) n (impl_ascending.s4 x0 v4_1 v4_2) = impl_ascending.l4 x0 n v4_1 v4_2 := by
  intro n
  induction n with
  | zero => intros; rfl
  | succ n ih =>
    intro v4_1 v4_2
    show V.loopF impl_ascending.E Tryz.f287.ntmps [1, 0, 1, 0] [] (V.codeOf Tryz.f287) (impl_ascending.kt x0) (V.loopN (V.loopF impl_ascending.E Tryz.f287.ntmps [1, 0, 1, 0] [] (V.codeOf Tryz.f287) (impl_ascending.kt x0)) n) (impl_ascending.s4 x0 v4_1 v4_2) = _
    rw [impl_ascending.r4]
    simp only [ih]
    rfl
theorem impl_ascending.v (x0 : List Int) : V.evBody impl_ascending.E impl_ascending.con Tryz.f287 ((x0) : List Int) = impl_ascending.b x0 (fun v4_1 v4_2 => V.loopN (V.loopF impl_ascending.E Tryz.f287.ntmps [1, 0, 1, 0] [] (V.codeOf Tryz.f287) (impl_ascending.kt x0)) V.KK (impl_ascending.s4 x0 v4_1 v4_2)) := by kernel_rfl
theorem impl_ascending.eq (x0 : List Int) : V.evBody impl_ascending.E impl_ascending.con Tryz.f287 ((x0) : List Int) = impl_ascending x0 := by
  rw [impl_ascending.v]
  simp only [impl_ascending.e4]
  rfl
theorem impl_ascending.ok : V.Valid Tryz.prog 287 impl_ascending.con :=
  V.body_ok (V.env_ok V.mixed V.tysOk V.tab_nil) Tryz.func287 (by kernel_rfl) (by kernel_rfl) (by kernel_rfl) (fun x y h => (show V.evBody impl_ascending.E impl_ascending.con Tryz.f287 x = _ from impl_ascending.eq x).trans h)
noncomputable abbrev impl_isKey.con : V.Con := ⟨(.cons (.int .i64) .nil), (.cons .bool .nil), fun (x : Int) => impl_isKey x, [], [(false, 1)], [(false, 1)], [false], []⟩
noncomputable abbrev impl_isKey.E : V.Env := V.mkE V.tys [(179, impl_InRange.con)] [] [] [] [] []
noncomputable abbrev impl_isKey.kt (x0 : Int) : V.Kt Bool := V.ktOf impl_isKey.E impl_isKey.con Tryz.f227 ((x0) : Int)
theorem impl_isKey.eq (x0 : Int) : V.evBody impl_isKey.E impl_isKey.con Tryz.f227 ((x0) : Int) = impl_isKey x0 := by kernel_rfl
theorem impl_isKey.ok : V.Valid Tryz.prog 227 impl_isKey.con :=
  V.body_ok (V.env_ok V.mixed V.tysOk (V.tab_cons impl_InRange.ok V.tab_nil)) Tryz.func227 (by kernel_rfl) (by kernel_rfl) (by kernel_rfl) (fun x y h => (show V.evBody impl_isKey.E impl_isKey.con Tryz.f227 x = _ from impl_isKey.eq x).trans h)
noncomputable abbrev impl_IsKeys.con : V.Con := ⟨(.cons (.sl (.cons (.int .i64) .nil)) (.cons (.int .i64) .nil)), (.cons .bool .nil), fun (x : List Int × Int) => impl_IsKeys x, [], [(true, 2)], [(false, 1)], [false], []⟩
noncomputable abbrev impl_IsKeys.E : V.Env := V.mkE V.tys [(179, impl_InRange.con), (227, impl_isKey.con), (287, impl_ascending.con)] [] [] [] [] []
noncomputable abbrev impl_IsKeys.kt (x0 : TKeys) : V.Kt Bool := V.ktOf impl_IsKeys.E impl_IsKeys.con Tryz.f257 ((x0.1, x0.2) : List Int × Int)
theorem impl_IsKeys.eq (x0 : TKeys) : V.evBody impl_IsKeys.E impl_IsKeys.con Tryz.f257 ((x0.1, x0.2) : List Int × Int) = impl_IsKeys x0 := by kernel_rfl
theorem impl_IsKeys.ok : V.Valid Tryz.prog 257 impl_IsKeys.con :=
  V.body_ok (V.env_ok V.mixed V.tysOk (V.tab_cons impl_InRange.ok (V.tab_cons impl_isKey.ok (V.tab_cons impl_ascending.ok V.tab_nil)))) Tryz.func257 (by kernel_rfl) (by kernel_rfl) (by kernel_rfl) (fun x y h => (show V.evBody impl_IsKeys.E impl_IsKeys.con Tryz.f257 x = _ from impl_IsKeys.eq x).trans h)
noncomputable abbrev impl_NoKeys.con : V.Con := ⟨(.cons (.sl (.cons (.int .i64) .nil)) (.cons (.int .i64) .nil)), (.cons .bool .nil), fun (x : List Int × Int) => impl_NoKeys x, [], [(true, 2)], [(false, 1)], [false], []⟩
noncomputable abbrev impl_NoKeys.E : V.Env := V.mkE V.tys [] [] [] [] [] []
noncomputable abbrev impl_NoKeys.kt (x0 : TKeys) : V.Kt Bool := V.ktOf impl_NoKeys.E impl_NoKeys.con Tryz.f260 ((x0.1, x0.2) : List Int × Int)
theorem impl_NoKeys.eq (x0 : TKeys) : V.evBody impl_NoKeys.E impl_NoKeys.con Tryz.f260 ((x0.1, x0.2) : List Int × Int) = impl_NoKeys x0 := by kernel_rfl
theorem impl_NoKeys.ok : V.Valid Tryz.prog 260 impl_NoKeys.con :=
  V.body_ok (V.env_ok V.mixed V.tysOk V.tab_nil) Tryz.func260 (by kernel_rfl) (by kernel_rfl) (by kernel_rfl) (fun x y h => (show V.evBody impl_NoKeys.E impl_NoKeys.con Tryz.f260 x = _ from impl_NoKeys.eq x).trans h)
noncomputable abbrev impl_isMaybe.con : V.Con := ⟨(.cons (.sl (.cons (.int .i64) .nil)) (.cons (.int .i64) .nil)), (.cons .bool .nil), fun (x : List Int × Int) => impl_isMaybe x, [], [(true, 2)], [(false, 1)], [false], []⟩
noncomputable abbrev impl_isMaybe.E : V.Env := V.mkE V.tys [(257, impl_IsKeys.con), (260, impl_NoKeys.con)] [] [] [] [] []
noncomputable abbrev impl_isMaybe.kt (x0 : TKeys) : V.Kt Bool := V.ktOf impl_isMaybe.E impl_isMaybe.con Tryz.f258 ((x0.1, x0.2) : List Int × Int)
theorem impl_isMaybe.eq (x0 : TKeys) : V.evBody impl_isMaybe.E impl_isMaybe.con Tryz.f258 ((x0.1, x0.2) : List Int × Int) = impl_isMaybe x0 := by kernel_rfl
theorem impl_isMaybe.ok : V.Valid Tryz.prog 258 impl_isMaybe.con :=
  V.body_ok (V.env_ok V.mixed V.tysOk (V.tab_cons impl_IsKeys.ok (V.tab_cons impl_NoKeys.ok V.tab_nil))) Tryz.func258 (by kernel_rfl) (by kernel_rfl) (by kernel_rfl) (fun x y h => (show V.evBody impl_isMaybe.E impl_isMaybe.con Tryz.f258 x = _ from impl_isMaybe.eq x).trans h)
noncomputable abbrev impl_isWait.con : V.Con := ⟨(.cons (.int .i64) (.cons (.sl (.cons (.int .i64) .nil)) (.cons (.int .i64) .nil))), (.cons .bool .nil), fun (x : Int × List Int × Int) => impl_isWait x.1 x.2, [], [(false, 1), (true, 2)], [(false, 1)], [false], []⟩
noncomputable abbrev impl_isWait.E : V.Env := V.mkE V.tys [(179, impl_InRange.con), (260, impl_NoKeys.con)] [] [] [] [] []
noncomputable abbrev impl_isWait.kt (x0 : Int) (x1 : TKeys) : V.Kt Bool := V.ktOf impl_isWait.E impl_isWait.con Tryz.f259 ((x0, x1.1, x1.2) : Int × List Int × Int)
theorem impl_isWait.eq (x0 : Int) (x1 : TKeys) : V.evBody impl_isWait.E impl_isWait.con Tryz.f259 ((x0, x1.1, x1.2) : Int × List Int × Int) = impl_isWait x0 x1 := by kernel_rfl
theorem impl_isWait.ok : V.Valid Tryz.prog 259 impl_isWait.con :=
  V.body_ok (V.env_ok V.mixed V.tysOk (V.tab_cons impl_InRange.ok (V.tab_cons impl_NoKeys.ok V.tab_nil))) Tryz.func259 (by kernel_rfl) (by kernel_rfl) (by kernel_rfl) (fun x y h => (show V.evBody impl_isWait.E impl_isWait.con Tryz.f259 x = _ from impl_isWait.eq x.1 x.2).trans h)
noncomputable abbrev impl_IsHead.con : V.Con := ⟨V.A2, (.cons .bool .nil), fun (x : V.D2) => impl_IsHead (V.p2_0 x), [], [(true, 16)], [(false, 1)], [false], []⟩
noncomputable abbrev impl_IsHead.E : V.Env := V.mkE V.tys [(179, impl_InRange.con), (226, impl_isDigest.con), (256, impl_isSpan.con), (257, impl_IsKeys.con), (258, impl_isMaybe.con), (259, impl_isWait.con), (260, impl_NoKeys.con)] [] [] [] [] []
noncomputable abbrev impl_IsHead.kt (x0 : THead) : V.Kt Bool := V.ktOf impl_IsHead.E impl_IsHead.con Tryz.f196 (V.fl2 x0)
noncomputable abbrev impl_IsHead.s (x0 : THead) : V.St := ⟨[(0, .v true [.val (.int .i64 x0.1), .val (.int .i64 x0.2.1), .val (.int .i64 x0.2.2.1), .val (.int .i64 x0.2.2.2.1), .val (.int .i64 x0.2.2.2.2.1), .val (.int .i64 x0.2.2.2.2.2.1), .val (.int .i64 x0.2.2.2.2.2.2.1), .val (.int .i64 x0.2.2.2.2.2.2.2.1), .val (.sl (.cons (.int .i64) .nil) x0.2.2.2.2.2.2.2.2.1), .val (.int .i64 x0.2.2.2.2.2.2.2.2.2.1), .val (.sl (.cons (.int .i64) .nil) x0.2.2.2.2.2.2.2.2.2.2.1), .val (.int .i64 x0.2.2.2.2.2.2.2.2.2.2.2.1), .val (.int .i64 x0.2.2.2.2.2.2.2.2.2.2.2.2.1), .val (.sl (.cons (.int .i64) .nil) x0.2.2.2.2.2.2.2.2.2.2.2.2.2.1), .val (.int .i64 x0.2.2.2.2.2.2.2.2.2.2.2.2.2.2.1), .val (.bool x0.2.2.2.2.2.2.2.2.2.2.2.2.2.2.2)])], []⟩
theorem impl_IsHead.v0 (x0 : THead) : V.evBody impl_IsHead.E impl_IsHead.con Tryz.f196 (V.fl2 x0) = V.evC impl_IsHead.E Tryz.f196.ntmps (V.codeOf Tryz.f196) (impl_IsHead.kt x0) (impl_IsHead.s x0) := by kernel_rfl
theorem impl_IsHead.v (x0 : THead) : V.evC impl_IsHead.E Tryz.f196.ntmps (V.codeOf Tryz.f196) (impl_IsHead.kt x0) (impl_IsHead.s x0) = impl_IsHead x0 := by kernel_rfl
theorem impl_IsHead.eq (x0 : THead) : V.evBody impl_IsHead.E impl_IsHead.con Tryz.f196 (V.fl2 x0) = impl_IsHead x0 := (impl_IsHead.v0 x0).trans (impl_IsHead.v x0)
theorem impl_IsHead.ok : V.Valid Tryz.prog 196 impl_IsHead.con :=
  V.body_ok (V.env_ok V.mixed V.tysOk (V.tab_cons impl_InRange.ok (V.tab_cons impl_isDigest.ok (V.tab_cons impl_isSpan.ok (V.tab_cons impl_IsKeys.ok (V.tab_cons impl_isMaybe.ok (V.tab_cons impl_isWait.ok (V.tab_cons impl_NoKeys.ok V.tab_nil)))))))) Tryz.func196 (by kernel_rfl) (by kernel_rfl) (by kernel_rfl) (fun x y h => (show V.evBody impl_IsHead.E impl_IsHead.con Tryz.f196 x = _ from impl_IsHead.eq (V.p2_0 x)).trans h)
noncomputable abbrev impl_KeysInts.con : V.Con := ⟨(.cons (.sl (.cons (.int .i64) .nil)) (.cons (.int .i64) .nil)), (.cons (.sl (.cons (.int .i64) .nil)) .nil), fun (x : List Int × Int) => impl_KeysInts x, [], [(true, 2)], [(false, 1)], [true], []⟩
noncomputable abbrev impl_KeysInts.E : V.Env := V.mkE V.tys [] [] [] [] [] []
noncomputable abbrev impl_KeysInts.kt (x0 : TKeys) : V.Kt (List Int) := V.ktOf impl_KeysInts.E impl_KeysInts.con Tryz.f274 ((x0.1, x0.2) : List Int × Int)
theorem impl_KeysInts.eq (x0 : TKeys) : V.evBody impl_KeysInts.E impl_KeysInts.con Tryz.f274 ((x0.1, x0.2) : List Int × Int) = impl_KeysInts x0 := by kernel_rfl
theorem impl_KeysInts.ok : V.Valid Tryz.prog 274 impl_KeysInts.con :=
  V.body_ok (V.env_ok V.mixed V.tysOk V.tab_nil) Tryz.func274 (by kernel_rfl) (by kernel_rfl) (by kernel_rfl) (fun x y h => (show V.evBody impl_KeysInts.E impl_KeysInts.con Tryz.f274 x = _ from impl_KeysInts.eq x).trans h)
noncomputable abbrev impl_Mod.con : V.Con := ⟨(.cons (.int .i64) (.cons (.int .i64) .nil)), (.cons (.int .i64) .nil), fun (x : Int × Int) => impl_Mod x.1 x.2, [], [(false, 1), (false, 1)], [(false, 1)], [false], []⟩
noncomputable abbrev impl_Mod.E : V.Env := V.mkE V.tys [(179, impl_InRange.con)] [] [] [] [] []
noncomputable abbrev impl_Mod.kt (x0 : Int) (x1 : Int) : V.Kt Int := V.ktOf impl_Mod.E impl_Mod.con Tryz.f288 ((x0, x1) : Int × Int)
theorem impl_Mod.eq (x0 : Int) (x1 : Int) : V.evBody impl_Mod.E impl_Mod.con Tryz.f288 ((x0, x1) : Int × Int) = impl_Mod x0 x1 := by kernel_rfl
theorem impl_Mod.ok : V.Valid Tryz.prog 288 impl_Mod.con :=
  V.body_ok (V.env_ok V.mixed V.tysOk (V.tab_cons impl_InRange.ok V.tab_nil)) Tryz.func288 (by kernel_rfl) (by kernel_rfl) (by kernel_rfl) (fun x y h => (show V.evBody impl_Mod.E impl_Mod.con Tryz.f288 x = _ from impl_Mod.eq x.1 x.2).trans h)
noncomputable abbrev impl_Hash.con : V.Con := ⟨(.cons (.sl (.cons (.int .i64) .nil)) .nil), (.cons (.int .i64) .nil), fun (x : List Int) => impl_Hash x, [], [(false, 1)], [(false, 1)], [false], []⟩
noncomputable abbrev impl_Hash.E : V.Env := V.mkE V.tys [(288, impl_Mod.con)] [(6, [3, 6, 7, 8], [])] [] [] [] []
noncomputable abbrev impl_Hash.kt (x0 : List Int) : V.Kt Int := V.ktOf impl_Hash.E impl_Hash.con Tryz.f261 ((x0) : List Int)
noncomputable abbrev impl_Hash.s6 (x0 : List Int) (v6_0 : Int) (v6_2 : Int) (v6_3 : Int) : V.St := ⟨[(3, .v false [.val (.int .i64 v6_0)]), (6, .v false [.val (.sl (.cons (.int .i64) .nil) x0)]), (7, .v false [.val (.int .i64 v6_2)]), (8, .v false [.val (.int .i64 v6_3)])], []⟩
theorem impl_Hash.r6 (x0 : List Int) (R : V.St → Option Int) (v6_0 : Int) (v6_2 : Int) (v6_3 : Int) : V.loopF impl_Hash.E Tryz.f261.ntmps [1, 1, 0, 1, 0] [] (V.codeOf Tryz.f261) (impl_Hash.kt x0) R (impl_Hash.s6 x0 v6_0 v6_2 v6_3) = impl_Hash.g6 x0 (fun v6_0 v6_2 v6_3 => R (impl_Hash.s6 x0 v6_0 v6_2 v6_3)) v6_0 v6_2 v6_3 := by kernel_rfl
theorem impl_Hash.e6 (x0 : List Int) : ∀ (n : Nat) (v6_0 : Int) (v6_2 : Int) (v6_3 : Int), V.loopN (V.loopF impl_Hash.E Tryz.f261.ntmps [1, 1, 0, 1, 0] [] (V.codeOf Tryz.f261) (impl_Hash.kt x0)) n (impl_Hash.s6 x0 v6_0 v6_2 v6_3) = impl_Hash.l6 x0 n v6_0 v6_2 v6_3 := by
  intro n
  induction n with
  | zero => intros; rfl
  | succ n ih =>
    intro v6_0 v6_2 v6_3
    show V.loopF impl_Hash.E Tryz.f261.ntmps [1, 1, 0, 1, 0] [] (V.codeOf Tryz.f261) (impl_Hash.kt x0) (V.loopN (V.loopF impl_Hash.E Tryz.f261.ntmps [1, 1, 0, 1, 0] [] (V.codeOf Tryz.f261) (impl_Hash.kt x0)) n) (impl_Hash.s6 x0 v6_0 v6_2 v6_3) = _
    rw [impl_Hash.r6]
    simp only [ih]
    rfl
theorem impl_Hash.v (x0 : List Int) : V.evBody impl_Hash.E impl_Hash.con Tryz.f261 ((x0) : List Int) = impl_Hash.b x0 (fun v6_0 v6_2 v6_3 => V.loopN (V.loopF impl_Hash.E Tryz.f261.ntmps [1, 1, 0, 1, 0] [] (V.codeOf Tryz.f261) (impl_Hash.kt x0)) V.KK (impl_Hash.s6 x0 v6_0 v6_2 v6_3)) := by kernel_rfl
theorem impl_Hash.eq (x0 : List Int) : V.evBody impl_Hash.E impl_Hash.con Tryz.f261 ((x0) : List Int) = impl_Hash x0 := by
  rw [impl_Hash.v]
  simp only [impl_Hash.e6]
  rfl
theorem impl_Hash.ok : V.Valid Tryz.prog 261 impl_Hash.con :=
  V.body_ok (V.env_ok V.mixed V.tysOk (V.tab_cons impl_Mod.ok V.tab_nil)) Tryz.func261 (by kernel_rfl) (by kernel_rfl) (by kernel_rfl) (fun x y h => (show V.evBody impl_Hash.E impl_Hash.con Tryz.f261 x = _ from impl_Hash.eq x).trans h)
noncomputable abbrev impl_ZoneOf.con : V.Con := ⟨(.cons (.sl (.cons (.int .i64) .nil)) (.cons (.int .i64) (.cons (.int .i64) .nil))), (.cons (.int .i64) .nil), fun (x : List Int × Int × Int) => impl_ZoneOf (x.1, x.2.1) x.2.2, [], [(true, 2), (false, 1)], [(false, 1)], [false], []⟩
noncomputable abbrev impl_ZoneOf.E : V.Env := V.mkE V.tys [(261, impl_Hash.con), (274, impl_KeysInts.con)] [] [] [] [] []
noncomputable abbrev impl_ZoneOf.kt (x0 : TKeys) (x1 : Int) : V.Kt Int := V.ktOf impl_ZoneOf.E impl_ZoneOf.con Tryz.f236 ((x0.1, x0.2, x1) : List Int × Int × Int)
theorem impl_ZoneOf.eq (x0 : TKeys) (x1 : Int) : V.evBody impl_ZoneOf.E impl_ZoneOf.con Tryz.f236 ((x0.1, x0.2, x1) : List Int × Int × Int) = impl_ZoneOf x0 x1 := by kernel_rfl
theorem impl_ZoneOf.ok : V.Valid Tryz.prog 236 impl_ZoneOf.con :=
  V.body_ok (V.env_ok V.mixed V.tysOk (V.tab_cons impl_Hash.ok (V.tab_cons impl_KeysInts.ok V.tab_nil))) Tryz.func236 (by kernel_rfl) (by kernel_rfl) (by kernel_rfl) (fun x y h => (show V.evBody impl_ZoneOf.E impl_ZoneOf.con Tryz.f236 x = _ from impl_ZoneOf.eq (x.1, x.2.1) x.2.2).trans h)
noncomputable abbrev impl_bit.con : V.Con := ⟨(.cons .bool .nil), (.cons (.int .i64) .nil), fun (x : Bool) => impl_bit x, [], [(false, 1)], [(false, 1)], [false], []⟩
noncomputable abbrev impl_bit.E : V.Env := V.mkE V.tys [] [] [] [] [] []
noncomputable abbrev impl_bit.kt (x0 : Bool) : V.Kt Int := V.ktOf impl_bit.E impl_bit.con Tryz.f275 ((x0) : Bool)
theorem impl_bit.eq (x0 : Bool) : V.evBody impl_bit.E impl_bit.con Tryz.f275 ((x0) : Bool) = impl_bit x0 := by kernel_rfl
theorem impl_bit.ok : V.Valid Tryz.prog 275 impl_bit.con :=
  V.body_ok (V.env_ok V.mixed V.tysOk V.tab_nil) Tryz.func275 (by kernel_rfl) (by kernel_rfl) (by kernel_rfl) (fun x y h => (show V.evBody impl_bit.E impl_bit.con Tryz.f275 x = _ from impl_bit.eq x).trans h)
noncomputable abbrev slices_Grow_int.con : V.Con := ⟨(.cons (.sl (.cons (.int .i64) .nil)) (.cons (.int .i64) .nil)), (.cons (.sl (.cons (.int .i64) .nil)) .nil), fun (x : List Int × Int) => slices_Grow_int x.1 x.2, [], [(false, 1), (false, 1)], [(false, 1)], [true], [0]⟩
noncomputable abbrev slices_Grow_int.E : V.Env := V.mkE V.tys [] [(7, [0, 1], [])] [] [] [] []
noncomputable abbrev slices_Grow_int.kt (x0 : List Int) (x1 : Int) : V.Kt (List Int) := V.ktOf slices_Grow_int.E slices_Grow_int.con Tryz.f294 ((x0, x1) : List Int × Int)
noncomputable abbrev slices_Grow_int.s7 (x1 : Int) : V.St := ⟨[(0, .v false [.nil0]), (1, .v false [.val (.int .i64 x1)])], []⟩
theorem slices_Grow_int.r7 (x0 : List Int) (x1 : Int) : V.normK 7 ([0, 1], []) (V.joinF slices_Grow_int.E Tryz.f294.ntmps [1] [] (V.codeOf Tryz.f294) (slices_Grow_int.kt x0 x1)) (slices_Grow_int.s7 x1) = slices_Grow_int.g7 x1 := by kernel_rfl
theorem slices_Grow_int.e7 (x0 : List Int) (x1 : Int) : V.normK 7 ([0, 1], []) (V.joinF slices_Grow_int.E Tryz.f294.ntmps [1] [] (V.codeOf Tryz.f294) (slices_Grow_int.kt x0 x1)) (slices_Grow_int.s7 x1) = slices_Grow_int.l7 x1 := by
  rw [slices_Grow_int.r7]
  rfl
theorem slices_Grow_int.v (x0 : List Int) (x1 : Int) : V.evBody slices_Grow_int.E slices_Grow_int.con Tryz.f294 ((x0, x1) : List Int × Int) = slices_Grow_int.b x0 x1 (V.normK 7 ([0, 1], []) (V.joinF slices_Grow_int.E Tryz.f294.ntmps [1] [] (V.codeOf Tryz.f294) (slices_Grow_int.kt x0 x1)) (slices_Grow_int.s7 x1)) := by kernel_rfl
theorem slices_Grow_int.eq (x0 : List Int) (x1 : Int) : V.evBody slices_Grow_int.E slices_Grow_int.con Tryz.f294 ((x0, x1) : List Int × Int) = slices_Grow_int x0 x1 := by
  rw [slices_Grow_int.v]
  simp only [slices_Grow_int.e7]
  rfl
theorem slices_Grow_int.ok : V.Valid Tryz.prog 294 slices_Grow_int.con :=
  V.body_ok (V.env_ok V.mixed V.tysOk V.tab_nil) Tryz.func294 (by kernel_rfl) (by kernel_rfl) (by kernel_rfl) (fun x y h => (show V.evBody slices_Grow_int.E slices_Grow_int.con Tryz.f294 x = _ from slices_Grow_int.eq x.1 x.2).trans h)
noncomputable abbrev slices_Concat_int.con : V.Con := ⟨(.cons (.sl (.cons (.sl (.cons (.int .i64) .nil)) .nil)) .nil), (.cons (.sl (.cons (.int .i64) .nil)) .nil), fun (x : List (List Int)) => slices_Concat_int x, [], [(false, 1)], [(false, 1)], [true], []⟩
noncomputable abbrev slices_Concat_int.E : V.Env := V.mkE V.tys [(294, slices_Grow_int.con)] [(6, [0, 3, 9, 10, 11], []), (22, [6, 25, 26, 27], [])] [] [] [] []
noncomputable abbrev slices_Concat_int.kt (x0 : List (List Int)) : V.Kt (List Int) := V.ktOf slices_Concat_int.E slices_Concat_int.con Tryz.f273 ((x0) : List (List Int))
noncomputable abbrev slices_Concat_int.s22 (x0 : List (List Int)) (v22_1 : Int) (v22_2 : Int) (v22_3 : List Int) : V.St := ⟨[(6, .v false [.ref 64000140800384]), (25, .v false [.val (.sl (.cons (.sl (.cons (.int .i64) .nil)) .nil) x0)]), (26, .v false [.val (.int .i64 v22_1)]), (27, .v false [.val (.int .i64 v22_2)])], [(64000140800384, .row (.cons (.int .i64) .nil) true v22_3)]⟩
noncomputable abbrev slices_Concat_int.s6 (x0 : List (List Int)) (v6_1 : Int) (v6_3 : Int) (v6_4 : Int) : V.St := ⟨[(0, .v false [.val (.sl (.cons (.sl (.cons (.int .i64) .nil)) .nil) x0)]), (3, .v false [.val (.int .i64 v6_1)]), (9, .v false [.val (.sl (.cons (.sl (.cons (.int .i64) .nil)) .nil) x0)]), (10, .v false [.val (.int .i64 v6_3)]), (11, .v false [.val (.int .i64 v6_4)])], []⟩
theorem slices_Concat_int.r22 (x0 : List (List Int)) (R : V.St → Option (List Int)) (v22_1 : Int) (v22_2 : Int) (v22_3 : List Int) : V.loopF slices_Concat_int.E Tryz.f273.ntmps [1, 1, 1, 1, 0, 1, 0] [] (V.codeOf Tryz.f273) (slices_Concat_int.kt x0) R (slices_Concat_int.s22 x0 v22_1 v22_2 v22_3) = slices_Concat_int.g22 x0 (fun v22_1 v22_2 v22_3 => R (slices_Concat_int.s22 x0 v22_1 v22_2 v22_3)) v22_1 v22_2 v22_3 := by kernel_rfl
theorem slices_Concat_int.e22 (x0 : List (List Int)) : ∀ (n : Nat) (v22_1 : Int) (v22_2 : Int) (v22_3 : List Int), V.loopN (V.loopF slices_Concat_int.E Tryz.f273.ntmps [1, 1, 1, 1, 0, 1, 0] [] (V.codeOf Tryz.f273) (slices_Concat_int.kt x0)) n (slices_Concat_int.s22 x0 v22_1 v22_2 v22_3) = slices_Concat_int.l22 x0 n v22_1 v22_2 v22_3 := by
  intro n
  induction n with
  | zero => intros; rfl
  | succ n ih =>
    intro v22_1 v22_2 v22_3
    show V.loopF slices_Concat_int.E Tryz.f273.ntmps [1, 1, 1, 1, 0, 1, 0] [] (V.codeOf Tryz.f273) (slices_Concat_int.kt x0) (V.loopN (V.loopF slices_Concat_int.E Tryz.f273.ntmps [1, 1, 1, 1, 0, 1, 0] [] (V.codeOf Tryz.f273) (slices_Concat_int.kt x0)) n) (slices_Concat_int.s22 x0 v22_1 v22_2 v22_3) = _
    rw [slices_Concat_int.r22]
    simp only [ih]
    rfl
theorem slices_Concat_int.r6 (x0 : List (List Int)) (R : V.St → Option (List Int)) (v6_1 : Int) (v6_3 : Int) (v6_4 : Int) : V.loopF slices_Concat_int.E Tryz.f273.ntmps [1, 1, 0, 1, 0] [] (V.codeOf Tryz.f273) (slices_Concat_int.kt x0) R (slices_Concat_int.s6 x0 v6_1 v6_3 v6_4) = slices_Concat_int.g6 x0 (fun v6_1 v6_3 v6_4 => R (slices_Concat_int.s6 x0 v6_1 v6_3 v6_4)) (fun v22_1 v22_2 v22_3 => V.loopN (V.loopF slices_Concat_int.E Tryz.f273.ntmps [1, 1, 1, 1, 0, 1, 0] [] (V.codeOf Tryz.f273) (slices_Concat_int.kt x0)) V.KK (slices_Concat_int.s22 x0 v22_1 v22_2 v22_3)) v6_1 v6_3 v6_4 := by kernel_rfl
theorem slices_Concat_int.e6 (x0 : List (List Int)) : ∀ (n : Nat) (v6_1 : Int) (v6_3 : Int) (v6_4 : Int), V.loopN (V.loopF slices_Concat_int.E Tryz.f273.ntmps [1, 1, 0, 1, 0] [] (V.codeOf Tryz.f273) (slices_Concat_int.kt x0)) n (slices_Concat_int.s6 x0 v6_1 v6_3 v6_4) = slices_Concat_int.l6 x0 n v6_1 v6_3 v6_4 := by
  intro n
  induction n with
  | zero => intros; rfl
  | succ n ih =>
    intro v6_1 v6_3 v6_4
    show V.loopF slices_Concat_int.E Tryz.f273.ntmps [1, 1, 0, 1, 0] [] (V.codeOf Tryz.f273) (slices_Concat_int.kt x0) (V.loopN (V.loopF slices_Concat_int.E Tryz.f273.ntmps [1, 1, 0, 1, 0] [] (V.codeOf Tryz.f273) (slices_Concat_int.kt x0)) n) (slices_Concat_int.s6 x0 v6_1 v6_3 v6_4) = _
    rw [slices_Concat_int.r6]
    simp only [slices_Concat_int.e22, ih]
    rfl
theorem slices_Concat_int.v (x0 : List (List Int)) : V.evBody slices_Concat_int.E slices_Concat_int.con Tryz.f273 ((x0) : List (List Int)) = slices_Concat_int.b x0 (fun v6_1 v6_3 v6_4 => V.loopN (V.loopF slices_Concat_int.E Tryz.f273.ntmps [1, 1, 0, 1, 0] [] (V.codeOf Tryz.f273) (slices_Concat_int.kt x0)) V.KK (slices_Concat_int.s6 x0 v6_1 v6_3 v6_4)) := by kernel_rfl
theorem slices_Concat_int.eq (x0 : List (List Int)) : V.evBody slices_Concat_int.E slices_Concat_int.con Tryz.f273 ((x0) : List (List Int)) = slices_Concat_int x0 := by
  rw [slices_Concat_int.v]
  simp only [slices_Concat_int.e6]
  rfl
theorem slices_Concat_int.ok : V.Valid Tryz.prog 273 slices_Concat_int.con :=
  V.body_ok (V.env_ok V.mixed V.tysOk (V.tab_cons slices_Grow_int.ok V.tab_nil)) Tryz.func273 (by kernel_rfl) (by kernel_rfl) (by kernel_rfl) (fun x y h => (show V.evBody slices_Concat_int.E slices_Concat_int.con Tryz.f273 x = _ from slices_Concat_int.eq x).trans h)
noncomputable abbrev impl_HeadInts.con : V.Con := ⟨V.A2, (.cons (.sl (.cons (.int .i64) .nil)) .nil), fun (x : V.D2) => impl_HeadInts (V.p2_0 x), [], [(true, 16)], [(false, 1)], [true], []⟩
noncomputable abbrev impl_HeadInts.E : V.Env := V.mkE V.tys [(273, slices_Concat_int.con), (274, impl_KeysInts.con), (275, impl_bit.con)] [] [(1, 33)] [] [] []
noncomputable abbrev impl_HeadInts.kt (x0 : THead) : V.Kt (List Int) := V.ktOf impl_HeadInts.E impl_HeadInts.con Tryz.f222 (V.fl2 x0)
noncomputable abbrev impl_HeadInts.s (x0 : THead) : V.St := ⟨[(0, .v true [.val (.int .i64 x0.1), .val (.int .i64 x0.2.1), .val (.int .i64 x0.2.2.1), .val (.int .i64 x0.2.2.2.1), .val (.int .i64 x0.2.2.2.2.1), .val (.int .i64 x0.2.2.2.2.2.1), .val (.int .i64 x0.2.2.2.2.2.2.1), .val (.int .i64 x0.2.2.2.2.2.2.2.1), .val (.sl (.cons (.int .i64) .nil) x0.2.2.2.2.2.2.2.2.1), .val (.int .i64 x0.2.2.2.2.2.2.2.2.2.1), .val (.sl (.cons (.int .i64) .nil) x0.2.2.2.2.2.2.2.2.2.2.1), .val (.int .i64 x0.2.2.2.2.2.2.2.2.2.2.2.1), .val (.int .i64 x0.2.2.2.2.2.2.2.2.2.2.2.2.1), .val (.sl (.cons (.int .i64) .nil) x0.2.2.2.2.2.2.2.2.2.2.2.2.2.1), .val (.int .i64 x0.2.2.2.2.2.2.2.2.2.2.2.2.2.2.1), .val (.bool x0.2.2.2.2.2.2.2.2.2.2.2.2.2.2.2)])], []⟩
theorem impl_HeadInts.v0 (x0 : THead) : V.evBody impl_HeadInts.E impl_HeadInts.con Tryz.f222 (V.fl2 x0) = V.evC impl_HeadInts.E Tryz.f222.ntmps (V.codeOf Tryz.f222) (impl_HeadInts.kt x0) (impl_HeadInts.s x0) := by kernel_rfl
theorem impl_HeadInts.v (x0 : THead) : V.evC impl_HeadInts.E Tryz.f222.ntmps (V.codeOf Tryz.f222) (impl_HeadInts.kt x0) (impl_HeadInts.s x0) = impl_HeadInts x0 := by kernel_rfl
theorem impl_HeadInts.eq (x0 : THead) : V.evBody impl_HeadInts.E impl_HeadInts.con Tryz.f222 (V.fl2 x0) = impl_HeadInts x0 := (impl_HeadInts.v0 x0).trans (impl_HeadInts.v x0)
theorem impl_HeadInts.ok : V.Valid Tryz.prog 222 impl_HeadInts.con :=
  V.body_ok (V.env_ok V.mixed V.tysOk (V.tab_cons slices_Concat_int.ok (V.tab_cons impl_KeysInts.ok (V.tab_cons impl_bit.ok V.tab_nil)))) Tryz.func222 (by kernel_rfl) (by kernel_rfl) (by kernel_rfl) (fun x y h => (show V.evBody impl_HeadInts.E impl_HeadInts.con Tryz.f222 x = _ from impl_HeadInts.eq (V.p2_0 x)).trans h)
noncomputable abbrev impl_KeyedHash.con : V.Con := ⟨(.cons (.int .i64) (.cons (.sl (.cons (.int .i64) .nil)) .nil)), (.cons (.int .i64) .nil), fun (x : Int × List Int) => impl_KeyedHash x.1 x.2, [], [(false, 1), (false, 1)], [(false, 1)], [false], []⟩
noncomputable abbrev impl_KeyedHash.E : V.Env := V.mkE V.tys [(261, impl_Hash.con), (273, slices_Concat_int.con)] [] [] [128320] [] []
noncomputable abbrev impl_KeyedHash.kt (x0 : Int) (x1 : List Int) : V.Kt Int := V.ktOf impl_KeyedHash.E impl_KeyedHash.con Tryz.f231 ((x0, x1) : Int × List Int)
theorem impl_KeyedHash.eq (x0 : Int) (x1 : List Int) : V.evBody impl_KeyedHash.E impl_KeyedHash.con Tryz.f231 ((x0, x1) : Int × List Int) = impl_KeyedHash x0 x1 := by kernel_rfl
theorem impl_KeyedHash.ok : V.Valid Tryz.prog 231 impl_KeyedHash.con :=
  V.body_ok (V.env_ok V.mixed V.tysOk (V.tab_cons impl_Hash.ok (V.tab_cons slices_Concat_int.ok V.tab_nil))) Tryz.func231 (by kernel_rfl) (by kernel_rfl) (by kernel_rfl) (fun x y h => (show V.evBody impl_KeyedHash.E impl_KeyedHash.con Tryz.f231 x = _ from impl_KeyedHash.eq x.1 x.2).trans h)
noncomputable abbrev impl_TagOf.con : V.Con := ⟨(.cons (.int .i64) (.cons (.sl (.cons (.int .i64) .nil)) .nil)), (.cons (.int .i64) .nil), fun (x : Int × List Int) => impl_TagOf x.1 x.2, [], [(false, 1), (false, 1)], [(false, 1)], [false], []⟩
noncomputable abbrev impl_TagOf.E : V.Env := V.mkE V.tys [(231, impl_KeyedHash.con)] [] [] [] [] []
noncomputable abbrev impl_TagOf.kt (x0 : Int) (x1 : List Int) : V.Kt Int := V.ktOf impl_TagOf.E impl_TagOf.con Tryz.f148 ((x0, x1) : Int × List Int)
theorem impl_TagOf.eq (x0 : Int) (x1 : List Int) : V.evBody impl_TagOf.E impl_TagOf.con Tryz.f148 ((x0, x1) : Int × List Int) = impl_TagOf x0 x1 := by kernel_rfl
theorem impl_TagOf.ok : V.Valid Tryz.prog 148 impl_TagOf.con :=
  V.body_ok (V.env_ok V.mixed V.tysOk (V.tab_cons impl_KeyedHash.ok V.tab_nil)) Tryz.func148 (by kernel_rfl) (by kernel_rfl) (by kernel_rfl) (fun x y h => (show V.evBody impl_TagOf.E impl_TagOf.con Tryz.f148 x = _ from impl_TagOf.eq x.1 x.2).trans h)
noncomputable abbrev impl_IsSigBy.con : V.Con := ⟨(.cons (.int .i64) (.cons (.int .i64) (.cons (.sl (.cons (.int .i64) .nil)) .nil))), (.cons .bool .nil), fun (x : Int × Int × List Int) => impl_IsSigBy (x.1, x.2.1) x.2.2, [], [(true, 2), (false, 1)], [(false, 1)], [false], []⟩
noncomputable abbrev impl_IsSigBy.E : V.Env := V.mkE V.tys [(148, impl_TagOf.con), (227, impl_isKey.con)] [] [(1, 10)] [] [] []
noncomputable abbrev impl_IsSigBy.kt (x0 : TSig) (x1 : List Int) : V.Kt Bool := V.ktOf impl_IsSigBy.E impl_IsSigBy.con Tryz.f305 ((x0.1, x0.2, x1) : Int × Int × List Int)
theorem impl_IsSigBy.eq (x0 : TSig) (x1 : List Int) : V.evBody impl_IsSigBy.E impl_IsSigBy.con Tryz.f305 ((x0.1, x0.2, x1) : Int × Int × List Int) = impl_IsSigBy x0 x1 := by kernel_rfl
theorem impl_IsSigBy.ok : V.Valid Tryz.prog 305 impl_IsSigBy.con :=
  V.body_ok (V.env_ok V.mixed V.tysOk (V.tab_cons impl_TagOf.ok (V.tab_cons impl_isKey.ok V.tab_nil))) Tryz.func305 (by kernel_rfl) (by kernel_rfl) (by kernel_rfl) (fun x y h => (show V.evBody impl_IsSigBy.E impl_IsSigBy.con Tryz.f305 x = _ from impl_IsSigBy.eq (x.1, x.2.1) x.2.2).trans h)
noncomputable abbrev impl_CountSigs_1.con : V.Con := ⟨(.cons (.int .i64) (.cons (.int .i64) (.cons (.ptr (.cons (.int .i64) .nil)) (.cons (.ptr (.cons (.sl (.cons (.int .i64) .nil)) .nil)) .nil)))), (.cons .bool .nil), fun (x : Int × Int × Int × List Int) => impl_CountSigs_1 (x.1, x.2.1) x.2.2.1 x.2.2.2, [], [(true, 2), (false, 1), (false, 1)], [(false, 1)], [false], []⟩
noncomputable abbrev impl_CountSigs_1.E : V.Env := V.mkE V.tys [(305, impl_IsSigBy.con)] [] [] [] [] []
noncomputable abbrev impl_CountSigs_1.kt (x0 : TSig) (x1 : Int) (x2 : List Int) : V.Kt Bool := V.ktOf impl_CountSigs_1.E impl_CountSigs_1.con Tryz.f304 ((x0.1, x0.2, x1, x2) : Int × Int × Int × List Int)
theorem impl_CountSigs_1.eq (x0 : TSig) (x1 : Int) (x2 : List Int) : V.evBody impl_CountSigs_1.E impl_CountSigs_1.con Tryz.f304 ((x0.1, x0.2, x1, x2) : Int × Int × Int × List Int) = impl_CountSigs_1 x0 x1 x2 := by kernel_rfl
theorem impl_CountSigs_1.ok : V.Valid Tryz.prog 304 impl_CountSigs_1.con :=
  V.body_ok (V.env_ok V.mixed V.tysOk (V.tab_cons impl_IsSigBy.ok V.tab_nil)) Tryz.func304 (by kernel_rfl) (by kernel_rfl) (by kernel_rfl) (fun x y h => (show V.evBody impl_CountSigs_1.E impl_CountSigs_1.con Tryz.f304 x = _ from impl_CountSigs_1.eq (x.1, x.2.1) x.2.2.1 x.2.2.2).trans h)
noncomputable abbrev slices_IndexFunc_impl_Sig__CountSigs_1.con : V.Con := ⟨(.cons (.sl (.cons (.int .i64) (.cons (.int .i64) .nil))) (.cons (.fn 304 false .nil (.cons (.ptr (.cons (.int .i64) .nil)) (.cons (.ptr (.cons (.sl (.cons (.int .i64) .nil)) .nil)) .nil))) .nil)), (.cons (.int .i64) .nil), fun (x : List TSig × (Unit) × (Int × List Int)) => slices_IndexFunc_impl_Sig__CountSigs_1 x.1 x.2, [], [(false, 1), (false, 1)], [(false, 1)], [false], []⟩
noncomputable abbrev slices_IndexFunc_impl_Sig__CountSigs_1.E : V.Env := V.mkE V.tys [(304, impl_CountSigs_1.con)] [(4, [0, 1, 7, 8], [])] [] [] [] []
noncomputable abbrev slices_IndexFunc_impl_Sig__CountSigs_1.kt (x0 : List TSig) (x1 : (Unit) × (Int × List Int)) : V.Kt Int := V.ktOf slices_IndexFunc_impl_Sig__CountSigs_1.E slices_IndexFunc_impl_Sig__CountSigs_1.con Tryz.f306 ((x0, x1) : List TSig × (Unit) × (Int × List Int))
noncomputable abbrev slices_IndexFunc_impl_Sig__CountSigs_1.s4 (x0 : List TSig) (x1 : (Unit) × (Int × List Int)) (v4_2 : Int) (v4_3 : Int) : V.St := ⟨[(0, .v false [.val (.sl (.cons (.int .i64) (.cons (.int .i64) .nil)) x0)]), (1, .v false [.val (.fn 304 false .nil (.cons (.ptr (.cons (.int .i64) .nil)) (.cons (.ptr (.cons (.sl (.cons (.int .i64) .nil)) .nil)) .nil)) () x1.2)]), (7, .v false [.val (.int .i64 v4_2)]), (8, .v false [.val (.int .i64 v4_3)])], []⟩
theorem slices_IndexFunc_impl_Sig__CountSigs_1.r4 (x0 : List TSig) (x1 : (Unit) × (Int × List Int)) (R : V.St → Option Int) (v4_2 : Int) (v4_3 : Int) : V.loopF slices_IndexFunc_impl_Sig__CountSigs_1.E Tryz.f306.ntmps [1, 0, 1, 0] [] (V.codeOf Tryz.f306) (slices_IndexFunc_impl_Sig__CountSigs_1.kt x0 x1) R (slices_IndexFunc_impl_Sig__CountSigs_1.s4 x0 x1 v4_2 v4_3) = slices_IndexFunc_impl_Sig__CountSigs_1.g4 x0 x1 (fun v4_2 v4_3 => R (slices_IndexFunc_impl_Sig__CountSigs_1.s4 x0 x1 v4_2 v4_3)) v4_2 v4_3 := by kernel_rfl
theorem slices_IndexFunc_impl_Sig__CountSigs_1.e4 (x0 : List TSig) (x1 : (Unit) × (Int × List Int)) : ∀ (n : Nat) (v4_2 : Int) (v4_3 : Int), V.loopN (V.loopF slices_IndexFunc_impl_Sig__CountSigs_1.E Tryz.f306.ntmps [1, 0, 1, 0] [] (V.codeOf Tryz.f306) (slices_IndexFunc_impl_Sig__CountSigs_1.kt x0 x1)) n (slices_IndexFunc_impl_Sig__CountSigs_1.s4 x0 x1 v4_2 v4_3) = slices_IndexFunc_impl_Sig__CountSigs_1.l4 x0 x1 n v4_2 v4_3 := by
  intro n
  induction n with
  | zero => intros; rfl
  | succ n ih =>
    intro v4_2 v4_3
    show V.loopF slices_IndexFunc_impl_Sig__CountSigs_1.E Tryz.f306.ntmps [1, 0, 1, 0] [] (V.codeOf Tryz.f306) (slices_IndexFunc_impl_Sig__CountSigs_1.kt x0 x1) (V.loopN (V.loopF slices_IndexFunc_impl_Sig__CountSigs_1.E Tryz.f306.ntmps [1, 0, 1, 0] [] (V.codeOf Tryz.f306) (slices_IndexFunc_impl_Sig__CountSigs_1.kt x0 x1)) n) (slices_IndexFunc_impl_Sig__CountSigs_1.s4 x0 x1 v4_2 v4_3) = _
    rw [slices_IndexFunc_impl_Sig__CountSigs_1.r4]
    simp only [ih]
    rfl
theorem slices_IndexFunc_impl_Sig__CountSigs_1.v (x0 : List TSig) (x1 : (Unit) × (Int × List Int)) : V.evBody slices_IndexFunc_impl_Sig__CountSigs_1.E slices_IndexFunc_impl_Sig__CountSigs_1.con Tryz.f306 ((x0, x1) : List TSig × (Unit) × (Int × List Int)) = slices_IndexFunc_impl_Sig__CountSigs_1.b x0 x1 (fun v4_2 v4_3 => V.loopN (V.loopF slices_IndexFunc_impl_Sig__CountSigs_1.E Tryz.f306.ntmps [1, 0, 1, 0] [] (V.codeOf Tryz.f306) (slices_IndexFunc_impl_Sig__CountSigs_1.kt x0 x1)) V.KK (slices_IndexFunc_impl_Sig__CountSigs_1.s4 x0 x1 v4_2 v4_3)) := by kernel_rfl
theorem slices_IndexFunc_impl_Sig__CountSigs_1.eq (x0 : List TSig) (x1 : (Unit) × (Int × List Int)) : V.evBody slices_IndexFunc_impl_Sig__CountSigs_1.E slices_IndexFunc_impl_Sig__CountSigs_1.con Tryz.f306 ((x0, x1) : List TSig × (Unit) × (Int × List Int)) = slices_IndexFunc_impl_Sig__CountSigs_1 x0 x1 := by
  rw [slices_IndexFunc_impl_Sig__CountSigs_1.v]
  simp only [slices_IndexFunc_impl_Sig__CountSigs_1.e4]
  rfl
theorem slices_IndexFunc_impl_Sig__CountSigs_1.ok : V.Valid Tryz.prog 306 slices_IndexFunc_impl_Sig__CountSigs_1.con :=
  V.body_ok (V.env_ok V.mixed V.tysOk (V.tab_cons impl_CountSigs_1.ok V.tab_nil)) Tryz.func306 (by kernel_rfl) (by kernel_rfl) (by kernel_rfl) (fun x y h => (show V.evBody slices_IndexFunc_impl_Sig__CountSigs_1.E slices_IndexFunc_impl_Sig__CountSigs_1.con Tryz.f306 x = _ from slices_IndexFunc_impl_Sig__CountSigs_1.eq x.1 x.2).trans h)
noncomputable abbrev slices_ContainsFunc_impl_Sig__CountSigs_1.con : V.Con := ⟨(.cons (.sl (.cons (.int .i64) (.cons (.int .i64) .nil))) (.cons (.fn 304 false .nil (.cons (.ptr (.cons (.int .i64) .nil)) (.cons (.ptr (.cons (.sl (.cons (.int .i64) .nil)) .nil)) .nil))) .nil)), (.cons .bool .nil), fun (x : List TSig × (Unit) × (Int × List Int)) => slices_ContainsFunc_impl_Sig__CountSigs_1 x.1 x.2, [], [(false, 1), (false, 1)], [(false, 1)], [false], []⟩
noncomputable abbrev slices_ContainsFunc_impl_Sig__CountSigs_1.E : V.Env := V.mkE V.tys [(306, slices_IndexFunc_impl_Sig__CountSigs_1.con)] [] [] [] [] []
noncomputable abbrev slices_ContainsFunc_impl_Sig__CountSigs_1.kt (x0 : List TSig) (x1 : (Unit) × (Int × List Int)) : V.Kt Bool := V.ktOf slices_ContainsFunc_impl_Sig__CountSigs_1.E slices_ContainsFunc_impl_Sig__CountSigs_1.con Tryz.f303 ((x0, x1) : List TSig × (Unit) × (Int × List Int))
theorem slices_ContainsFunc_impl_Sig__CountSigs_1.eq (x0 : List TSig) (x1 : (Unit) × (Int × List Int)) : V.evBody slices_ContainsFunc_impl_Sig__CountSigs_1.E slices_ContainsFunc_impl_Sig__CountSigs_1.con Tryz.f303 ((x0, x1) : List TSig × (Unit) × (Int × List Int)) = slices_ContainsFunc_impl_Sig__CountSigs_1 x0 x1 := by kernel_rfl
theorem slices_ContainsFunc_impl_Sig__CountSigs_1.ok : V.Valid Tryz.prog 303 slices_ContainsFunc_impl_Sig__CountSigs_1.con :=
  V.body_ok (V.env_ok V.mixed V.tysOk (V.tab_cons slices_IndexFunc_impl_Sig__CountSigs_1.ok V.tab_nil)) Tryz.func303 (by kernel_rfl) (by kernel_rfl) (by kernel_rfl) (fun x y h => (show V.evBody slices_ContainsFunc_impl_Sig__CountSigs_1.E slices_ContainsFunc_impl_Sig__CountSigs_1.con Tryz.f303 x = _ from slices_ContainsFunc_impl_Sig__CountSigs_1.eq x.1 x.2).trans h)
noncomputable abbrev impl_CountSigs.con : V.Con := ⟨(.cons (.sl (.cons (.int .i64) .nil)) (.cons (.int .i64) (.cons (.sl (.cons (.int .i64) .nil)) (.cons (.sl (.cons (.int .i64) (.cons (.int .i64) .nil))) .nil)))), (.cons (.int .i64) .nil), fun (x : List Int × Int × List Int × List TSig) => impl_CountSigs (x.1, x.2.1) x.2.2.1 x.2.2.2, [], [(true, 2), (false, 1), (false, 1)], [(false, 1)], [false], []⟩
noncomputable abbrev impl_CountSigs.E : V.Env := V.mkE V.tys [(303, slices_ContainsFunc_impl_Sig__CountSigs_1.con)] [(6, [2, 4, 7, 11, 12, 13], [])] [] [] [] []
noncomputable abbrev impl_CountSigs.kt (x0 : TKeys) (x1 : List Int) (x2 : List TSig) : V.Kt Int := V.ktOf impl_CountSigs.E impl_CountSigs.con Tryz.f300 ((x0.1, x0.2, x1, x2) : List Int × Int × List Int × List TSig)
noncomputable abbrev impl_CountSigs.s6 (x0 : TKeys) (x1 : List Int) (x2 : List TSig) (v6_1 : Int) (v6_3 : Int) (v6_4 : Int) : V.St := ⟨[(2, .v false [.val (.sl (.cons (.int .i64) (.cons (.int .i64) .nil)) x2)]), (4, .v false [.ptr 64064 0]), (7, .v false [.val (.int .i64 v6_1)]), (11, .v false [.val (.sl (.cons (.int .i64) .nil) x0.1)]), (12, .v false [.val (.int .i64 v6_3)]), (13, .v false [.val (.int .i64 v6_4)])], [(64064, .box [.val (.sl (.cons (.int .i64) .nil) x1)])]⟩
theorem impl_CountSigs.r6 (x0 : TKeys) (x1 : List Int) (x2 : List TSig) (R : V.St → Option Int) (v6_1 : Int) (v6_3 : Int) (v6_4 : Int) : V.loopF impl_CountSigs.E Tryz.f300.ntmps [1, 1, 0, 1, 0] [] (V.codeOf Tryz.f300) (impl_CountSigs.kt x0 x1 x2) R (impl_CountSigs.s6 x0 x1 x2 v6_1 v6_3 v6_4) = impl_CountSigs.g6 x0 x1 x2 (fun v6_1 v6_3 v6_4 => R (impl_CountSigs.s6 x0 x1 x2 v6_1 v6_3 v6_4)) v6_1 v6_3 v6_4 := by kernel_rfl
theorem impl_CountSigs.e6 (x0 : TKeys) (x1 : List Int) (x2 : List TSig) : ∀ (n : Nat) (v6_1 : Int) (v6_3 : Int) (v6_4 : Int), V.loopN (V.loopF impl_CountSigs.E Tryz.f300.ntmps [1, 1, 0, 1, 0] [] (V.codeOf Tryz.f300) (impl_CountSigs.kt x0 x1 x2)) n (impl_CountSigs.s6 x0 x1 x2 v6_1 v6_3 v6_4) = impl_CountSigs.l6 x0 x1 x2 n v6_1 v6_3 v6_4 := by
  intro n
  induction n with
  | zero => intros; rfl
  | succ n ih =>
    intro v6_1 v6_3 v6_4
    show V.loopF impl_CountSigs.E Tryz.f300.ntmps [1, 1, 0, 1, 0] [] (V.codeOf Tryz.f300) (impl_CountSigs.kt x0 x1 x2) (V.loopN (V.loopF impl_CountSigs.E Tryz.f300.ntmps [1, 1, 0, 1, 0] [] (V.codeOf Tryz.f300) (impl_CountSigs.kt x0 x1 x2)) n) (impl_CountSigs.s6 x0 x1 x2 v6_1 v6_3 v6_4) = _
    rw [impl_CountSigs.r6]
    simp only [ih]
    rfl
theorem impl_CountSigs.v (x0 : TKeys) (x1 : List Int) (x2 : List TSig) : V.evBody impl_CountSigs.E impl_CountSigs.con Tryz.f300 ((x0.1, x0.2, x1, x2) : List Int × Int × List Int × List TSig) = impl_CountSigs.b x0 x1 x2 (fun v6_1 v6_3 v6_4 => V.loopN (V.loopF impl_CountSigs.E Tryz.f300.ntmps [1, 1, 0, 1, 0] [] (V.codeOf Tryz.f300) (impl_CountSigs.kt x0 x1 x2)) V.KK (impl_CountSigs.s6 x0 x1 x2 v6_1 v6_3 v6_4)) := by kernel_rfl
theorem impl_CountSigs.eq (x0 : TKeys) (x1 : List Int) (x2 : List TSig) : V.evBody impl_CountSigs.E impl_CountSigs.con Tryz.f300 ((x0.1, x0.2, x1, x2) : List Int × Int × List Int × List TSig) = impl_CountSigs x0 x1 x2 := by
  rw [impl_CountSigs.v]
  simp only [impl_CountSigs.e6]
  rfl
theorem impl_CountSigs.ok : V.Valid Tryz.prog 300 impl_CountSigs.con :=
  V.body_ok (V.env_ok V.mixed V.tysOk (V.tab_cons slices_ContainsFunc_impl_Sig__CountSigs_1.ok V.tab_nil)) Tryz.func300 (by kernel_rfl) (by kernel_rfl) (by kernel_rfl) (fun x y h => (show V.evBody impl_CountSigs.E impl_CountSigs.con Tryz.f300 x = _ from impl_CountSigs.eq (x.1, x.2.1) x.2.2.1 x.2.2.2).trans h)
noncomputable abbrev impl_IsSigned.con : V.Con := ⟨(.cons (.sl (.cons (.int .i64) .nil)) (.cons (.int .i64) (.cons (.sl (.cons (.int .i64) .nil)) (.cons (.sl (.cons (.int .i64) (.cons (.int .i64) .nil))) .nil)))), (.cons .bool .nil), fun (x : List Int × Int × List Int × List TSig) => impl_IsSigned (x.1, x.2.1) x.2.2.1 x.2.2.2, [], [(true, 2), (false, 1), (false, 1)], [(false, 1)], [false], []⟩
noncomputable abbrev impl_IsSigned.E : V.Env := V.mkE V.tys [(257, impl_IsKeys.con), (300, impl_CountSigs.con)] [] [(1, 9)] [] [] []
noncomputable abbrev impl_IsSigned.kt (x0 : TKeys) (x1 : List Int) (x2 : List TSig) : V.Kt Bool := V.ktOf impl_IsSigned.E impl_IsSigned.con Tryz.f293 ((x0.1, x0.2, x1, x2) : List Int × Int × List Int × List TSig)
theorem impl_IsSigned.eq (x0 : TKeys) (x1 : List Int) (x2 : List TSig) : V.evBody impl_IsSigned.E impl_IsSigned.con Tryz.f293 ((x0.1, x0.2, x1, x2) : List Int × Int × List Int × List TSig) = impl_IsSigned x0 x1 x2 := by kernel_rfl
theorem impl_IsSigned.ok : V.Valid Tryz.prog 293 impl_IsSigned.con :=
  V.body_ok (V.env_ok V.mixed V.tysOk (V.tab_cons impl_IsKeys.ok (V.tab_cons impl_CountSigs.ok V.tab_nil))) Tryz.func293 (by kernel_rfl) (by kernel_rfl) (by kernel_rfl) (fun x y h => (show V.evBody impl_IsSigned.E impl_IsSigned.con Tryz.f293 x = _ from impl_IsSigned.eq (x.1, x.2.1) x.2.2.1 x.2.2.2).trans h)
noncomputable abbrev impl_Signed_isSignedBy.con : V.Con := ⟨V.A7, (.cons .bool .nil), fun (x : V.D7) => impl_Signed_isSignedBy (V.p7_0 x) (V.p7_1 x), [], [(true, 17), (true, 2)], [(false, 1)], [false], []⟩
noncomputable abbrev impl_Signed_isSignedBy.E : V.Env := V.mkE V.tys [(222, impl_HeadInts.con), (293, impl_IsSigned.con)] [] [(1, 6)] [] [] []
noncomputable abbrev impl_Signed_isSignedBy.kt (x0 : TSigned) (x1 : TKeys) : V.Kt Bool := V.ktOf impl_Signed_isSignedBy.E impl_Signed_isSignedBy.con Tryz.f271 (V.fl7 x0 x1)
noncomputable abbrev impl_Signed_isSignedBy.s (x0 : TSigned) (x1 : TKeys) : V.St := ⟨[(0, .v true [.val (.int .i64 x0.1), .val (.int .i64 x0.2.1), .val (.int .i64 x0.2.2.1), .val (.int .i64 x0.2.2.2.1), .val (.int .i64 x0.2.2.2.2.1), .val (.int .i64 x0.2.2.2.2.2.1), .val (.int .i64 x0.2.2.2.2.2.2.1), .val (.int .i64 x0.2.2.2.2.2.2.2.1), .val (.sl (.cons (.int .i64) .nil) x0.2.2.2.2.2.2.2.2.1), .val (.int .i64 x0.2.2.2.2.2.2.2.2.2.1), .val (.sl (.cons (.int .i64) .nil) x0.2.2.2.2.2.2.2.2.2.2.1), .val (.int .i64 x0.2.2.2.2.2.2.2.2.2.2.2.1), .val (.int .i64 x0.2.2.2.2.2.2.2.2.2.2.2.2.1), .val (.sl (.cons (.int .i64) .nil) x0.2.2.2.2.2.2.2.2.2.2.2.2.2.1), .val (.int .i64 x0.2.2.2.2.2.2.2.2.2.2.2.2.2.2.1), .val (.bool x0.2.2.2.2.2.2.2.2.2.2.2.2.2.2.2.1), .val (.sl (.cons (.int .i64) (.cons (.int .i64) .nil)) x0.2.2.2.2.2.2.2.2.2.2.2.2.2.2.2.2)]), (1, .v true [.val (.sl (.cons (.int .i64) .nil) x1.1), .val (.int .i64 x1.2)])], []⟩
theorem impl_Signed_isSignedBy.v0 (x0 : TSigned) (x1 : TKeys) : V.evBody impl_Signed_isSignedBy.E impl_Signed_isSignedBy.con Tryz.f271 (V.fl7 x0 x1) = V.evC impl_Signed_isSignedBy.E Tryz.f271.ntmps (V.codeOf Tryz.f271) (impl_Signed_isSignedBy.kt x0 x1) (impl_Signed_isSignedBy.s x0 x1) := by kernel_rfl
theorem impl_Signed_isSignedBy.v (x0 : TSigned) (x1 : TKeys) : V.evC impl_Signed_isSignedBy.E Tryz.f271.ntmps (V.codeOf Tryz.f271) (impl_Signed_isSignedBy.kt x0 x1) (impl_Signed_isSignedBy.s x0 x1) = impl_Signed_isSignedBy x0 x1 := by kernel_rfl
theorem impl_Signed_isSignedBy.eq (x0 : TSigned) (x1 : TKeys) : V.evBody impl_Signed_isSignedBy.E impl_Signed_isSignedBy.con Tryz.f271 (V.fl7 x0 x1) = impl_Signed_isSignedBy x0 x1 := (impl_Signed_isSignedBy.v0 x0 x1).trans (impl_Signed_isSignedBy.v x0 x1)
theorem impl_Signed_isSignedBy.ok : V.Valid Tryz.prog 271 impl_Signed_isSignedBy.con :=
  V.body_ok (V.env_ok V.mixed V.tysOk (V.tab_cons impl_HeadInts.ok (V.tab_cons impl_IsSigned.ok V.tab_nil))) Tryz.func271 (by kernel_rfl) (by kernel_rfl) (by kernel_rfl) (fun x y h => (show V.evBody impl_Signed_isSignedBy.E impl_Signed_isSignedBy.con Tryz.f271 x = _ from impl_Signed_isSignedBy.eq (V.p7_0 x) (V.p7_1 x)).trans h)
noncomputable abbrev impl_IsFirst.con : V.Con := ⟨V.A3, (.cons .bool .nil), fun (x : V.D3) => impl_IsFirst (V.p3_0 x), [], [(true, 17)], [(false, 1)], [false], []⟩
noncomputable abbrev impl_IsFirst.E : V.Env := V.mkE V.tys [(196, impl_IsHead.con), (236, impl_ZoneOf.con), (271, impl_Signed_isSignedBy.con)] [] [(2, 31)] [] [] []
noncomputable abbrev impl_IsFirst.kt (x0 : TSigned) : V.Kt Bool := V.ktOf impl_IsFirst.E impl_IsFirst.con Tryz.f243 (V.fl3 x0)
noncomputable abbrev impl_IsFirst.s (x0 : TSigned) : V.St := ⟨[(0, .v true [.val (.int .i64 x0.1), .val (.int .i64 x0.2.1), .val (.int .i64 x0.2.2.1), .val (.int .i64 x0.2.2.2.1), .val (.int .i64 x0.2.2.2.2.1), .val (.int .i64 x0.2.2.2.2.2.1), .val (.int .i64 x0.2.2.2.2.2.2.1), .val (.int .i64 x0.2.2.2.2.2.2.2.1), .val (.sl (.cons (.int .i64) .nil) x0.2.2.2.2.2.2.2.2.1), .val (.int .i64 x0.2.2.2.2.2.2.2.2.2.1), .val (.sl (.cons (.int .i64) .nil) x0.2.2.2.2.2.2.2.2.2.2.1), .val (.int .i64 x0.2.2.2.2.2.2.2.2.2.2.2.1), .val (.int .i64 x0.2.2.2.2.2.2.2.2.2.2.2.2.1), .val (.sl (.cons (.int .i64) .nil) x0.2.2.2.2.2.2.2.2.2.2.2.2.2.1), .val (.int .i64 x0.2.2.2.2.2.2.2.2.2.2.2.2.2.2.1), .val (.bool x0.2.2.2.2.2.2.2.2.2.2.2.2.2.2.2.1), .val (.sl (.cons (.int .i64) (.cons (.int .i64) .nil)) x0.2.2.2.2.2.2.2.2.2.2.2.2.2.2.2.2)])], []⟩
theorem impl_IsFirst.v0 (x0 : TSigned) : V.evBody impl_IsFirst.E impl_IsFirst.con Tryz.f243 (V.fl3 x0) = V.evC impl_IsFirst.E Tryz.f243.ntmps (V.codeOf Tryz.f243) (impl_IsFirst.kt x0) (impl_IsFirst.s x0) := by kernel_rfl
theorem impl_IsFirst.v (x0 : TSigned) : V.evC impl_IsFirst.E Tryz.f243.ntmps (V.codeOf Tryz.f243) (impl_IsFirst.kt x0) (impl_IsFirst.s x0) = impl_IsFirst x0 := by kernel_rfl
theorem impl_IsFirst.eq (x0 : TSigned) : V.evBody impl_IsFirst.E impl_IsFirst.con Tryz.f243 (V.fl3 x0) = impl_IsFirst x0 := (impl_IsFirst.v0 x0).trans (impl_IsFirst.v x0)
theorem impl_IsFirst.ok : V.Valid Tryz.prog 243 impl_IsFirst.con :=
  V.body_ok (V.env_ok V.mixed V.tysOk (V.tab_cons impl_IsHead.ok (V.tab_cons impl_ZoneOf.ok (V.tab_cons impl_Signed_isSignedBy.ok V.tab_nil)))) Tryz.func243 (by kernel_rfl) (by kernel_rfl) (by kernel_rfl) (fun x y h => (show V.evBody impl_IsFirst.E impl_IsFirst.con Tryz.f243 x = _ from impl_IsFirst.eq (V.p3_0 x)).trans h)
noncomputable abbrev impl_HeadDigest.con : V.Con := ⟨V.A2, (.cons (.int .i64) .nil), fun (x : V.D2) => impl_HeadDigest (V.p2_0 x), [], [(true, 16)], [(false, 1)], [false], []⟩
noncomputable abbrev impl_HeadDigest.E : V.Env := V.mkE V.tys [(222, impl_HeadInts.con), (261, impl_Hash.con)] [] [] [] [] []
noncomputable abbrev impl_HeadDigest.kt (x0 : THead) : V.Kt Int := V.ktOf impl_HeadDigest.E impl_HeadDigest.con Tryz.f198 (V.fl2 x0)
noncomputable abbrev impl_HeadDigest.s (x0 : THead) : V.St := ⟨[(0, .v true [.val (.int .i64 x0.1), .val (.int .i64 x0.2.1), .val (.int .i64 x0.2.2.1), .val (.int .i64 x0.2.2.2.1), .val (.int .i64 x0.2.2.2.2.1), .val (.int .i64 x0.2.2.2.2.2.1), .val (.int .i64 x0.2.2.2.2.2.2.1), .val (.int .i64 x0.2.2.2.2.2.2.2.1), .val (.sl (.cons (.int .i64) .nil) x0.2.2.2.2.2.2.2.2.1), .val (.int .i64 x0.2.2.2.2.2.2.2.2.2.1), .val (.sl (.cons (.int .i64) .nil) x0.2.2.2.2.2.2.2.2.2.2.1), .val (.int .i64 x0.2.2.2.2.2.2.2.2.2.2.2.1), .val (.int .i64 x0.2.2.2.2.2.2.2.2.2.2.2.2.1), .val (.sl (.cons (.int .i64) .nil) x0.2.2.2.2.2.2.2.2.2.2.2.2.2.1), .val (.int .i64 x0.2.2.2.2.2.2.2.2.2.2.2.2.2.2.1), .val (.bool x0.2.2.2.2.2.2.2.2.2.2.2.2.2.2.2)])], []⟩
theorem impl_HeadDigest.v0 (x0 : THead) : V.evBody impl_HeadDigest.E impl_HeadDigest.con Tryz.f198 (V.fl2 x0) = V.evC impl_HeadDigest.E Tryz.f198.ntmps (V.codeOf Tryz.f198) (impl_HeadDigest.kt x0) (impl_HeadDigest.s x0) := by kernel_rfl
theorem impl_HeadDigest.v (x0 : THead) : V.evC impl_HeadDigest.E Tryz.f198.ntmps (V.codeOf Tryz.f198) (impl_HeadDigest.kt x0) (impl_HeadDigest.s x0) = impl_HeadDigest x0 := by kernel_rfl
theorem impl_HeadDigest.eq (x0 : THead) : V.evBody impl_HeadDigest.E impl_HeadDigest.con Tryz.f198 (V.fl2 x0) = impl_HeadDigest x0 := (impl_HeadDigest.v0 x0).trans (impl_HeadDigest.v x0)
theorem impl_HeadDigest.ok : V.Valid Tryz.prog 198 impl_HeadDigest.con :=
  V.body_ok (V.env_ok V.mixed V.tysOk (V.tab_cons impl_HeadInts.ok (V.tab_cons impl_Hash.ok V.tab_nil))) Tryz.func198 (by kernel_rfl) (by kernel_rfl) (by kernel_rfl) (fun x y h => (show V.evBody impl_HeadDigest.E impl_HeadDigest.con Tryz.f198 x = _ from impl_HeadDigest.eq (V.p2_0 x)).trans h)
noncomputable abbrev impl_isNext.con : V.Con := ⟨V.A4, (.cons .bool .nil), fun (x : V.D4) => impl_isNext (V.p4_0 x) (V.p4_1 x), [], [(true, 16), (true, 16)], [(false, 1)], [false], []⟩
noncomputable abbrev impl_isNext.E : V.Env := V.mkE V.tys [(198, impl_HeadDigest.con)] [] [(1, 25)] [] [] []
noncomputable abbrev impl_isNext.kt (x0 : THead) (x1 : THead) : V.Kt Bool := V.ktOf impl_isNext.E impl_isNext.con Tryz.f214 (V.fl4 x0 x1)
noncomputable abbrev impl_isNext.s (x0 : THead) (x1 : THead) : V.St := ⟨[(0, .v true [.val (.int .i64 x0.1), .val (.int .i64 x0.2.1), .val (.int .i64 x0.2.2.1), .val (.int .i64 x0.2.2.2.1), .val (.int .i64 x0.2.2.2.2.1), .val (.int .i64 x0.2.2.2.2.2.1), .val (.int .i64 x0.2.2.2.2.2.2.1), .val (.int .i64 x0.2.2.2.2.2.2.2.1), .val (.sl (.cons (.int .i64) .nil) x0.2.2.2.2.2.2.2.2.1), .val (.int .i64 x0.2.2.2.2.2.2.2.2.2.1), .val (.sl (.cons (.int .i64) .nil) x0.2.2.2.2.2.2.2.2.2.2.1), .val (.int .i64 x0.2.2.2.2.2.2.2.2.2.2.2.1), .val (.int .i64 x0.2.2.2.2.2.2.2.2.2.2.2.2.1), .val (.sl (.cons (.int .i64) .nil) x0.2.2.2.2.2.2.2.2.2.2.2.2.2.1), .val (.int .i64 x0.2.2.2.2.2.2.2.2.2.2.2.2.2.2.1), .val (.bool x0.2.2.2.2.2.2.2.2.2.2.2.2.2.2.2)]), (1, .v true [.val (.int .i64 x1.1), .val (.int .i64 x1.2.1), .val (.int .i64 x1.2.2.1), .val (.int .i64 x1.2.2.2.1), .val (.int .i64 x1.2.2.2.2.1), .val (.int .i64 x1.2.2.2.2.2.1), .val (.int .i64 x1.2.2.2.2.2.2.1), .val (.int .i64 x1.2.2.2.2.2.2.2.1), .val (.sl (.cons (.int .i64) .nil) x1.2.2.2.2.2.2.2.2.1), .val (.int .i64 x1.2.2.2.2.2.2.2.2.2.1), .val (.sl (.cons (.int .i64) .nil) x1.2.2.2.2.2.2.2.2.2.2.1), .val (.int .i64 x1.2.2.2.2.2.2.2.2.2.2.2.1), .val (.int .i64 x1.2.2.2.2.2.2.2.2.2.2.2.2.1), .val (.sl (.cons (.int .i64) .nil) x1.2.2.2.2.2.2.2.2.2.2.2.2.2.1), .val (.int .i64 x1.2.2.2.2.2.2.2.2.2.2.2.2.2.2.1), .val (.bool x1.2.2.2.2.2.2.2.2.2.2.2.2.2.2.2)])], []⟩
theorem impl_isNext.v0 (x0 : THead) (x1 : THead) : V.evBody impl_isNext.E impl_isNext.con Tryz.f214 (V.fl4 x0 x1) = V.evC impl_isNext.E Tryz.f214.ntmps (V.codeOf Tryz.f214) (impl_isNext.kt x0 x1) (impl_isNext.s x0 x1) := by kernel_rfl
theorem impl_isNext.v (x0 : THead) (x1 : THead) : V.evC impl_isNext.E Tryz.f214.ntmps (V.codeOf Tryz.f214) (impl_isNext.kt x0 x1) (impl_isNext.s x0 x1) = impl_isNext x0 x1 := by kernel_rfl
theorem impl_isNext.eq (x0 : THead) (x1 : THead) : V.evBody impl_isNext.E impl_isNext.con Tryz.f214 (V.fl4 x0 x1) = impl_isNext x0 x1 := (impl_isNext.v0 x0 x1).trans (impl_isNext.v x0 x1)
theorem impl_isNext.ok : V.Valid Tryz.prog 214 impl_isNext.con :=
  V.body_ok (V.env_ok V.mixed V.tysOk (V.tab_cons impl_HeadDigest.ok V.tab_nil)) Tryz.func214 (by kernel_rfl) (by kernel_rfl) (by kernel_rfl) (fun x y h => (show V.evBody impl_isNext.E impl_isNext.con Tryz.f214 x = _ from impl_isNext.eq (V.p4_0 x) (V.p4_1 x)).trans h)
noncomputable abbrev impl_ownerCode.con : V.Con := ⟨V.A5, (.cons (.int .i64) .nil), fun (x : V.D5) => impl_ownerCode (V.p5_0 x) (V.p5_1 x), [], [(true, 16), (true, 17)], [(false, 1)], [false], []⟩
noncomputable abbrev impl_ownerCode.E : V.Env := V.mkE V.tys [(271, impl_Signed_isSignedBy.con)] [] [] [] [] []
noncomputable abbrev impl_ownerCode.kt (x0 : THead) (x1 : TSigned) : V.Kt Int := V.ktOf impl_ownerCode.E impl_ownerCode.con Tryz.f215 (V.fl5 x0 x1)
noncomputable abbrev impl_ownerCode.s (x0 : THead) (x1 : TSigned) : V.St := ⟨[(0, .v true [.val (.int .i64 x0.1), .val (.int .i64 x0.2.1), .val (.int .i64 x0.2.2.1), .val (.int .i64 x0.2.2.2.1), .val (.int .i64 x0.2.2.2.2.1), .val (.int .i64 x0.2.2.2.2.2.1), .val (.int .i64 x0.2.2.2.2.2.2.1), .val (.int .i64 x0.2.2.2.2.2.2.2.1), .val (.sl (.cons (.int .i64) .nil) x0.2.2.2.2.2.2.2.2.1), .val (.int .i64 x0.2.2.2.2.2.2.2.2.2.1), .val (.sl (.cons (.int .i64) .nil) x0.2.2.2.2.2.2.2.2.2.2.1), .val (.int .i64 x0.2.2.2.2.2.2.2.2.2.2.2.1), .val (.int .i64 x0.2.2.2.2.2.2.2.2.2.2.2.2.1), .val (.sl (.cons (.int .i64) .nil) x0.2.2.2.2.2.2.2.2.2.2.2.2.2.1), .val (.int .i64 x0.2.2.2.2.2.2.2.2.2.2.2.2.2.2.1), .val (.bool x0.2.2.2.2.2.2.2.2.2.2.2.2.2.2.2)]), (1, .v true [.val (.int .i64 x1.1), .val (.int .i64 x1.2.1), .val (.int .i64 x1.2.2.1), .val (.int .i64 x1.2.2.2.1), .val (.int .i64 x1.2.2.2.2.1), .val (.int .i64 x1.2.2.2.2.2.1), .val (.int .i64 x1.2.2.2.2.2.2.1), .val (.int .i64 x1.2.2.2.2.2.2.2.1), .val (.sl (.cons (.int .i64) .nil) x1.2.2.2.2.2.2.2.2.1), .val (.int .i64 x1.2.2.2.2.2.2.2.2.2.1), .val (.sl (.cons (.int .i64) .nil) x1.2.2.2.2.2.2.2.2.2.2.1), .val (.int .i64 x1.2.2.2.2.2.2.2.2.2.2.2.1), .val (.int .i64 x1.2.2.2.2.2.2.2.2.2.2.2.2.1), .val (.sl (.cons (.int .i64) .nil) x1.2.2.2.2.2.2.2.2.2.2.2.2.2.1), .val (.int .i64 x1.2.2.2.2.2.2.2.2.2.2.2.2.2.2.1), .val (.bool x1.2.2.2.2.2.2.2.2.2.2.2.2.2.2.2.1), .val (.sl (.cons (.int .i64) (.cons (.int .i64) .nil)) x1.2.2.2.2.2.2.2.2.2.2.2.2.2.2.2.2)])], []⟩
theorem impl_ownerCode.v0 (x0 : THead) (x1 : TSigned) : V.evBody impl_ownerCode.E impl_ownerCode.con Tryz.f215 (V.fl5 x0 x1) = V.evC impl_ownerCode.E Tryz.f215.ntmps (V.codeOf Tryz.f215) (impl_ownerCode.kt x0 x1) (impl_ownerCode.s x0 x1) := by kernel_rfl
theorem impl_ownerCode.v (x0 : THead) (x1 : TSigned) : V.evC impl_ownerCode.E Tryz.f215.ntmps (V.codeOf Tryz.f215) (impl_ownerCode.kt x0 x1) (impl_ownerCode.s x0 x1) = impl_ownerCode x0 x1 := by kernel_rfl
theorem impl_ownerCode.eq (x0 : THead) (x1 : TSigned) : V.evBody impl_ownerCode.E impl_ownerCode.con Tryz.f215 (V.fl5 x0 x1) = impl_ownerCode x0 x1 := (impl_ownerCode.v0 x0 x1).trans (impl_ownerCode.v x0 x1)
theorem impl_ownerCode.ok : V.Valid Tryz.prog 215 impl_ownerCode.con :=
  V.body_ok (V.env_ok V.mixed V.tysOk (V.tab_cons impl_Signed_isSignedBy.ok V.tab_nil)) Tryz.func215 (by kernel_rfl) (by kernel_rfl) (by kernel_rfl) (fun x y h => (show V.evBody impl_ownerCode.E impl_ownerCode.con Tryz.f215 x = _ from impl_ownerCode.eq (V.p5_0 x) (V.p5_1 x)).trans h)
noncomputable abbrev slices_Equal_int.con : V.Con := ⟨(.cons (.sl (.cons (.int .i64) .nil)) (.cons (.sl (.cons (.int .i64) .nil)) .nil)), (.cons .bool .nil), fun (x : List Int × List Int) => slices_Equal_int x.1 x.2, [], [(false, 1), (false, 1)], [(false, 1)], [false], []⟩
noncomputable abbrev slices_Equal_int.E : V.Env := V.mkE V.tys [] [(8, [0, 1, 12, 13], [])] [(6, 8)] [] [] []
noncomputable abbrev slices_Equal_int.kt (x0 : List Int) (x1 : List Int) : V.Kt Bool := V.ktOf slices_Equal_int.E slices_Equal_int.con Tryz.f221 ((x0, x1) : List Int × List Int)
noncomputable abbrev slices_Equal_int.s8 (x0 : List Int) (x1 : List Int) (v8_2 : Int) (v8_3 : Int) : V.St := ⟨[(0, .v false [.val (.sl (.cons (.int .i64) .nil) x0)]), (1, .v false [.val (.sl (.cons (.int .i64) .nil) x1)]), (12, .v false [.val (.int .i64 v8_2)]), (13, .v false [.val (.int .i64 v8_3)])], []⟩
theorem slices_Equal_int.r8 (x0 : List Int) (x1 : List Int) (R : V.St → Option Bool) (v8_2 : Int) (v8_3 : Int) : V.loopF slices_Equal_int.E Tryz.f221.ntmps [1, 1, 0, 1, 0] [] (V.codeOf Tryz.f221) (slices_Equal_int.kt x0 x1) R (slices_Equal_int.s8 x0 x1 v8_2 v8_3) = slices_Equal_int.g8 x0 x1 (fun v8_2 v8_3 => R (slices_Equal_int.s8 x0 x1 v8_2 v8_3)) v8_2 v8_3 := by kernel_rfl
theorem slices_Equal_int.e8 (x0 : List Int) (x1 : List Int) : ∀ (n : Nat) (v8_2 : Int) (v8_3 : Int), V.loopN (V.loopF slices_Equal_int.E Tryz.f221.ntmps [1, 1, 0, 1, 0] [] (V.codeOf Tryz.f221) (slices_Equal_int.kt x0 x1)) n (slices_Equal_int.s8 x0 x1 v8_2 v8_3) = slices_Equal_int.l8 x0 x1 n v8_2 v8_3 := by
  intro n
  induction n with
  | zero => intros; rfl
  | succ n ih =>
    intro v8_2 v8_3
    show V.loopF slices_Equal_int.E Tryz.f221.ntmps [1, 1, 0, 1, 0] [] (V.codeOf Tryz.f221) (slices_Equal_int.kt x0 x1) (V.loopN (V.loopF slices_Equal_int.E Tryz.f221.ntmps [1, 1, 0, 1, 0] [] (V.codeOf Tryz.f221) (slices_Equal_int.kt x0 x1)) n) (slices_Equal_int.s8 x0 x1 v8_2 v8_3) = _
    rw [slices_Equal_int.r8]
    simp only [ih]
    rfl
theorem slices_Equal_int.v (x0 : List Int) (x1 : List Int) : V.evBody slices_Equal_int.E slices_Equal_int.con Tryz.f221 ((x0, x1) : List Int × List Int) = slices_Equal_int.b x0 x1 (fun v8_2 v8_3 => V.loopN (V.loopF slices_Equal_int.E Tryz.f221.ntmps [1, 1, 0, 1, 0] [] (V.codeOf Tryz.f221) (slices_Equal_int.kt x0 x1)) V.KK (slices_Equal_int.s8 x0 x1 v8_2 v8_3)) := by kernel_rfl
theorem slices_Equal_int.eq (x0 : List Int) (x1 : List Int) : V.evBody slices_Equal_int.E slices_Equal_int.con Tryz.f221 ((x0, x1) : List Int × List Int) = slices_Equal_int x0 x1 := by
  rw [slices_Equal_int.v]
  simp only [slices_Equal_int.e8]
  rfl
theorem slices_Equal_int.ok : V.Valid Tryz.prog 221 slices_Equal_int.con :=
  V.body_ok (V.env_ok V.mixed V.tysOk V.tab_nil) Tryz.func221 (by kernel_rfl) (by kernel_rfl) (by kernel_rfl) (fun x y h => (show V.evBody slices_Equal_int.E slices_Equal_int.con Tryz.f221 x = _ from slices_Equal_int.eq x.1 x.2).trans h)
noncomputable abbrev impl_EqualKeys.con : V.Con := ⟨(.cons (.sl (.cons (.int .i64) .nil)) (.cons (.int .i64) (.cons (.sl (.cons (.int .i64) .nil)) (.cons (.int .i64) .nil)))), (.cons .bool .nil), fun (x : List Int × Int × List Int × Int) => impl_EqualKeys (x.1, x.2.1) x.2.2, [], [(true, 2), (true, 2)], [(false, 1)], [false], []⟩
noncomputable abbrev impl_EqualKeys.E : V.Env := V.mkE V.tys [(221, slices_Equal_int.con)] [] [] [] [] []
noncomputable abbrev impl_EqualKeys.kt (x0 : TKeys) (x1 : TKeys) : V.Kt Bool := V.ktOf impl_EqualKeys.E impl_EqualKeys.con Tryz.f220 ((x0.1, x0.2, x1.1, x1.2) : List Int × Int × List Int × Int)
theorem impl_EqualKeys.eq (x0 : TKeys) (x1 : TKeys) : V.evBody impl_EqualKeys.E impl_EqualKeys.con Tryz.f220 ((x0.1, x0.2, x1.1, x1.2) : List Int × Int × List Int × Int) = impl_EqualKeys x0 x1 := by kernel_rfl
theorem impl_EqualKeys.ok : V.Valid Tryz.prog 220 impl_EqualKeys.con :=
  V.body_ok (V.env_ok V.mixed V.tysOk (V.tab_cons slices_Equal_int.ok V.tab_nil)) Tryz.func220 (by kernel_rfl) (by kernel_rfl) (by kernel_rfl) (fun x y h => (show V.evBody impl_EqualKeys.E impl_EqualKeys.con Tryz.f220 x = _ from impl_EqualKeys.eq (x.1, x.2.1) x.2.2).trans h)
noncomputable abbrev impl_SameContents.con : V.Con := ⟨V.A4, (.cons .bool .nil), fun (x : V.D4) => impl_SameContents (V.p4_0 x) (V.p4_1 x), [], [(true, 16), (true, 16)], [(false, 1)], [false], []⟩
noncomputable abbrev impl_SameContents.E : V.Env := V.mkE V.tys [] [] [] [] [] []
noncomputable abbrev impl_SameContents.kt (x0 : THead) (x1 : THead) : V.Kt Bool := V.ktOf impl_SameContents.E impl_SameContents.con Tryz.f272 (V.fl4 x0 x1)
noncomputable abbrev impl_SameContents.s (x0 : THead) (x1 : THead) : V.St := ⟨[(0, .v true [.val (.int .i64 x0.1), .val (.int .i64 x0.2.1), .val (.int .i64 x0.2.2.1), .val (.int .i64 x0.2.2.2.1), .val (.int .i64 x0.2.2.2.2.1), .val (.int .i64 x0.2.2.2.2.2.1), .val (.int .i64 x0.2.2.2.2.2.2.1), .val (.int .i64 x0.2.2.2.2.2.2.2.1), .val (.sl (.cons (.int .i64) .nil) x0.2.2.2.2.2.2.2.2.1), .val (.int .i64 x0.2.2.2.2.2.2.2.2.2.1), .val (.sl (.cons (.int .i64) .nil) x0.2.2.2.2.2.2.2.2.2.2.1), .val (.int .i64 x0.2.2.2.2.2.2.2.2.2.2.2.1), .val (.int .i64 x0.2.2.2.2.2.2.2.2.2.2.2.2.1), .val (.sl (.cons (.int .i64) .nil) x0.2.2.2.2.2.2.2.2.2.2.2.2.2.1), .val (.int .i64 x0.2.2.2.2.2.2.2.2.2.2.2.2.2.2.1), .val (.bool x0.2.2.2.2.2.2.2.2.2.2.2.2.2.2.2)]), (1, .v true [.val (.int .i64 x1.1), .val (.int .i64 x1.2.1), .val (.int .i64 x1.2.2.1), .val (.int .i64 x1.2.2.2.1), .val (.int .i64 x1.2.2.2.2.1), .val (.int .i64 x1.2.2.2.2.2.1), .val (.int .i64 x1.2.2.2.2.2.2.1), .val (.int .i64 x1.2.2.2.2.2.2.2.1), .val (.sl (.cons (.int .i64) .nil) x1.2.2.2.2.2.2.2.2.1), .val (.int .i64 x1.2.2.2.2.2.2.2.2.2.1), .val (.sl (.cons (.int .i64) .nil) x1.2.2.2.2.2.2.2.2.2.2.1), .val (.int .i64 x1.2.2.2.2.2.2.2.2.2.2.2.1), .val (.int .i64 x1.2.2.2.2.2.2.2.2.2.2.2.2.1), .val (.sl (.cons (.int .i64) .nil) x1.2.2.2.2.2.2.2.2.2.2.2.2.2.1), .val (.int .i64 x1.2.2.2.2.2.2.2.2.2.2.2.2.2.2.1), .val (.bool x1.2.2.2.2.2.2.2.2.2.2.2.2.2.2.2)])], []⟩
theorem impl_SameContents.v0 (x0 : THead) (x1 : THead) : V.evBody impl_SameContents.E impl_SameContents.con Tryz.f272 (V.fl4 x0 x1) = V.evC impl_SameContents.E Tryz.f272.ntmps (V.codeOf Tryz.f272) (impl_SameContents.kt x0 x1) (impl_SameContents.s x0 x1) := by kernel_rfl
theorem impl_SameContents.v (x0 : THead) (x1 : THead) : V.evC impl_SameContents.E Tryz.f272.ntmps (V.codeOf Tryz.f272) (impl_SameContents.kt x0 x1) (impl_SameContents.s x0 x1) = impl_SameContents x0 x1 := by kernel_rfl
theorem impl_SameContents.eq (x0 : THead) (x1 : THead) : V.evBody impl_SameContents.E impl_SameContents.con Tryz.f272 (V.fl4 x0 x1) = impl_SameContents x0 x1 := (impl_SameContents.v0 x0 x1).trans (impl_SameContents.v x0 x1)
theorem impl_SameContents.ok : V.Valid Tryz.prog 272 impl_SameContents.con :=
  V.body_ok (V.env_ok V.mixed V.tysOk V.tab_nil) Tryz.func272 (by kernel_rfl) (by kernel_rfl) (by kernel_rfl) (fun x y h => (show V.evBody impl_SameContents.E impl_SameContents.con Tryz.f272 x = _ from impl_SameContents.eq (V.p4_0 x) (V.p4_1 x)).trans h)
noncomputable abbrev impl_heirCode.con : V.Con := ⟨V.A5, (.cons (.int .i64) .nil), fun (x : V.D5) => impl_heirCode (V.p5_0 x) (V.p5_1 x), [], [(true, 16), (true, 17)], [(false, 1)], [false], []⟩
noncomputable abbrev impl_heirCode.E : V.Env := V.mkE V.tys [(220, impl_EqualKeys.con), (260, impl_NoKeys.con), (271, impl_Signed_isSignedBy.con), (272, impl_SameContents.con)] [(11, [2, 3, 5, 11], []), (15, [2, 3, 25], [])] [] [] [] []
noncomputable abbrev impl_heirCode.kt (x0 : THead) (x1 : TSigned) : V.Kt Int := V.ktOf impl_heirCode.E impl_heirCode.con Tryz.f216 (V.fl5 x0 x1)
noncomputable abbrev impl_heirCode.s15 (x0 : THead) (x1 : TSigned) (v15_0 : Bool) : V.St := ⟨[(2, .v false [.ptr 64000 0]), (3, .v false [.ptr 64064 0]), (25, .v false [.val (.bool v15_0)])], [(64000, .box [.val (.int .i64 x0.1), .val (.int .i64 x0.2.1), .val (.int .i64 x0.2.2.1), .val (.int .i64 x0.2.2.2.1), .val (.int .i64 x0.2.2.2.2.1), .val (.int .i64 x0.2.2.2.2.2.1), .val (.int .i64 x0.2.2.2.2.2.2.1), .val (.int .i64 x0.2.2.2.2.2.2.2.1), .val (.sl (.cons (.int .i64) .nil) x0.2.2.2.2.2.2.2.2.1), .val (.int .i64 x0.2.2.2.2.2.2.2.2.2.1), .val (.sl (.cons (.int .i64) .nil) x0.2.2.2.2.2.2.2.2.2.2.1), .val (.int .i64 x0.2.2.2.2.2.2.2.2.2.2.2.1), .val (.int .i64 x0.2.2.2.2.2.2.2.2.2.2.2.2.1), .val (.sl (.cons (.int .i64) .nil) x0.2.2.2.2.2.2.2.2.2.2.2.2.2.1), .val (.int .i64 x0.2.2.2.2.2.2.2.2.2.2.2.2.2.2.1), .val (.bool x0.2.2.2.2.2.2.2.2.2.2.2.2.2.2.2)]), (64064, .box [.val (.int .i64 x1.1), .val (.int .i64 x1.2.1), .val (.int .i64 x1.2.2.1), .val (.int .i64 x1.2.2.2.1), .val (.int .i64 x1.2.2.2.2.1), .val (.int .i64 x1.2.2.2.2.2.1), .val (.int .i64 x1.2.2.2.2.2.2.1), .val (.int .i64 x1.2.2.2.2.2.2.2.1), .val (.sl (.cons (.int .i64) .nil) x1.2.2.2.2.2.2.2.2.1), .val (.int .i64 x1.2.2.2.2.2.2.2.2.2.1), .val (.sl (.cons (.int .i64) .nil) x1.2.2.2.2.2.2.2.2.2.2.1), .val (.int .i64 x1.2.2.2.2.2.2.2.2.2.2.2.1), .val (.int .i64 x1.2.2.2.2.2.2.2.2.2.2.2.2.1), .val (.sl (.cons (.int .i64) .nil) x1.2.2.2.2.2.2.2.2.2.2.2.2.2.1), .val (.int .i64 x1.2.2.2.2.2.2.2.2.2.2.2.2.2.2.1), .val (.bool x1.2.2.2.2.2.2.2.2.2.2.2.2.2.2.2.1), .val (.sl (.cons (.int .i64) (.cons (.int .i64) .nil)) x1.2.2.2.2.2.2.2.2.2.2.2.2.2.2.2.2)])]⟩
noncomputable abbrev impl_heirCode.s11 (x0 : THead) (x1 : TSigned) (v11_0 : Bool) : V.St := ⟨[(2, .v false [.ptr 64000 0]), (3, .v false [.ptr 64064 0]), (5, .v false [.ptr 128128 0]), (11, .v false [.val (.bool v11_0)])], [(64000, .box [.val (.int .i64 x0.1), .val (.int .i64 x0.2.1), .val (.int .i64 x0.2.2.1), .val (.int .i64 x0.2.2.2.1), .val (.int .i64 x0.2.2.2.2.1), .val (.int .i64 x0.2.2.2.2.2.1), .val (.int .i64 x0.2.2.2.2.2.2.1), .val (.int .i64 x0.2.2.2.2.2.2.2.1), .val (.sl (.cons (.int .i64) .nil) x0.2.2.2.2.2.2.2.2.1), .val (.int .i64 x0.2.2.2.2.2.2.2.2.2.1), .val (.sl (.cons (.int .i64) .nil) x0.2.2.2.2.2.2.2.2.2.2.1), .val (.int .i64 x0.2.2.2.2.2.2.2.2.2.2.2.1), .val (.int .i64 x0.2.2.2.2.2.2.2.2.2.2.2.2.1), .val (.sl (.cons (.int .i64) .nil) x0.2.2.2.2.2.2.2.2.2.2.2.2.2.1), .val (.int .i64 x0.2.2.2.2.2.2.2.2.2.2.2.2.2.2.1), .val (.bool x0.2.2.2.2.2.2.2.2.2.2.2.2.2.2.2)]), (64064, .box [.val (.int .i64 x1.1), .val (.int .i64 x1.2.1), .val (.int .i64 x1.2.2.1), .val (.int .i64 x1.2.2.2.1), .val (.int .i64 x1.2.2.2.2.1), .val (.int .i64 x1.2.2.2.2.2.1), .val (.int .i64 x1.2.2.2.2.2.2.1), .val (.int .i64 x1.2.2.2.2.2.2.2.1), .val (.sl (.cons (.int .i64) .nil) x1.2.2.2.2.2.2.2.2.1), .val (.int .i64 x1.2.2.2.2.2.2.2.2.2.1), .val (.sl (.cons (.int .i64) .nil) x1.2.2.2.2.2.2.2.2.2.2.1), .val (.int .i64 x1.2.2.2.2.2.2.2.2.2.2.2.1), .val (.int .i64 x1.2.2.2.2.2.2.2.2.2.2.2.2.1), .val (.sl (.cons (.int .i64) .nil) x1.2.2.2.2.2.2.2.2.2.2.2.2.2.1), .val (.int .i64 x1.2.2.2.2.2.2.2.2.2.2.2.2.2.2.1), .val (.bool x1.2.2.2.2.2.2.2.2.2.2.2.2.2.2.2.1), .val (.sl (.cons (.int .i64) (.cons (.int .i64) .nil)) x1.2.2.2.2.2.2.2.2.2.2.2.2.2.2.2.2)]), (128128, .box [.val (.int .i64 x1.1), .val (.int .i64 x1.2.1), .val (.int .i64 x1.2.2.1), .val (.int .i64 x1.2.2.2.1), .val (.int .i64 x1.2.2.2.2.1), .val (.int .i64 x1.2.2.2.2.2.1), .val (.int .i64 x1.2.2.2.2.2.2.1), .val (.int .i64 x1.2.2.2.2.2.2.2.1), .val (.sl (.cons (.int .i64) .nil) x1.2.2.2.2.2.2.2.2.1), .val (.int .i64 x1.2.2.2.2.2.2.2.2.2.1), .val (.sl (.cons (.int .i64) .nil) x1.2.2.2.2.2.2.2.2.2.2.1), .val (.int .i64 x1.2.2.2.2.2.2.2.2.2.2.2.1), .val (.int .i64 x1.2.2.2.2.2.2.2.2.2.2.2.2.1), .val (.sl (.cons (.int .i64) .nil) x1.2.2.2.2.2.2.2.2.2.2.2.2.2.1), .val (.int .i64 x1.2.2.2.2.2.2.2.2.2.2.2.2.2.2.1), .val (.bool x1.2.2.2.2.2.2.2.2.2.2.2.2.2.2.2.1)])]⟩
theorem impl_heirCode.r15 (x0 : THead) (x1 : TSigned) (v15_0 : Bool) : V.normK 15 ([2, 3, 25], []) (V.joinF impl_heirCode.E Tryz.f216.ntmps [1, 1, 0, 0, 1, 1, 1, 1] [] (V.codeOf Tryz.f216) (impl_heirCode.kt x0 x1)) (impl_heirCode.s15 x0 x1 v15_0) = impl_heirCode.g15 x0 x1 v15_0 := by kernel_rfl
theorem impl_heirCode.e15 (x0 : THead) (x1 : TSigned) (v15_0 : Bool) : V.normK 15 ([2, 3, 25], []) (V.joinF impl_heirCode.E Tryz.f216.ntmps [1, 1, 0, 0, 1, 1, 1, 1] [] (V.codeOf Tryz.f216) (impl_heirCode.kt x0 x1)) (impl_heirCode.s15 x0 x1 v15_0) = impl_heirCode.l15 x0 x1 v15_0 := by
  rw [impl_heirCode.r15]
  rfl
theorem impl_heirCode.r11 (x0 : THead) (x1 : TSigned) (v11_0 : Bool) : V.normK 11 ([2, 3, 5, 11], []) (V.joinF impl_heirCode.E Tryz.f216.ntmps [1, 1, 0, 0, 1, 1] [] (V.codeOf Tryz.f216) (impl_heirCode.kt x0 x1)) (impl_heirCode.s11 x0 x1 v11_0) = impl_heirCode.g11 x0 x1 (fun v15_0 => V.normK 15 ([2, 3, 25], []) (V.joinF impl_heirCode.E Tryz.f216.ntmps [1, 1, 0, 0, 1, 1, 1, 1] [] (V.codeOf Tryz.f216) (impl_heirCode.kt x0 x1)) (impl_heirCode.s15 x0 x1 v15_0)) v11_0 := by kernel_rfl
theorem impl_heirCode.e11 (x0 : THead) (x1 : TSigned) (v11_0 : Bool) : V.normK 11 ([2, 3, 5, 11], []) (V.joinF impl_heirCode.E Tryz.f216.ntmps [1, 1, 0, 0, 1, 1] [] (V.codeOf Tryz.f216) (impl_heirCode.kt x0 x1)) (impl_heirCode.s11 x0 x1 v11_0) = impl_heirCode.l11 x0 x1 v11_0 := by
  rw [impl_heirCode.r11]
  simp only [impl_heirCode.e15]
  rfl
noncomputable abbrev impl_heirCode.s (x0 : THead) (x1 : TSigned) : V.St := ⟨[(0, .v true [.val (.int .i64 x0.1), .val (.int .i64 x0.2.1), .val (.int .i64 x0.2.2.1), .val (.int .i64 x0.2.2.2.1), .val (.int .i64 x0.2.2.2.2.1), .val (.int .i64 x0.2.2.2.2.2.1), .val (.int .i64 x0.2.2.2.2.2.2.1), .val (.int .i64 x0.2.2.2.2.2.2.2.1), .val (.sl (.cons (.int .i64) .nil) x0.2.2.2.2.2.2.2.2.1), .val (.int .i64 x0.2.2.2.2.2.2.2.2.2.1), .val (.sl (.cons (.int .i64) .nil) x0.2.2.2.2.2.2.2.2.2.2.1), .val (.int .i64 x0.2.2.2.2.2.2.2.2.2.2.2.1), .val (.int .i64 x0.2.2.2.2.2.2.2.2.2.2.2.2.1), .val (.sl (.cons (.int .i64) .nil) x0.2.2.2.2.2.2.2.2.2.2.2.2.2.1), .val (.int .i64 x0.2.2.2.2.2.2.2.2.2.2.2.2.2.2.1), .val (.bool x0.2.2.2.2.2.2.2.2.2.2.2.2.2.2.2)]), (1, .v true [.val (.int .i64 x1.1), .val (.int .i64 x1.2.1), .val (.int .i64 x1.2.2.1), .val (.int .i64 x1.2.2.2.1), .val (.int .i64 x1.2.2.2.2.1), .val (.int .i64 x1.2.2.2.2.2.1), .val (.int .i64 x1.2.2.2.2.2.2.1), .val (.int .i64 x1.2.2.2.2.2.2.2.1), .val (.sl (.cons (.int .i64) .nil) x1.2.2.2.2.2.2.2.2.1), .val (.int .i64 x1.2.2.2.2.2.2.2.2.2.1), .val (.sl (.cons (.int .i64) .nil) x1.2.2.2.2.2.2.2.2.2.2.1), .val (.int .i64 x1.2.2.2.2.2.2.2.2.2.2.2.1), .val (.int .i64 x1.2.2.2.2.2.2.2.2.2.2.2.2.1), .val (.sl (.cons (.int .i64) .nil) x1.2.2.2.2.2.2.2.2.2.2.2.2.2.1), .val (.int .i64 x1.2.2.2.2.2.2.2.2.2.2.2.2.2.2.1), .val (.bool x1.2.2.2.2.2.2.2.2.2.2.2.2.2.2.2.1), .val (.sl (.cons (.int .i64) (.cons (.int .i64) .nil)) x1.2.2.2.2.2.2.2.2.2.2.2.2.2.2.2.2)])], []⟩
theorem impl_heirCode.v0 (x0 : THead) (x1 : TSigned) : V.evBody impl_heirCode.E impl_heirCode.con Tryz.f216 (V.fl5 x0 x1) = V.evC impl_heirCode.E Tryz.f216.ntmps (V.codeOf Tryz.f216) (impl_heirCode.kt x0 x1) (impl_heirCode.s x0 x1) := by kernel_rfl
theorem impl_heirCode.v (x0 : THead) (x1 : TSigned) : V.evC impl_heirCode.E Tryz.f216.ntmps (V.codeOf Tryz.f216) (impl_heirCode.kt x0 x1) (impl_heirCode.s x0 x1) = impl_heirCode.b x0 x1 (fun v11_0 => V.normK 11 ([2, 3, 5, 11], []) (V.joinF impl_heirCode.E Tryz.f216.ntmps [1, 1, 0, 0, 1, 1] [] (V.codeOf Tryz.f216) (impl_heirCode.kt x0 x1)) (impl_heirCode.s11 x0 x1 v11_0)) := by kernel_rfl
theorem impl_heirCode.eq (x0 : THead) (x1 : TSigned) : V.evBody impl_heirCode.E impl_heirCode.con Tryz.f216 (V.fl5 x0 x1) = impl_heirCode x0 x1 := by
  rw [impl_heirCode.v0, impl_heirCode.v]
  simp only [impl_heirCode.e11]
  rfl
theorem impl_heirCode.ok : V.Valid Tryz.prog 216 impl_heirCode.con :=
  V.body_ok (V.env_ok V.mixed V.tysOk (V.tab_cons impl_EqualKeys.ok (V.tab_cons impl_NoKeys.ok (V.tab_cons impl_Signed_isSignedBy.ok (V.tab_cons impl_SameContents.ok V.tab_nil))))) Tryz.func216 (by kernel_rfl) (by kernel_rfl) (by kernel_rfl) (fun x y h => (show V.evBody impl_heirCode.E impl_heirCode.con Tryz.f216 x = _ from impl_heirCode.eq (V.p5_0 x) (V.p5_1 x)).trans h)
noncomputable abbrev impl_judgeCode.con : V.Con := ⟨V.A5, (.cons (.int .i64) .nil), fun (x : V.D5) => impl_judgeCode (V.p5_0 x) (V.p5_1 x), [], [(true, 16), (true, 17)], [(false, 1)], [false], []⟩
noncomputable abbrev impl_judgeCode.E : V.Env := V.mkE V.tys [(220, impl_EqualKeys.con), (260, impl_NoKeys.con), (271, impl_Signed_isSignedBy.con), (272, impl_SameContents.con)] [(7, [2, 3, 5, 6], []), (13, [2, 3, 37], [])] [] [] [] []
noncomputable abbrev impl_judgeCode.kt (x0 : THead) (x1 : TSigned) : V.Kt Int := V.ktOf impl_judgeCode.E impl_judgeCode.con Tryz.f217 (V.fl5 x0 x1)
noncomputable abbrev impl_judgeCode.s13 (x0 : THead) (x1 : TSigned) (v13_0 : Bool) : V.St := ⟨[(2, .v false [.ptr 64000 0]), (3, .v false [.ptr 64064 0]), (37, .v false [.val (.bool v13_0)])], [(64000, .box [.val (.int .i64 x0.1), .val (.int .i64 x0.2.1), .val (.int .i64 x0.2.2.1), .val (.int .i64 x0.2.2.2.1), .val (.int .i64 x0.2.2.2.2.1), .val (.int .i64 x0.2.2.2.2.2.1), .val (.int .i64 x0.2.2.2.2.2.2.1), .val (.int .i64 x0.2.2.2.2.2.2.2.1), .val (.sl (.cons (.int .i64) .nil) x0.2.2.2.2.2.2.2.2.1), .val (.int .i64 x0.2.2.2.2.2.2.2.2.2.1), .val (.sl (.cons (.int .i64) .nil) x0.2.2.2.2.2.2.2.2.2.2.1), .val (.int .i64 x0.2.2.2.2.2.2.2.2.2.2.2.1), .val (.int .i64 x0.2.2.2.2.2.2.2.2.2.2.2.2.1), .val (.sl (.cons (.int .i64) .nil) x0.2.2.2.2.2.2.2.2.2.2.2.2.2.1), .val (.int .i64 x0.2.2.2.2.2.2.2.2.2.2.2.2.2.2.1), .val (.bool x0.2.2.2.2.2.2.2.2.2.2.2.2.2.2.2)]), (64064, .box [.val (.int .i64 x1.1), .val (.int .i64 x1.2.1), .val (.int .i64 x1.2.2.1), .val (.int .i64 x1.2.2.2.1), .val (.int .i64 x1.2.2.2.2.1), .val (.int .i64 x1.2.2.2.2.2.1), .val (.int .i64 x1.2.2.2.2.2.2.1), .val (.int .i64 x1.2.2.2.2.2.2.2.1), .val (.sl (.cons (.int .i64) .nil) x1.2.2.2.2.2.2.2.2.1), .val (.int .i64 x1.2.2.2.2.2.2.2.2.2.1), .val (.sl (.cons (.int .i64) .nil) x1.2.2.2.2.2.2.2.2.2.2.1), .val (.int .i64 x1.2.2.2.2.2.2.2.2.2.2.2.1), .val (.int .i64 x1.2.2.2.2.2.2.2.2.2.2.2.2.1), .val (.sl (.cons (.int .i64) .nil) x1.2.2.2.2.2.2.2.2.2.2.2.2.2.1), .val (.int .i64 x1.2.2.2.2.2.2.2.2.2.2.2.2.2.2.1), .val (.bool x1.2.2.2.2.2.2.2.2.2.2.2.2.2.2.2.1), .val (.sl (.cons (.int .i64) (.cons (.int .i64) .nil)) x1.2.2.2.2.2.2.2.2.2.2.2.2.2.2.2.2)])]⟩
noncomputable abbrev impl_judgeCode.s7 (x0 : THead) (x1 : TSigned) (v7_0 : Bool) : V.St := ⟨[(2, .v false [.ptr 64000 0]), (3, .v false [.ptr 64064 0]), (5, .v false [.ptr 128128 0]), (6, .v false [.val (.bool v7_0)])], [(64000, .box [.val (.int .i64 x0.1), .val (.int .i64 x0.2.1), .val (.int .i64 x0.2.2.1), .val (.int .i64 x0.2.2.2.1), .val (.int .i64 x0.2.2.2.2.1), .val (.int .i64 x0.2.2.2.2.2.1), .val (.int .i64 x0.2.2.2.2.2.2.1), .val (.int .i64 x0.2.2.2.2.2.2.2.1), .val (.sl (.cons (.int .i64) .nil) x0.2.2.2.2.2.2.2.2.1), .val (.int .i64 x0.2.2.2.2.2.2.2.2.2.1), .val (.sl (.cons (.int .i64) .nil) x0.2.2.2.2.2.2.2.2.2.2.1), .val (.int .i64 x0.2.2.2.2.2.2.2.2.2.2.2.1), .val (.int .i64 x0.2.2.2.2.2.2.2.2.2.2.2.2.1), .val (.sl (.cons (.int .i64) .nil) x0.2.2.2.2.2.2.2.2.2.2.2.2.2.1), .val (.int .i64 x0.2.2.2.2.2.2.2.2.2.2.2.2.2.2.1), .val (.bool x0.2.2.2.2.2.2.2.2.2.2.2.2.2.2.2)]), (64064, .box [.val (.int .i64 x1.1), .val (.int .i64 x1.2.1), .val (.int .i64 x1.2.2.1), .val (.int .i64 x1.2.2.2.1), .val (.int .i64 x1.2.2.2.2.1), .val (.int .i64 x1.2.2.2.2.2.1), .val (.int .i64 x1.2.2.2.2.2.2.1), .val (.int .i64 x1.2.2.2.2.2.2.2.1), .val (.sl (.cons (.int .i64) .nil) x1.2.2.2.2.2.2.2.2.1), .val (.int .i64 x1.2.2.2.2.2.2.2.2.2.1), .val (.sl (.cons (.int .i64) .nil) x1.2.2.2.2.2.2.2.2.2.2.1), .val (.int .i64 x1.2.2.2.2.2.2.2.2.2.2.2.1), .val (.int .i64 x1.2.2.2.2.2.2.2.2.2.2.2.2.1), .val (.sl (.cons (.int .i64) .nil) x1.2.2.2.2.2.2.2.2.2.2.2.2.2.1), .val (.int .i64 x1.2.2.2.2.2.2.2.2.2.2.2.2.2.2.1), .val (.bool x1.2.2.2.2.2.2.2.2.2.2.2.2.2.2.2.1), .val (.sl (.cons (.int .i64) (.cons (.int .i64) .nil)) x1.2.2.2.2.2.2.2.2.2.2.2.2.2.2.2.2)]), (128128, .box [.val (.int .i64 x1.1), .val (.int .i64 x1.2.1), .val (.int .i64 x1.2.2.1), .val (.int .i64 x1.2.2.2.1), .val (.int .i64 x1.2.2.2.2.1), .val (.int .i64 x1.2.2.2.2.2.1), .val (.int .i64 x1.2.2.2.2.2.2.1), .val (.int .i64 x1.2.2.2.2.2.2.2.1), .val (.sl (.cons (.int .i64) .nil) x1.2.2.2.2.2.2.2.2.1), .val (.int .i64 x1.2.2.2.2.2.2.2.2.2.1), .val (.sl (.cons (.int .i64) .nil) x1.2.2.2.2.2.2.2.2.2.2.1), .val (.int .i64 x1.2.2.2.2.2.2.2.2.2.2.2.1), .val (.int .i64 x1.2.2.2.2.2.2.2.2.2.2.2.2.1), .val (.sl (.cons (.int .i64) .nil) x1.2.2.2.2.2.2.2.2.2.2.2.2.2.1), .val (.int .i64 x1.2.2.2.2.2.2.2.2.2.2.2.2.2.2.1), .val (.bool x1.2.2.2.2.2.2.2.2.2.2.2.2.2.2.2.1)])]⟩
theorem impl_judgeCode.r13 (x0 : THead) (x1 : TSigned) (v13_0 : Bool) : V.normK 13 ([2, 3, 37], []) (V.joinF impl_judgeCode.E Tryz.f217.ntmps [1, 1, 1, 0, 0, 1, 1] [] (V.codeOf Tryz.f217) (impl_judgeCode.kt x0 x1)) (impl_judgeCode.s13 x0 x1 v13_0) = impl_judgeCode.g13 x0 x1 v13_0 := by kernel_rfl
theorem impl_judgeCode.e13 (x0 : THead) (x1 : TSigned) (v13_0 : Bool) : V.normK 13 ([2, 3, 37], []) (V.joinF impl_judgeCode.E Tryz.f217.ntmps [1, 1, 1, 0, 0, 1, 1] [] (V.codeOf Tryz.f217) (impl_judgeCode.kt x0 x1)) (impl_judgeCode.s13 x0 x1 v13_0) = impl_judgeCode.l13 x0 x1 v13_0 := by
  rw [impl_judgeCode.r13]
  rfl
theorem impl_judgeCode.r7 (x0 : THead) (x1 : TSigned) (v7_0 : Bool) : V.normK 7 ([2, 3, 5, 6], []) (V.joinF impl_judgeCode.E Tryz.f217.ntmps [1, 1] [] (V.codeOf Tryz.f217) (impl_judgeCode.kt x0 x1)) (impl_judgeCode.s7 x0 x1 v7_0) = impl_judgeCode.g7 x0 x1 (fun v13_0 => V.normK 13 ([2, 3, 37], []) (V.joinF impl_judgeCode.E Tryz.f217.ntmps [1, 1, 1, 0, 0, 1, 1] [] (V.codeOf Tryz.f217) (impl_judgeCode.kt x0 x1)) (impl_judgeCode.s13 x0 x1 v13_0)) v7_0 := by kernel_rfl
theorem impl_judgeCode.e7 (x0 : THead) (x1 : TSigned) (v7_0 : Bool) : V.normK 7 ([2, 3, 5, 6], []) (V.joinF impl_judgeCode.E Tryz.f217.ntmps [1, 1] [] (V.codeOf Tryz.f217) (impl_judgeCode.kt x0 x1)) (impl_judgeCode.s7 x0 x1 v7_0) = impl_judgeCode.l7 x0 x1 v7_0 := by
  rw [impl_judgeCode.r7]
  simp only [impl_judgeCode.e13]
  rfl
noncomputable abbrev impl_judgeCode.s (x0 : THead) (x1 : TSigned) : V.St := ⟨[(0, .v true [.val (.int .i64 x0.1), .val (.int .i64 x0.2.1), .val (.int .i64 x0.2.2.1), .val (.int .i64 x0.2.2.2.1), .val (.int .i64 x0.2.2.2.2.1), .val (.int .i64 x0.2.2.2.2.2.1), .val (.int .i64 x0.2.2.2.2.2.2.1), .val (.int .i64 x0.2.2.2.2.2.2.2.1), .val (.sl (.cons (.int .i64) .nil) x0.2.2.2.2.2.2.2.2.1), .val (.int .i64 x0.2.2.2.2.2.2.2.2.2.1), .val (.sl (.cons (.int .i64) .nil) x0.2.2.2.2.2.2.2.2.2.2.1), .val (.int .i64 x0.2.2.2.2.2.2.2.2.2.2.2.1), .val (.int .i64 x0.2.2.2.2.2.2.2.2.2.2.2.2.1), .val (.sl (.cons (.int .i64) .nil) x0.2.2.2.2.2.2.2.2.2.2.2.2.2.1), .val (.int .i64 x0.2.2.2.2.2.2.2.2.2.2.2.2.2.2.1), .val (.bool x0.2.2.2.2.2.2.2.2.2.2.2.2.2.2.2)]), (1, .v true [.val (.int .i64 x1.1), .val (.int .i64 x1.2.1), .val (.int .i64 x1.2.2.1), .val (.int .i64 x1.2.2.2.1), .val (.int .i64 x1.2.2.2.2.1), .val (.int .i64 x1.2.2.2.2.2.1), .val (.int .i64 x1.2.2.2.2.2.2.1), .val (.int .i64 x1.2.2.2.2.2.2.2.1), .val (.sl (.cons (.int .i64) .nil) x1.2.2.2.2.2.2.2.2.1), .val (.int .i64 x1.2.2.2.2.2.2.2.2.2.1), .val (.sl (.cons (.int .i64) .nil) x1.2.2.2.2.2.2.2.2.2.2.1), .val (.int .i64 x1.2.2.2.2.2.2.2.2.2.2.2.1), .val (.int .i64 x1.2.2.2.2.2.2.2.2.2.2.2.2.1), .val (.sl (.cons (.int .i64) .nil) x1.2.2.2.2.2.2.2.2.2.2.2.2.2.1), .val (.int .i64 x1.2.2.2.2.2.2.2.2.2.2.2.2.2.2.1), .val (.bool x1.2.2.2.2.2.2.2.2.2.2.2.2.2.2.2.1), .val (.sl (.cons (.int .i64) (.cons (.int .i64) .nil)) x1.2.2.2.2.2.2.2.2.2.2.2.2.2.2.2.2)])], []⟩
theorem impl_judgeCode.v0 (x0 : THead) (x1 : TSigned) : V.evBody impl_judgeCode.E impl_judgeCode.con Tryz.f217 (V.fl5 x0 x1) = V.evC impl_judgeCode.E Tryz.f217.ntmps (V.codeOf Tryz.f217) (impl_judgeCode.kt x0 x1) (impl_judgeCode.s x0 x1) := by kernel_rfl
theorem impl_judgeCode.v (x0 : THead) (x1 : TSigned) : V.evC impl_judgeCode.E Tryz.f217.ntmps (V.codeOf Tryz.f217) (impl_judgeCode.kt x0 x1) (impl_judgeCode.s x0 x1) = impl_judgeCode.b x0 x1 (fun v7_0 => V.normK 7 ([2, 3, 5, 6], []) (V.joinF impl_judgeCode.E Tryz.f217.ntmps [1, 1] [] (V.codeOf Tryz.f217) (impl_judgeCode.kt x0 x1)) (impl_judgeCode.s7 x0 x1 v7_0)) := by kernel_rfl
theorem impl_judgeCode.eq (x0 : THead) (x1 : TSigned) : V.evBody impl_judgeCode.E impl_judgeCode.con Tryz.f217 (V.fl5 x0 x1) = impl_judgeCode x0 x1 := by
  rw [impl_judgeCode.v0, impl_judgeCode.v]
  simp only [impl_judgeCode.e7]
  rfl
theorem impl_judgeCode.ok : V.Valid Tryz.prog 217 impl_judgeCode.con :=
  V.body_ok (V.env_ok V.mixed V.tysOk (V.tab_cons impl_EqualKeys.ok (V.tab_cons impl_NoKeys.ok (V.tab_cons impl_Signed_isSignedBy.ok (V.tab_cons impl_SameContents.ok V.tab_nil))))) Tryz.func217 (by kernel_rfl) (by kernel_rfl) (by kernel_rfl) (fun x y h => (show V.evBody impl_judgeCode.E impl_judgeCode.con Tryz.f217 x = _ from impl_judgeCode.eq (V.p5_0 x) (V.p5_1 x)).trans h)
noncomputable abbrev impl_NextCode.con : V.Con := ⟨V.A5, (.cons (.int .i64) .nil), fun (x : V.D5) => impl_NextCode (V.p5_0 x) (V.p5_1 x), [], [(true, 16), (true, 17)], [(false, 1)], [false], []⟩
noncomputable abbrev impl_NextCode.E : V.Env := V.mkE V.tys [(196, impl_IsHead.con), (214, impl_isNext.con), (215, impl_ownerCode.con), (216, impl_heirCode.con), (217, impl_judgeCode.con)] [(5, [2, 3, 5], [])] [] [] [] []
noncomputable abbrev impl_NextCode.kt (x0 : THead) (x1 : TSigned) : V.Kt Int := V.ktOf impl_NextCode.E impl_NextCode.con Tryz.f122 (V.fl5 x0 x1)
noncomputable abbrev impl_NextCode.s5 (x0 : THead) (x1 : TSigned) (v5_0 : Bool) : V.St := ⟨[(2, .v false [.ptr 64000 0]), (3, .v false [.ptr 64064 0]), (5, .v false [.val (.bool v5_0)])], [(64000, .box [.val (.int .i64 x0.1), .val (.int .i64 x0.2.1), .val (.int .i64 x0.2.2.1), .val (.int .i64 x0.2.2.2.1), .val (.int .i64 x0.2.2.2.2.1), .val (.int .i64 x0.2.2.2.2.2.1), .val (.int .i64 x0.2.2.2.2.2.2.1), .val (.int .i64 x0.2.2.2.2.2.2.2.1), .val (.sl (.cons (.int .i64) .nil) x0.2.2.2.2.2.2.2.2.1), .val (.int .i64 x0.2.2.2.2.2.2.2.2.2.1), .val (.sl (.cons (.int .i64) .nil) x0.2.2.2.2.2.2.2.2.2.2.1), .val (.int .i64 x0.2.2.2.2.2.2.2.2.2.2.2.1), .val (.int .i64 x0.2.2.2.2.2.2.2.2.2.2.2.2.1), .val (.sl (.cons (.int .i64) .nil) x0.2.2.2.2.2.2.2.2.2.2.2.2.2.1), .val (.int .i64 x0.2.2.2.2.2.2.2.2.2.2.2.2.2.2.1), .val (.bool x0.2.2.2.2.2.2.2.2.2.2.2.2.2.2.2)]), (64064, .box [.val (.int .i64 x1.1), .val (.int .i64 x1.2.1), .val (.int .i64 x1.2.2.1), .val (.int .i64 x1.2.2.2.1), .val (.int .i64 x1.2.2.2.2.1), .val (.int .i64 x1.2.2.2.2.2.1), .val (.int .i64 x1.2.2.2.2.2.2.1), .val (.int .i64 x1.2.2.2.2.2.2.2.1), .val (.sl (.cons (.int .i64) .nil) x1.2.2.2.2.2.2.2.2.1), .val (.int .i64 x1.2.2.2.2.2.2.2.2.2.1), .val (.sl (.cons (.int .i64) .nil) x1.2.2.2.2.2.2.2.2.2.2.1), .val (.int .i64 x1.2.2.2.2.2.2.2.2.2.2.2.1), .val (.int .i64 x1.2.2.2.2.2.2.2.2.2.2.2.2.1), .val (.sl (.cons (.int .i64) .nil) x1.2.2.2.2.2.2.2.2.2.2.2.2.2.1), .val (.int .i64 x1.2.2.2.2.2.2.2.2.2.2.2.2.2.2.1), .val (.bool x1.2.2.2.2.2.2.2.2.2.2.2.2.2.2.2.1), .val (.sl (.cons (.int .i64) (.cons (.int .i64) .nil)) x1.2.2.2.2.2.2.2.2.2.2.2.2.2.2.2.2)])]⟩
theorem impl_NextCode.r5 (x0 : THead) (x1 : TSigned) (v5_0 : Bool) : V.normK 5 ([2, 3, 5], []) (V.joinF impl_NextCode.E Tryz.f122.ntmps [1, 0, 0] [] (V.codeOf Tryz.f122) (impl_NextCode.kt x0 x1)) (impl_NextCode.s5 x0 x1 v5_0) = impl_NextCode.g5 x0 x1 v5_0 := by kernel_rfl
theorem impl_NextCode.e5 (x0 : THead) (x1 : TSigned) (v5_0 : Bool) : V.normK 5 ([2, 3, 5], []) (V.joinF impl_NextCode.E Tryz.f122.ntmps [1, 0, 0] [] (V.codeOf Tryz.f122) (impl_NextCode.kt x0 x1)) (impl_NextCode.s5 x0 x1 v5_0) = impl_NextCode.l5 x0 x1 v5_0 := by
  rw [impl_NextCode.r5]
  rfl
noncomputable abbrev impl_NextCode.s (x0 : THead) (x1 : TSigned) : V.St := ⟨[(0, .v true [.val (.int .i64 x0.1), .val (.int .i64 x0.2.1), .val (.int .i64 x0.2.2.1), .val (.int .i64 x0.2.2.2.1), .val (.int .i64 x0.2.2.2.2.1), .val (.int .i64 x0.2.2.2.2.2.1), .val (.int .i64 x0.2.2.2.2.2.2.1), .val (.int .i64 x0.2.2.2.2.2.2.2.1), .val (.sl (.cons (.int .i64) .nil) x0.2.2.2.2.2.2.2.2.1), .val (.int .i64 x0.2.2.2.2.2.2.2.2.2.1), .val (.sl (.cons (.int .i64) .nil) x0.2.2.2.2.2.2.2.2.2.2.1), .val (.int .i64 x0.2.2.2.2.2.2.2.2.2.2.2.1), .val (.int .i64 x0.2.2.2.2.2.2.2.2.2.2.2.2.1), .val (.sl (.cons (.int .i64) .nil) x0.2.2.2.2.2.2.2.2.2.2.2.2.2.1), .val (.int .i64 x0.2.2.2.2.2.2.2.2.2.2.2.2.2.2.1), .val (.bool x0.2.2.2.2.2.2.2.2.2.2.2.2.2.2.2)]), (1, .v true [.val (.int .i64 x1.1), .val (.int .i64 x1.2.1), .val (.int .i64 x1.2.2.1), .val (.int .i64 x1.2.2.2.1), .val (.int .i64 x1.2.2.2.2.1), .val (.int .i64 x1.2.2.2.2.2.1), .val (.int .i64 x1.2.2.2.2.2.2.1), .val (.int .i64 x1.2.2.2.2.2.2.2.1), .val (.sl (.cons (.int .i64) .nil) x1.2.2.2.2.2.2.2.2.1), .val (.int .i64 x1.2.2.2.2.2.2.2.2.2.1), .val (.sl (.cons (.int .i64) .nil) x1.2.2.2.2.2.2.2.2.2.2.1), .val (.int .i64 x1.2.2.2.2.2.2.2.2.2.2.2.1), .val (.int .i64 x1.2.2.2.2.2.2.2.2.2.2.2.2.1), .val (.sl (.cons (.int .i64) .nil) x1.2.2.2.2.2.2.2.2.2.2.2.2.2.1), .val (.int .i64 x1.2.2.2.2.2.2.2.2.2.2.2.2.2.2.1), .val (.bool x1.2.2.2.2.2.2.2.2.2.2.2.2.2.2.2.1), .val (.sl (.cons (.int .i64) (.cons (.int .i64) .nil)) x1.2.2.2.2.2.2.2.2.2.2.2.2.2.2.2.2)])], []⟩
theorem impl_NextCode.v0 (x0 : THead) (x1 : TSigned) : V.evBody impl_NextCode.E impl_NextCode.con Tryz.f122 (V.fl5 x0 x1) = V.evC impl_NextCode.E Tryz.f122.ntmps (V.codeOf Tryz.f122) (impl_NextCode.kt x0 x1) (impl_NextCode.s x0 x1) := by kernel_rfl
theorem impl_NextCode.v (x0 : THead) (x1 : TSigned) : V.evC impl_NextCode.E Tryz.f122.ntmps (V.codeOf Tryz.f122) (impl_NextCode.kt x0 x1) (impl_NextCode.s x0 x1) = impl_NextCode.b x0 x1 (fun v5_0 => V.normK 5 ([2, 3, 5], []) (V.joinF impl_NextCode.E Tryz.f122.ntmps [1, 0, 0] [] (V.codeOf Tryz.f122) (impl_NextCode.kt x0 x1)) (impl_NextCode.s5 x0 x1 v5_0)) := by kernel_rfl
theorem impl_NextCode.eq (x0 : THead) (x1 : TSigned) : V.evBody impl_NextCode.E impl_NextCode.con Tryz.f122 (V.fl5 x0 x1) = impl_NextCode x0 x1 := by
  rw [impl_NextCode.v0, impl_NextCode.v]
  simp only [impl_NextCode.e5]
  rfl
theorem impl_NextCode.ok : V.Valid Tryz.prog 122 impl_NextCode.con :=
  V.body_ok (V.env_ok V.mixed V.tysOk (V.tab_cons impl_IsHead.ok (V.tab_cons impl_isNext.ok (V.tab_cons impl_ownerCode.ok (V.tab_cons impl_heirCode.ok (V.tab_cons impl_judgeCode.ok V.tab_nil)))))) Tryz.func122 (by kernel_rfl) (by kernel_rfl) (by kernel_rfl) (fun x y h => (show V.evBody impl_NextCode.E impl_NextCode.con Tryz.f122 x = _ from impl_NextCode.eq (V.p5_0 x) (V.p5_1 x)).trans h)
noncomputable abbrev impl_MayFollow.con : V.Con := ⟨V.A5, (.cons .bool .nil), fun (x : V.D5) => impl_MayFollow (V.p5_0 x) (V.p5_1 x), [], [(true, 16), (true, 17)], [(false, 1)], [false], []⟩
noncomputable abbrev impl_MayFollow.E : V.Env := V.mkE V.tys [(122, impl_NextCode.con)] [] [] [] [] []
noncomputable abbrev impl_MayFollow.kt (x0 : THead) (x1 : TSigned) : V.Kt Bool := V.ktOf impl_MayFollow.E impl_MayFollow.con Tryz.f244 (V.fl5 x0 x1)
noncomputable abbrev impl_MayFollow.s (x0 : THead) (x1 : TSigned) : V.St := ⟨[(0, .v true [.val (.int .i64 x0.1), .val (.int .i64 x0.2.1), .val (.int .i64 x0.2.2.1), .val (.int .i64 x0.2.2.2.1), .val (.int .i64 x0.2.2.2.2.1), .val (.int .i64 x0.2.2.2.2.2.1), .val (.int .i64 x0.2.2.2.2.2.2.1), .val (.int .i64 x0.2.2.2.2.2.2.2.1), .val (.sl (.cons (.int .i64) .nil) x0.2.2.2.2.2.2.2.2.1), .val (.int .i64 x0.2.2.2.2.2.2.2.2.2.1), .val (.sl (.cons (.int .i64) .nil) x0.2.2.2.2.2.2.2.2.2.2.1), .val (.int .i64 x0.2.2.2.2.2.2.2.2.2.2.2.1), .val (.int .i64 x0.2.2.2.2.2.2.2.2.2.2.2.2.1), .val (.sl (.cons (.int .i64) .nil) x0.2.2.2.2.2.2.2.2.2.2.2.2.2.1), .val (.int .i64 x0.2.2.2.2.2.2.2.2.2.2.2.2.2.2.1), .val (.bool x0.2.2.2.2.2.2.2.2.2.2.2.2.2.2.2)]), (1, .v true [.val (.int .i64 x1.1), .val (.int .i64 x1.2.1), .val (.int .i64 x1.2.2.1), .val (.int .i64 x1.2.2.2.1), .val (.int .i64 x1.2.2.2.2.1), .val (.int .i64 x1.2.2.2.2.2.1), .val (.int .i64 x1.2.2.2.2.2.2.1), .val (.int .i64 x1.2.2.2.2.2.2.2.1), .val (.sl (.cons (.int .i64) .nil) x1.2.2.2.2.2.2.2.2.1), .val (.int .i64 x1.2.2.2.2.2.2.2.2.2.1), .val (.sl (.cons (.int .i64) .nil) x1.2.2.2.2.2.2.2.2.2.2.1), .val (.int .i64 x1.2.2.2.2.2.2.2.2.2.2.2.1), .val (.int .i64 x1.2.2.2.2.2.2.2.2.2.2.2.2.1), .val (.sl (.cons (.int .i64) .nil) x1.2.2.2.2.2.2.2.2.2.2.2.2.2.1), .val (.int .i64 x1.2.2.2.2.2.2.2.2.2.2.2.2.2.2.1), .val (.bool x1.2.2.2.2.2.2.2.2.2.2.2.2.2.2.2.1), .val (.sl (.cons (.int .i64) (.cons (.int .i64) .nil)) x1.2.2.2.2.2.2.2.2.2.2.2.2.2.2.2.2)])], []⟩
theorem impl_MayFollow.v0 (x0 : THead) (x1 : TSigned) : V.evBody impl_MayFollow.E impl_MayFollow.con Tryz.f244 (V.fl5 x0 x1) = V.evC impl_MayFollow.E Tryz.f244.ntmps (V.codeOf Tryz.f244) (impl_MayFollow.kt x0 x1) (impl_MayFollow.s x0 x1) := by kernel_rfl
theorem impl_MayFollow.v (x0 : THead) (x1 : TSigned) : V.evC impl_MayFollow.E Tryz.f244.ntmps (V.codeOf Tryz.f244) (impl_MayFollow.kt x0 x1) (impl_MayFollow.s x0 x1) = impl_MayFollow x0 x1 := by kernel_rfl
theorem impl_MayFollow.eq (x0 : THead) (x1 : TSigned) : V.evBody impl_MayFollow.E impl_MayFollow.con Tryz.f244 (V.fl5 x0 x1) = impl_MayFollow x0 x1 := (impl_MayFollow.v0 x0 x1).trans (impl_MayFollow.v x0 x1)
theorem impl_MayFollow.ok : V.Valid Tryz.prog 244 impl_MayFollow.con :=
  V.body_ok (V.env_ok V.mixed V.tysOk (V.tab_cons impl_NextCode.ok V.tab_nil)) Tryz.func244 (by kernel_rfl) (by kernel_rfl) (by kernel_rfl) (fun x y h => (show V.evBody impl_MayFollow.E impl_MayFollow.con Tryz.f244 x = _ from impl_MayFollow.eq (V.p5_0 x) (V.p5_1 x)).trans h)
noncomputable abbrev impl_FirstWrong.con : V.Con := ⟨(.cons (.sl V.eSigned) .nil), (.cons (.int .i64) .nil), fun (x : List TSigned) => impl_FirstWrong x, [], [(false, 1)], [(false, 1)], [false], []⟩
noncomputable abbrev impl_FirstWrong.E : V.Env := V.mkE V.tys [(243, impl_IsFirst.con), (244, impl_MayFollow.con)] [(4, [0, 5, 6, 7], [])] [(4, 18)] [] [] []
noncomputable abbrev impl_FirstWrong.kt (x0 : List TSigned) : V.Kt Int := V.ktOf impl_FirstWrong.E impl_FirstWrong.con Tryz.f183 ((x0) : List TSigned)
noncomputable abbrev impl_FirstWrong.s4 (x0 : List TSigned) (v4_2 : Int) (v4_3 : Int) : V.St := ⟨[(0, .v false [.val (.sl V.eSigned x0)]), (5, .v false [.val (.sl V.eSigned x0)]), (6, .v false [.val (.int .i64 v4_2)]), (7, .v false [.val (.int .i64 v4_3)])], []⟩
theorem impl_FirstWrong.r4 (x0 : List TSigned) (R : V.St → Option Int) (v4_2 : Int) (v4_3 : Int) : V.loopF impl_FirstWrong.E Tryz.f183.ntmps [1, 0, 1, 0] [] (V.codeOf Tryz.f183) (impl_FirstWrong.kt x0) R (impl_FirstWrong.s4 x0 v4_2 v4_3) = impl_FirstWrong.g4 x0 (fun v4_2 v4_3 => R (impl_FirstWrong.s4 x0 v4_2 v4_3)) v4_2 v4_3 := by kernel_rfl
theorem impl_FirstWrong.e4 (x0 : List TSigned) : ∀ (n : Nat) (v4_2 : Int) (v4_3 : Int), V.loopN (V.loopF impl_FirstWrong.E Tryz.f183.ntmps [1, 0, 1, 0] [] (V.codeOf Tryz.f183) (impl_FirstWrong.kt x0)) n (impl_FirstWrong.s4 x0 v4_2 v4_3) = impl_FirstWrong.l4 x0 n v4_2 v4_3 := by
  intro n
  induction n with
  | zero => intros; rfl
  | succ n ih =>
    intro v4_2 v4_3
    show V.loopF impl_FirstWrong.E Tryz.f183.ntmps [1, 0, 1, 0] [] (V.codeOf Tryz.f183) (impl_FirstWrong.kt x0) (V.loopN (V.loopF impl_FirstWrong.E Tryz.f183.ntmps [1, 0, 1, 0] [] (V.codeOf Tryz.f183) (impl_FirstWrong.kt x0)) n) (impl_FirstWrong.s4 x0 v4_2 v4_3) = _
    rw [impl_FirstWrong.r4]
    simp only [ih]
    rfl
theorem impl_FirstWrong.v (x0 : List TSigned) : V.evBody impl_FirstWrong.E impl_FirstWrong.con Tryz.f183 ((x0) : List TSigned) = impl_FirstWrong.b x0 (fun v4_2 v4_3 => V.loopN (V.loopF impl_FirstWrong.E Tryz.f183.ntmps [1, 0, 1, 0] [] (V.codeOf Tryz.f183) (impl_FirstWrong.kt x0)) V.KK (impl_FirstWrong.s4 x0 v4_2 v4_3)) := by kernel_rfl
theorem impl_FirstWrong.eq (x0 : List TSigned) : V.evBody impl_FirstWrong.E impl_FirstWrong.con Tryz.f183 ((x0) : List TSigned) = impl_FirstWrong x0 := by
  rw [impl_FirstWrong.v]
  simp only [impl_FirstWrong.e4]
  rfl
theorem impl_FirstWrong.ok : V.Valid Tryz.prog 183 impl_FirstWrong.con :=
  V.body_ok (V.env_ok V.mixed V.tysOk (V.tab_cons impl_IsFirst.ok (V.tab_cons impl_MayFollow.ok V.tab_nil))) Tryz.func183 (by kernel_rfl) (by kernel_rfl) (by kernel_rfl) (fun x y h => (show V.evBody impl_FirstWrong.E impl_FirstWrong.con Tryz.f183 x = _ from impl_FirstWrong.eq x).trans h)
noncomputable abbrev impl_IsChain.con : V.Con := ⟨(.cons (.sl V.eSigned) .nil), (.cons .bool .nil), fun (x : List TSigned) => impl_IsChain x, [], [(false, 1)], [(false, 1)], [false], []⟩
noncomputable abbrev impl_IsChain.E : V.Env := V.mkE V.tys [(179, impl_InRange.con), (183, impl_FirstWrong.con)] [] [] [] [] []
noncomputable abbrev impl_IsChain.kt (x0 : List TSigned) : V.Kt Bool := V.ktOf impl_IsChain.E impl_IsChain.con Tryz.f87 ((x0) : List TSigned)
theorem impl_IsChain.eq (x0 : List TSigned) : V.evBody impl_IsChain.E impl_IsChain.con Tryz.f87 ((x0) : List TSigned) = impl_IsChain x0 := by kernel_rfl
theorem impl_IsChain.ok : V.Valid Tryz.prog 87 impl_IsChain.con :=
  V.body_ok (V.env_ok V.mixed V.tysOk (V.tab_cons impl_InRange.ok (V.tab_cons impl_FirstWrong.ok V.tab_nil))) Tryz.func87 (by kernel_rfl) (by kernel_rfl) (by kernel_rfl) (fun x y h => (show V.evBody impl_IsChain.E impl_IsChain.con Tryz.f87 x = _ from impl_IsChain.eq x).trans h)
noncomputable abbrev impl_last.con : V.Con := ⟨(.cons (.sl V.eSigned) .nil), V.eHead, fun (x : List TSigned) => impl_last x, [], [(false, 1)], [(true, 16)], [false, false, false, false, false, false, false, false, false, false, false, false, false, false, false, false], []⟩
noncomputable abbrev impl_last.E : V.Env := V.mkE V.tys [] [] [] [] [] []
noncomputable abbrev impl_last.kt (x0 : List TSigned) : V.Kt THead := V.ktOf impl_last.E impl_last.con Tryz.f89 ((x0) : List TSigned)
theorem impl_last.eq (x0 : List TSigned) : V.evBody impl_last.E impl_last.con Tryz.f89 ((x0) : List TSigned) = impl_last x0 := by kernel_rfl
theorem impl_last.ok : V.Valid Tryz.prog 89 impl_last.con :=
  V.body_ok (V.env_ok V.mixed V.tysOk V.tab_nil) Tryz.func89 (by kernel_rfl) (by kernel_rfl) (by kernel_rfl) (fun x y h => (show V.evBody impl_last.E impl_last.con Tryz.f89 x = _ from impl_last.eq x).trans h)
noncomputable abbrev impl_Extend.con : V.Con := ⟨V.A6, (.cons (.sl V.eSigned) (.cons (.int .i64) .nil)), fun (x : V.D6) => impl_Extend (V.p6_0 x) (V.p6_1 x), [], [(false, 1), (true, 17)], [(false, 1), (false, 1)], [true, false], []⟩
noncomputable abbrev impl_Extend.E : V.Env := V.mkE V.tys [(87, impl_IsChain.con), (89, impl_last.con), (121, impl_copyChain.con), (122, impl_NextCode.con), (123, impl_copySigned.con)] [(7, [0, 3, 6, 17], [])] [(4, 3)] [] [] []
noncomputable abbrev impl_Extend.kt (x0 : List TSigned) (x1 : TSigned) : V.Kt (List TSigned × Int) := V.ktOf impl_Extend.E impl_Extend.con Tryz.f42 (V.fl6 x0 x1)
noncomputable abbrev impl_Extend.s7 (x0 : List TSigned) (x1 : TSigned) (y1 : List TSigned) (v7_1 : Bool) : V.St := ⟨[(0, .v false [.val (.sl V.eSigned x0)]), (3, .v false [.ptr 64000 0]), (6, .v false [.ref 64000044800384]), (17, .v false [.val (.bool v7_1)])], [(64000, .box [.val (.int .i64 x1.1), .val (.int .i64 x1.2.1), .val (.int .i64 x1.2.2.1), .val (.int .i64 x1.2.2.2.1), .val (.int .i64 x1.2.2.2.2.1), .val (.int .i64 x1.2.2.2.2.2.1), .val (.int .i64 x1.2.2.2.2.2.2.1), .val (.int .i64 x1.2.2.2.2.2.2.2.1), .val (.sl (.cons (.int .i64) .nil) x1.2.2.2.2.2.2.2.2.1), .val (.int .i64 x1.2.2.2.2.2.2.2.2.2.1), .val (.sl (.cons (.int .i64) .nil) x1.2.2.2.2.2.2.2.2.2.2.1), .val (.int .i64 x1.2.2.2.2.2.2.2.2.2.2.2.1), .val (.int .i64 x1.2.2.2.2.2.2.2.2.2.2.2.2.1), .val (.sl (.cons (.int .i64) .nil) x1.2.2.2.2.2.2.2.2.2.2.2.2.2.1), .val (.int .i64 x1.2.2.2.2.2.2.2.2.2.2.2.2.2.2.1), .val (.bool x1.2.2.2.2.2.2.2.2.2.2.2.2.2.2.2.1), .val (.sl (.cons (.int .i64) (.cons (.int .i64) .nil)) x1.2.2.2.2.2.2.2.2.2.2.2.2.2.2.2.2)]), (64000044800384, .row V.eSigned true y1)]⟩
theorem impl_Extend.r7 (x0 : List TSigned) (x1 : TSigned) (y1 : List TSigned) (v7_1 : Bool) : V.normK 7 ([0, 3, 6, 17], []) (V.joinF impl_Extend.E Tryz.f42.ntmps [1, 1, 0] [] (V.codeOf Tryz.f42) (impl_Extend.kt x0 x1)) (impl_Extend.s7 x0 x1 y1 v7_1) = impl_Extend.g7 x0 x1 y1 v7_1 := by kernel_rfl
theorem impl_Extend.e7 (x0 : List TSigned) (x1 : TSigned) (y1 : List TSigned) (v7_1 : Bool) : V.normK 7 ([0, 3, 6, 17], []) (V.joinF impl_Extend.E Tryz.f42.ntmps [1, 1, 0] [] (V.codeOf Tryz.f42) (impl_Extend.kt x0 x1)) (impl_Extend.s7 x0 x1 y1 v7_1) = impl_Extend.l7 x0 x1 y1 v7_1 := by
  rw [impl_Extend.r7]
  rfl
noncomputable abbrev impl_Extend.s (x0 : List TSigned) (x1 : TSigned) : V.St := ⟨[(0, .v false [.val (.sl V.eSigned x0)]), (1, .v true [.val (.int .i64 x1.1), .val (.int .i64 x1.2.1), .val (.int .i64 x1.2.2.1), .val (.int .i64 x1.2.2.2.1), .val (.int .i64 x1.2.2.2.2.1), .val (.int .i64 x1.2.2.2.2.2.1), .val (.int .i64 x1.2.2.2.2.2.2.1), .val (.int .i64 x1.2.2.2.2.2.2.2.1), .val (.sl (.cons (.int .i64) .nil) x1.2.2.2.2.2.2.2.2.1), .val (.int .i64 x1.2.2.2.2.2.2.2.2.2.1), .val (.sl (.cons (.int .i64) .nil) x1.2.2.2.2.2.2.2.2.2.2.1), .val (.int .i64 x1.2.2.2.2.2.2.2.2.2.2.2.1), .val (.int .i64 x1.2.2.2.2.2.2.2.2.2.2.2.2.1), .val (.sl (.cons (.int .i64) .nil) x1.2.2.2.2.2.2.2.2.2.2.2.2.2.1), .val (.int .i64 x1.2.2.2.2.2.2.2.2.2.2.2.2.2.2.1), .val (.bool x1.2.2.2.2.2.2.2.2.2.2.2.2.2.2.2.1), .val (.sl (.cons (.int .i64) (.cons (.int .i64) .nil)) x1.2.2.2.2.2.2.2.2.2.2.2.2.2.2.2.2)])], []⟩
theorem impl_Extend.v0 (x0 : List TSigned) (x1 : TSigned) : V.evBody impl_Extend.E impl_Extend.con Tryz.f42 (V.fl6 x0 x1) = V.evC impl_Extend.E Tryz.f42.ntmps (V.codeOf Tryz.f42) (impl_Extend.kt x0 x1) (impl_Extend.s x0 x1) := by kernel_rfl
theorem impl_Extend.v (x0 : List TSigned) (x1 : TSigned) : V.evC impl_Extend.E Tryz.f42.ntmps (V.codeOf Tryz.f42) (impl_Extend.kt x0 x1) (impl_Extend.s x0 x1) = impl_Extend.b x0 x1 (fun y1 v7_1 => V.normK 7 ([0, 3, 6, 17], []) (V.joinF impl_Extend.E Tryz.f42.ntmps [1, 1, 0] [] (V.codeOf Tryz.f42) (impl_Extend.kt x0 x1)) (impl_Extend.s7 x0 x1 y1 v7_1)) := by kernel_rfl
theorem impl_Extend.eq (x0 : List TSigned) (x1 : TSigned) : V.evBody impl_Extend.E impl_Extend.con Tryz.f42 (V.fl6 x0 x1) = impl_Extend x0 x1 := by
  rw [impl_Extend.v0, impl_Extend.v]
  simp only [impl_Extend.e7]
  rfl
theorem impl_Extend.ok : V.Valid Tryz.prog 42 impl_Extend.con :=
  V.body_ok (V.env_ok V.mixed V.tysOk (V.tab_cons impl_IsChain.ok (V.tab_cons impl_last.ok (V.tab_cons impl_copyChain.ok (V.tab_cons impl_NextCode.ok (V.tab_cons impl_copySigned.ok V.tab_nil)))))) Tryz.func42 (by kernel_rfl) (by kernel_rfl) (by kernel_rfl) (fun x y h => (show V.evBody impl_Extend.E impl_Extend.con Tryz.f42 x = _ from impl_Extend.eq (V.p6_0 x) (V.p6_1 x)).trans h)
noncomputable abbrev laws_eqIntS.con : V.Con := ⟨(.cons (.sl (.cons (.int .i64) .nil)) (.cons (.sl (.cons (.int .i64) .nil)) .nil)), (.cons .bool .nil), fun (x : List Int × List Int) => laws_eqIntS x.1 x.2, [], [(false, 1), (false, 1)], [(false, 1)], [false], []⟩
noncomputable abbrev laws_eqIntS.E : V.Env := V.mkE V.tys [] [(8, [0, 1, 5], [])] [(6, 8)] [] [] []
noncomputable abbrev laws_eqIntS.kt (x0 : List Int) (x1 : List Int) : V.Kt Bool := V.ktOf laws_eqIntS.E laws_eqIntS.con Tryz.f172 ((x0, x1) : List Int × List Int)
noncomputable abbrev laws_eqIntS.s8 (x0 : List Int) (x1 : List Int) (v8_2 : Int) : V.St := ⟨[(0, .v false [.val (.sl (.cons (.int .i64) .nil) x0)]), (1, .v false [.val (.sl (.cons (.int .i64) .nil) x1)]), (5, .v false [.val (.int .i64 v8_2)])], []⟩
theorem laws_eqIntS.r8 (x0 : List Int) (x1 : List Int) (R : V.St → Option Bool) (v8_2 : Int) : V.loopF laws_eqIntS.E Tryz.f172.ntmps [1, 1, 0, 1, 0] [] (V.codeOf Tryz.f172) (laws_eqIntS.kt x0 x1) R (laws_eqIntS.s8 x0 x1 v8_2) = laws_eqIntS.g8 x0 x1 (fun v8_2 => R (laws_eqIntS.s8 x0 x1 v8_2)) v8_2 := by kernel_rfl
theorem laws_eqIntS.e8 (x0 : List Int) (x1 : List Int) : ∀ (n : Nat) (v8_2 : Int), V.loopN (V.loopF laws_eqIntS.E Tryz.f172.ntmps [1, 1, 0, 1, 0] [] (V.codeOf Tryz.f172) (laws_eqIntS.kt x0 x1)) n (laws_eqIntS.s8 x0 x1 v8_2) = laws_eqIntS.l8 x0 x1 n v8_2 := by
  intro n
  induction n with
  | zero => intros; rfl
  | succ n ih =>
    intro v8_2
    show V.loopF laws_eqIntS.E Tryz.f172.ntmps [1, 1, 0, 1, 0] [] (V.codeOf Tryz.f172) (laws_eqIntS.kt x0 x1) (V.loopN (V.loopF laws_eqIntS.E Tryz.f172.ntmps [1, 1, 0, 1, 0] [] (V.codeOf Tryz.f172) (laws_eqIntS.kt x0 x1)) n) (laws_eqIntS.s8 x0 x1 v8_2) = _
    rw [laws_eqIntS.r8]
    simp only [ih]
    rfl
theorem laws_eqIntS.v (x0 : List Int) (x1 : List Int) : V.evBody laws_eqIntS.E laws_eqIntS.con Tryz.f172 ((x0, x1) : List Int × List Int) = laws_eqIntS.b x0 x1 (fun v8_2 => V.loopN (V.loopF laws_eqIntS.E Tryz.f172.ntmps [1, 1, 0, 1, 0] [] (V.codeOf Tryz.f172) (laws_eqIntS.kt x0 x1)) V.KK (laws_eqIntS.s8 x0 x1 v8_2)) := by kernel_rfl
theorem laws_eqIntS.eq (x0 : List Int) (x1 : List Int) : V.evBody laws_eqIntS.E laws_eqIntS.con Tryz.f172 ((x0, x1) : List Int × List Int) = laws_eqIntS x0 x1 := by
  rw [laws_eqIntS.v]
  simp only [laws_eqIntS.e8]
  rfl
theorem laws_eqIntS.ok : V.Valid Tryz.prog 172 laws_eqIntS.con :=
  V.body_ok (V.env_ok V.mixed V.tysOk V.tab_nil) Tryz.func172 (by kernel_rfl) (by kernel_rfl) (by kernel_rfl) (fun x y h => (show V.evBody laws_eqIntS.E laws_eqIntS.con Tryz.f172 x = _ from laws_eqIntS.eq x.1 x.2).trans h)
noncomputable abbrev laws_eqKeys.con : V.Con := ⟨(.cons (.sl (.cons (.int .i64) .nil)) (.cons (.int .i64) (.cons (.sl (.cons (.int .i64) .nil)) (.cons (.int .i64) .nil)))), (.cons .bool .nil), fun (x : List Int × Int × List Int × Int) => laws_eqKeys (x.1, x.2.1) x.2.2, [], [(true, 2), (true, 2)], [(false, 1)], [false], []⟩
noncomputable abbrev laws_eqKeys.E : V.Env := V.mkE V.tys [(172, laws_eqIntS.con)] [] [] [] [] []
noncomputable abbrev laws_eqKeys.kt (x0 : TKeys) (x1 : TKeys) : V.Kt Bool := V.ktOf laws_eqKeys.E laws_eqKeys.con Tryz.f76 ((x0.1, x0.2, x1.1, x1.2) : List Int × Int × List Int × Int)
theorem laws_eqKeys.eq (x0 : TKeys) (x1 : TKeys) : V.evBody laws_eqKeys.E laws_eqKeys.con Tryz.f76 ((x0.1, x0.2, x1.1, x1.2) : List Int × Int × List Int × Int) = laws_eqKeys x0 x1 := by kernel_rfl
theorem laws_eqKeys.ok : V.Valid Tryz.prog 76 laws_eqKeys.con :=
  V.body_ok (V.env_ok V.mixed V.tysOk (V.tab_cons laws_eqIntS.ok V.tab_nil)) Tryz.func76 (by kernel_rfl) (by kernel_rfl) (by kernel_rfl) (fun x y h => (show V.evBody laws_eqKeys.E laws_eqKeys.con Tryz.f76 x = _ from laws_eqKeys.eq (x.1, x.2.1) x.2.2).trans h)
noncomputable abbrev laws_eqHead.con : V.Con := ⟨V.A4, (.cons .bool .nil), fun (x : V.D4) => laws_eqHead (V.p4_0 x) (V.p4_1 x), [], [(true, 16), (true, 16)], [(false, 1)], [false], []⟩
noncomputable abbrev laws_eqHead.E : V.Env := V.mkE V.tys [(76, laws_eqKeys.con)] [] [] [] [] []
noncomputable abbrev laws_eqHead.kt (x0 : THead) (x1 : THead) : V.Kt Bool := V.ktOf laws_eqHead.E laws_eqHead.con Tryz.f19 (V.fl4 x0 x1)
noncomputable abbrev laws_eqHead.s (x0 : THead) (x1 : THead) : V.St := ⟨[(0, .v true [.val (.int .i64 x0.1), .val (.int .i64 x0.2.1), .val (.int .i64 x0.2.2.1), .val (.int .i64 x0.2.2.2.1), .val (.int .i64 x0.2.2.2.2.1), .val (.int .i64 x0.2.2.2.2.2.1), .val (.int .i64 x0.2.2.2.2.2.2.1), .val (.int .i64 x0.2.2.2.2.2.2.2.1), .val (.sl (.cons (.int .i64) .nil) x0.2.2.2.2.2.2.2.2.1), .val (.int .i64 x0.2.2.2.2.2.2.2.2.2.1), .val (.sl (.cons (.int .i64) .nil) x0.2.2.2.2.2.2.2.2.2.2.1), .val (.int .i64 x0.2.2.2.2.2.2.2.2.2.2.2.1), .val (.int .i64 x0.2.2.2.2.2.2.2.2.2.2.2.2.1), .val (.sl (.cons (.int .i64) .nil) x0.2.2.2.2.2.2.2.2.2.2.2.2.2.1), .val (.int .i64 x0.2.2.2.2.2.2.2.2.2.2.2.2.2.2.1), .val (.bool x0.2.2.2.2.2.2.2.2.2.2.2.2.2.2.2)]), (1, .v true [.val (.int .i64 x1.1), .val (.int .i64 x1.2.1), .val (.int .i64 x1.2.2.1), .val (.int .i64 x1.2.2.2.1), .val (.int .i64 x1.2.2.2.2.1), .val (.int .i64 x1.2.2.2.2.2.1), .val (.int .i64 x1.2.2.2.2.2.2.1), .val (.int .i64 x1.2.2.2.2.2.2.2.1), .val (.sl (.cons (.int .i64) .nil) x1.2.2.2.2.2.2.2.2.1), .val (.int .i64 x1.2.2.2.2.2.2.2.2.2.1), .val (.sl (.cons (.int .i64) .nil) x1.2.2.2.2.2.2.2.2.2.2.1), .val (.int .i64 x1.2.2.2.2.2.2.2.2.2.2.2.1), .val (.int .i64 x1.2.2.2.2.2.2.2.2.2.2.2.2.1), .val (.sl (.cons (.int .i64) .nil) x1.2.2.2.2.2.2.2.2.2.2.2.2.2.1), .val (.int .i64 x1.2.2.2.2.2.2.2.2.2.2.2.2.2.2.1), .val (.bool x1.2.2.2.2.2.2.2.2.2.2.2.2.2.2.2)])], []⟩
theorem laws_eqHead.v0 (x0 : THead) (x1 : THead) : V.evBody laws_eqHead.E laws_eqHead.con Tryz.f19 (V.fl4 x0 x1) = V.evC laws_eqHead.E Tryz.f19.ntmps (V.codeOf Tryz.f19) (laws_eqHead.kt x0 x1) (laws_eqHead.s x0 x1) := by kernel_rfl
theorem laws_eqHead.v (x0 : THead) (x1 : THead) : V.evC laws_eqHead.E Tryz.f19.ntmps (V.codeOf Tryz.f19) (laws_eqHead.kt x0 x1) (laws_eqHead.s x0 x1) = laws_eqHead x0 x1 := by kernel_rfl
theorem laws_eqHead.eq (x0 : THead) (x1 : THead) : V.evBody laws_eqHead.E laws_eqHead.con Tryz.f19 (V.fl4 x0 x1) = laws_eqHead x0 x1 := (laws_eqHead.v0 x0 x1).trans (laws_eqHead.v x0 x1)
theorem laws_eqHead.ok : V.Valid Tryz.prog 19 laws_eqHead.con :=
  V.body_ok (V.env_ok V.mixed V.tysOk (V.tab_cons laws_eqKeys.ok V.tab_nil)) Tryz.func19 (by kernel_rfl) (by kernel_rfl) (by kernel_rfl) (fun x y h => (show V.evBody laws_eqHead.E laws_eqHead.con Tryz.f19 x = _ from laws_eqHead.eq (V.p4_0 x) (V.p4_1 x)).trans h)
noncomputable abbrev laws_eqSig.con : V.Con := ⟨(.cons (.int .i64) (.cons (.int .i64) (.cons (.int .i64) (.cons (.int .i64) .nil)))), (.cons .bool .nil), fun (x : Int × Int × Int × Int) => laws_eqSig (x.1, x.2.1) x.2.2, [], [(true, 2), (true, 2)], [(false, 1)], [false], []⟩
noncomputable abbrev laws_eqSig.E : V.Env := V.mkE V.tys [] [] [] [] [] []
noncomputable abbrev laws_eqSig.kt (x0 : TSig) (x1 : TSig) : V.Kt Bool := V.ktOf laws_eqSig.E laws_eqSig.con Tryz.f56 ((x0.1, x0.2, x1.1, x1.2) : Int × Int × Int × Int)
theorem laws_eqSig.eq (x0 : TSig) (x1 : TSig) : V.evBody laws_eqSig.E laws_eqSig.con Tryz.f56 ((x0.1, x0.2, x1.1, x1.2) : Int × Int × Int × Int) = laws_eqSig x0 x1 := by kernel_rfl
theorem laws_eqSig.ok : V.Valid Tryz.prog 56 laws_eqSig.con :=
  V.body_ok (V.env_ok V.mixed V.tysOk V.tab_nil) Tryz.func56 (by kernel_rfl) (by kernel_rfl) (by kernel_rfl) (fun x y h => (show V.evBody laws_eqSig.E laws_eqSig.con Tryz.f56 x = _ from laws_eqSig.eq (x.1, x.2.1) x.2.2).trans h)
noncomputable abbrev laws_eqSigS.con : V.Con := ⟨(.cons (.sl (.cons (.int .i64) (.cons (.int .i64) .nil))) (.cons (.sl (.cons (.int .i64) (.cons (.int .i64) .nil))) .nil)), (.cons .bool .nil), fun (x : List TSig × List TSig) => laws_eqSigS x.1 x.2, [], [(false, 1), (false, 1)], [(false, 1)], [false], []⟩
noncomputable abbrev laws_eqSigS.E : V.Env := V.mkE V.tys [(56, laws_eqSig.con)] [(8, [0, 1, 5], [])] [(6, 8)] [] [] []
noncomputable abbrev laws_eqSigS.kt (x0 : List TSig) (x1 : List TSig) : V.Kt Bool := V.ktOf laws_eqSigS.E laws_eqSigS.con Tryz.f124 ((x0, x1) : List TSig × List TSig)
noncomputable abbrev laws_eqSigS.s8 (x0 : List TSig) (x1 : List TSig) (v8_2 : Int) : V.St := ⟨[(0, .v false [.val (.sl (.cons (.int .i64) (.cons (.int .i64) .nil)) x0)]), (1, .v false [.val (.sl (.cons (.int .i64) (.cons (.int .i64) .nil)) x1)]), (5, .v false [.val (.int .i64 v8_2)])], []⟩
theorem laws_eqSigS.r8 (x0 : List TSig) (x1 : List TSig) (R : V.St → Option Bool) (v8_2 : Int) : V.loopF laws_eqSigS.E Tryz.f124.ntmps [1, 1, 0, 1, 0] [] (V.codeOf Tryz.f124) (laws_eqSigS.kt x0 x1) R (laws_eqSigS.s8 x0 x1 v8_2) = laws_eqSigS.g8 x0 x1 (fun v8_2 => R (laws_eqSigS.s8 x0 x1 v8_2)) v8_2 := by kernel_rfl
theorem laws_eqSigS.e8 (x0 : List TSig) (x1 : List TSig) : ∀ (n : Nat) (v8_2 : Int), V.loopN (V.loopF laws_eqSigS.E Tryz.f124.ntmps [1, 1, 0, 1, 0] [] (V.codeOf Tryz.f124) (laws_eqSigS.kt x0 x1)) n (laws_eqSigS.s8 x0 x1 v8_2) = laws_eqSigS.l8 x0 x1 n v8_2 := by
  intro n
  induction n with
  | zero => intros; rfl
  | succ n ih =>
    intro v8_2
    show V.loopF laws_eqSigS.E Tryz.f124.ntmps [1, 1, 0, 1, 0] [] (V.codeOf Tryz.f124) (laws_eqSigS.kt x0 x1) (V.loopN (V.loopF laws_eqSigS.E Tryz.f124.ntmps [1, 1, 0, 1, 0] [] (V.codeOf Tryz.f124) (laws_eqSigS.kt x0 x1)) n) (laws_eqSigS.s8 x0 x1 v8_2) = _
    rw [laws_eqSigS.r8]
    simp only [ih]
    rfl
theorem laws_eqSigS.v (x0 : List TSig) (x1 : List TSig) : V.evBody laws_eqSigS.E laws_eqSigS.con Tryz.f124 ((x0, x1) : List TSig × List TSig) = laws_eqSigS.b x0 x1 (fun v8_2 => V.loopN (V.loopF laws_eqSigS.E Tryz.f124.ntmps [1, 1, 0, 1, 0] [] (V.codeOf Tryz.f124) (laws_eqSigS.kt x0 x1)) V.KK (laws_eqSigS.s8 x0 x1 v8_2)) := by kernel_rfl
theorem laws_eqSigS.eq (x0 : List TSig) (x1 : List TSig) : V.evBody laws_eqSigS.E laws_eqSigS.con Tryz.f124 ((x0, x1) : List TSig × List TSig) = laws_eqSigS x0 x1 := by
  rw [laws_eqSigS.v]
  simp only [laws_eqSigS.e8]
  rfl
theorem laws_eqSigS.ok : V.Valid Tryz.prog 124 laws_eqSigS.con :=
  V.body_ok (V.env_ok V.mixed V.tysOk (V.tab_cons laws_eqSig.ok V.tab_nil)) Tryz.func124 (by kernel_rfl) (by kernel_rfl) (by kernel_rfl) (fun x y h => (show V.evBody laws_eqSigS.E laws_eqSigS.con Tryz.f124 x = _ from laws_eqSigS.eq x.1 x.2).trans h)
noncomputable abbrev laws_eqSigned.con : V.Con := ⟨V.A8, (.cons .bool .nil), fun (x : V.D8) => laws_eqSigned (V.p8_0 x) (V.p8_1 x), [], [(true, 17), (true, 17)], [(false, 1)], [false], []⟩
noncomputable abbrev laws_eqSigned.E : V.Env := V.mkE V.tys [(19, laws_eqHead.con), (124, laws_eqSigS.con)] [] [] [] [] []
noncomputable abbrev laws_eqSigned.kt (x0 : TSigned) (x1 : TSigned) : V.Kt Bool := V.ktOf laws_eqSigned.E laws_eqSigned.con Tryz.f43 (V.fl8 x0 x1)
noncomputable abbrev laws_eqSigned.s (x0 : TSigned) (x1 : TSigned) : V.St := ⟨[(0, .v true [.val (.int .i64 x0.1), .val (.int .i64 x0.2.1), .val (.int .i64 x0.2.2.1), .val (.int .i64 x0.2.2.2.1), .val (.int .i64 x0.2.2.2.2.1), .val (.int .i64 x0.2.2.2.2.2.1), .val (.int .i64 x0.2.2.2.2.2.2.1), .val (.int .i64 x0.2.2.2.2.2.2.2.1), .val (.sl (.cons (.int .i64) .nil) x0.2.2.2.2.2.2.2.2.1), .val (.int .i64 x0.2.2.2.2.2.2.2.2.2.1), .val (.sl (.cons (.int .i64) .nil) x0.2.2.2.2.2.2.2.2.2.2.1), .val (.int .i64 x0.2.2.2.2.2.2.2.2.2.2.2.1), .val (.int .i64 x0.2.2.2.2.2.2.2.2.2.2.2.2.1), .val (.sl (.cons (.int .i64) .nil) x0.2.2.2.2.2.2.2.2.2.2.2.2.2.1), .val (.int .i64 x0.2.2.2.2.2.2.2.2.2.2.2.2.2.2.1), .val (.bool x0.2.2.2.2.2.2.2.2.2.2.2.2.2.2.2.1), .val (.sl (.cons (.int .i64) (.cons (.int .i64) .nil)) x0.2.2.2.2.2.2.2.2.2.2.2.2.2.2.2.2)]), (1, .v true [.val (.int .i64 x1.1), .val (.int .i64 x1.2.1), .val (.int .i64 x1.2.2.1), .val (.int .i64 x1.2.2.2.1), .val (.int .i64 x1.2.2.2.2.1), .val (.int .i64 x1.2.2.2.2.2.1), .val (.int .i64 x1.2.2.2.2.2.2.1), .val (.int .i64 x1.2.2.2.2.2.2.2.1), .val (.sl (.cons (.int .i64) .nil) x1.2.2.2.2.2.2.2.2.1), .val (.int .i64 x1.2.2.2.2.2.2.2.2.2.1), .val (.sl (.cons (.int .i64) .nil) x1.2.2.2.2.2.2.2.2.2.2.1), .val (.int .i64 x1.2.2.2.2.2.2.2.2.2.2.2.1), .val (.int .i64 x1.2.2.2.2.2.2.2.2.2.2.2.2.1), .val (.sl (.cons (.int .i64) .nil) x1.2.2.2.2.2.2.2.2.2.2.2.2.2.1), .val (.int .i64 x1.2.2.2.2.2.2.2.2.2.2.2.2.2.2.1), .val (.bool x1.2.2.2.2.2.2.2.2.2.2.2.2.2.2.2.1), .val (.sl (.cons (.int .i64) (.cons (.int .i64) .nil)) x1.2.2.2.2.2.2.2.2.2.2.2.2.2.2.2.2)])], []⟩
theorem laws_eqSigned.v0 (x0 : TSigned) (x1 : TSigned) : V.evBody laws_eqSigned.E laws_eqSigned.con Tryz.f43 (V.fl8 x0 x1) = V.evC laws_eqSigned.E Tryz.f43.ntmps (V.codeOf Tryz.f43) (laws_eqSigned.kt x0 x1) (laws_eqSigned.s x0 x1) := by kernel_rfl
theorem laws_eqSigned.v (x0 : TSigned) (x1 : TSigned) : V.evC laws_eqSigned.E Tryz.f43.ntmps (V.codeOf Tryz.f43) (laws_eqSigned.kt x0 x1) (laws_eqSigned.s x0 x1) = laws_eqSigned x0 x1 := by kernel_rfl
theorem laws_eqSigned.eq (x0 : TSigned) (x1 : TSigned) : V.evBody laws_eqSigned.E laws_eqSigned.con Tryz.f43 (V.fl8 x0 x1) = laws_eqSigned x0 x1 := (laws_eqSigned.v0 x0 x1).trans (laws_eqSigned.v x0 x1)
theorem laws_eqSigned.ok : V.Valid Tryz.prog 43 laws_eqSigned.con :=
  V.body_ok (V.env_ok V.mixed V.tysOk (V.tab_cons laws_eqHead.ok (V.tab_cons laws_eqSigS.ok V.tab_nil))) Tryz.func43 (by kernel_rfl) (by kernel_rfl) (by kernel_rfl) (fun x y h => (show V.evBody laws_eqSigned.E laws_eqSigned.con Tryz.f43 x = _ from laws_eqSigned.eq (V.p8_0 x) (V.p8_1 x)).trans h)
noncomputable abbrev laws_eqSignedS.con : V.Con := ⟨(.cons (.sl V.eSigned) (.cons (.sl V.eSigned) .nil)), (.cons .bool .nil), fun (x : List TSigned × List TSigned) => laws_eqSignedS x.1 x.2, [], [(false, 1), (false, 1)], [(false, 1)], [false], []⟩
noncomputable abbrev laws_eqSignedS.E : V.Env := V.mkE V.tys [(43, laws_eqSigned.con)] [(8, [0, 1, 5], [])] [(6, 8)] [] [] []
noncomputable abbrev laws_eqSignedS.kt (x0 : List TSigned) (x1 : List TSigned) : V.Kt Bool := V.ktOf laws_eqSignedS.E laws_eqSignedS.con Tryz.f20 ((x0, x1) : List TSigned × List TSigned)
noncomputable abbrev laws_eqSignedS.s8 (x0 : List TSigned) (x1 : List TSigned) (v8_2 : Int) : V.St := ⟨[(0, .v false [.val (.sl V.eSigned x0)]), (1, .v false [.val (.sl V.eSigned x1)]), (5, .v false [.val (.int .i64 v8_2)])], []⟩
theorem laws_eqSignedS.r8 (x0 : List TSigned) (x1 : List TSigned) (R : V.St → Option Bool) (v8_2 : Int) : V.loopF laws_eqSignedS.E Tryz.f20.ntmps [1, 1, 0, 1, 0] [] (V.codeOf Tryz.f20) (laws_eqSignedS.kt x0 x1) R (laws_eqSignedS.s8 x0 x1 v8_2) = laws_eqSignedS.g8 x0 x1 (fun v8_2 => R (laws_eqSignedS.s8 x0 x1 v8_2)) v8_2 := by kernel_rfl
theorem laws_eqSignedS.e8 (x0 : List TSigned) (x1 : List TSigned) : ∀ (n : Nat) (v8_2 : Int), V.loopN (V.loopF laws_eqSignedS.E Tryz.f20.ntmps [1, 1, 0, 1, 0] [] (V.codeOf Tryz.f20) (laws_eqSignedS.kt x0 x1)) n (laws_eqSignedS.s8 x0 x1 v8_2) = laws_eqSignedS.l8 x0 x1 n v8_2 := by
  intro n
  induction n with
  | zero => intros; rfl
  | succ n ih =>
    intro v8_2
    show V.loopF laws_eqSignedS.E Tryz.f20.ntmps [1, 1, 0, 1, 0] [] (V.codeOf Tryz.f20) (laws_eqSignedS.kt x0 x1) (V.loopN (V.loopF laws_eqSignedS.E Tryz.f20.ntmps [1, 1, 0, 1, 0] [] (V.codeOf Tryz.f20) (laws_eqSignedS.kt x0 x1)) n) (laws_eqSignedS.s8 x0 x1 v8_2) = _
    rw [laws_eqSignedS.r8]
    simp only [ih]
    rfl
theorem laws_eqSignedS.v (x0 : List TSigned) (x1 : List TSigned) : V.evBody laws_eqSignedS.E laws_eqSignedS.con Tryz.f20 ((x0, x1) : List TSigned × List TSigned) = laws_eqSignedS.b x0 x1 (fun v8_2 => V.loopN (V.loopF laws_eqSignedS.E Tryz.f20.ntmps [1, 1, 0, 1, 0] [] (V.codeOf Tryz.f20) (laws_eqSignedS.kt x0 x1)) V.KK (laws_eqSignedS.s8 x0 x1 v8_2)) := by kernel_rfl
theorem laws_eqSignedS.eq (x0 : List TSigned) (x1 : List TSigned) : V.evBody laws_eqSignedS.E laws_eqSignedS.con Tryz.f20 ((x0, x1) : List TSigned × List TSigned) = laws_eqSignedS x0 x1 := by
  rw [laws_eqSignedS.v]
  simp only [laws_eqSignedS.e8]
  rfl
theorem laws_eqSignedS.ok : V.Valid Tryz.prog 20 laws_eqSignedS.con :=
  V.body_ok (V.env_ok V.mixed V.tysOk (V.tab_cons laws_eqSigned.ok V.tab_nil)) Tryz.func20 (by kernel_rfl) (by kernel_rfl) (by kernel_rfl) (fun x y h => (show V.evBody laws_eqSignedS.E laws_eqSignedS.con Tryz.f20 x = _ from laws_eqSignedS.eq x.1 x.2).trans h)
noncomputable abbrev laws_markIntS.con : V.Con := ⟨(.cons (.sl (.cons (.int .i64) .nil)) (.cons (.int .i64) .nil)), (.cons (.sl (.cons (.int .i64) .nil)) (.cons (.int .i64) .nil)), fun (x : List Int × Int) => laws_markIntS x.1 x.2, [(0, false)], [(false, 1), (false, 1)], [(false, 1)], [false], []⟩
noncomputable abbrev laws_markIntS.E : V.Env := V.mkE V.tys [] [(4, [0, 1, 5], [])] [] [] [] []
noncomputable abbrev laws_markIntS.kt (x0 : List Int) (x1 : Int) : V.Kt TKeys := V.ktOf laws_markIntS.E laws_markIntS.con Tryz.f90 ((x0, x1) : List Int × Int)
noncomputable abbrev laws_markIntS.s4 (v4_0 : Int) (v4_1 : Int) (v4_2 : List Int) : V.St := ⟨[(0, .v false [.ref 0]), (1, .v false [.val (.int .i64 v4_0)]), (5, .v false [.val (.int .i64 v4_1)])], [(0, .row (.cons (.int .i64) .nil) true v4_2)]⟩
theorem laws_markIntS.r4 (x0 : List Int) (x1 : Int) (R : V.St → Option TKeys) (v4_0 : Int) (v4_1 : Int) (v4_2 : List Int) : V.loopF laws_markIntS.E Tryz.f90.ntmps [1, 0, 1, 0] [] (V.codeOf Tryz.f90) (laws_markIntS.kt x0 x1) R (laws_markIntS.s4 v4_0 v4_1 v4_2) = laws_markIntS.g4 (fun v4_0 v4_1 v4_2 => R (laws_markIntS.s4 v4_0 v4_1 v4_2)) v4_0 v4_1 v4_2 := by kernel_rfl
theorem laws_markIntS.e4 (x0 : List Int) (x1 : Int) : ∀ (n : Nat) (v4_0 : Int) (v4_1 : Int) (v4_2 : List Int), V.loopN (V.loopF laws_markIntS.E Tryz.f90.ntmps [1, 0, 1, 0] [] (V.codeOf Tryz.f90) (laws_markIntS.kt x0 x1)) n (laws_markIntS.s4 v4_0 v4_1 v4_2) = laws_markIntS.l4 n v4_0 v4_1 v4_2 := by
  intro n
  induction n with
  | zero => intros; rfl
  | succ n ih =>
    intro v4_0 v4_1 v4_2
    show V.loopF laws_markIntS.E Tryz.f90.ntmps [1, 0, 1, 0] [] (V.codeOf Tryz.f90) (laws_markIntS.kt x0 x1) (V.loopN (V.loopF laws_markIntS.E Tryz.f90.ntmps [1, 0, 1, 0] [] (V.codeOf Tryz.f90) (laws_markIntS.kt x0 x1)) n) (laws_markIntS.s4 v4_0 v4_1 v4_2) = _
    rw [laws_markIntS.r4]
    simp only [ih]
    rfl
theorem laws_markIntS.v (x0 : List Int) (x1 : Int) : V.evBody laws_markIntS.E laws_markIntS.con Tryz.f90 ((x0, x1) : List Int × Int) = laws_markIntS.b x0 x1 (fun v4_0 v4_1 v4_2 => V.loopN (V.loopF laws_markIntS.E Tryz.f90.ntmps [1, 0, 1, 0] [] (V.codeOf Tryz.f90) (laws_markIntS.kt x0 x1)) V.KK (laws_markIntS.s4 v4_0 v4_1 v4_2)) := by kernel_rfl
theorem laws_markIntS.eq (x0 : List Int) (x1 : Int) : V.evBody laws_markIntS.E laws_markIntS.con Tryz.f90 ((x0, x1) : List Int × Int) = laws_markIntS x0 x1 := by
  rw [laws_markIntS.v]
  simp only [laws_markIntS.e4]
  rfl
theorem laws_markIntS.ok : V.Valid Tryz.prog 90 laws_markIntS.con :=
  V.body_ok (V.env_ok V.mixed V.tysOk V.tab_nil) Tryz.func90 (by kernel_rfl) (by kernel_rfl) (by kernel_rfl) (fun x y h => (show V.evBody laws_markIntS.E laws_markIntS.con Tryz.f90 x = _ from laws_markIntS.eq x.1 x.2).trans h)
noncomputable abbrev laws_markSigS.con : V.Con := ⟨(.cons (.sl (.cons (.int .i64) (.cons (.int .i64) .nil))) (.cons (.int .i64) .nil)), (.cons (.sl (.cons (.int .i64) (.cons (.int .i64) .nil))) (.cons (.int .i64) .nil)), fun (x : List TSig × Int) => laws_markSigS x.1 x.2, [(0, false)], [(false, 1), (false, 1)], [(false, 1)], [false], []⟩
noncomputable abbrev laws_markSigS.E : V.Env := V.mkE V.tys [] [(4, [0, 1, 5], [])] [] [] [] []
noncomputable abbrev laws_markSigS.kt (x0 : List TSig) (x1 : Int) : V.Kt (List TSig × Int) := V.ktOf laws_markSigS.E laws_markSigS.con Tryz.f91 ((x0, x1) : List TSig × Int)
noncomputable abbrev laws_markSigS.s4 (v4_0 : Int) (v4_1 : Int) (v4_2 : List TSig) : V.St := ⟨[(0, .v false [.ref 0]), (1, .v false [.val (.int .i64 v4_0)]), (5, .v false [.val (.int .i64 v4_1)])], [(0, .row (.cons (.int .i64) (.cons (.int .i64) .nil)) true v4_2)]⟩
theorem laws_markSigS.r4 (x0 : List TSig) (x1 : Int) (R : V.St → Option (List TSig × Int)) (v4_0 : Int) (v4_1 : Int) (v4_2 : List TSig) : V.loopF laws_markSigS.E Tryz.f91.ntmps [1, 0, 1, 0] [] (V.codeOf Tryz.f91) (laws_markSigS.kt x0 x1) R (laws_markSigS.s4 v4_0 v4_1 v4_2) = laws_markSigS.g4 (fun v4_0 v4_1 v4_2 => R (laws_markSigS.s4 v4_0 v4_1 v4_2)) v4_0 v4_1 v4_2 := by kernel_rfl
theorem laws_markSigS.e4 (x0 : List TSig) (x1 : Int) : ∀ (n : Nat) (v4_0 : Int) (v4_1 : Int) (v4_2 : List TSig), V.loopN (V.loopF laws_markSigS.E Tryz.f91.ntmps [1, 0, 1, 0] [] (V.codeOf Tryz.f91) (laws_markSigS.kt x0 x1)) n (laws_markSigS.s4 v4_0 v4_1 v4_2) = laws_markSigS.l4 n v4_0 v4_1 v4_2 := by
  intro n
  induction n with
  | zero => intros; rfl
  | succ n ih =>
    intro v4_0 v4_1 v4_2
    show V.loopF laws_markSigS.E Tryz.f91.ntmps [1, 0, 1, 0] [] (V.codeOf Tryz.f91) (laws_markSigS.kt x0 x1) (V.loopN (V.loopF laws_markSigS.E Tryz.f91.ntmps [1, 0, 1, 0] [] (V.codeOf Tryz.f91) (laws_markSigS.kt x0 x1)) n) (laws_markSigS.s4 v4_0 v4_1 v4_2) = _
    rw [laws_markSigS.r4]
    simp only [ih]
    rfl
theorem laws_markSigS.v (x0 : List TSig) (x1 : Int) : V.evBody laws_markSigS.E laws_markSigS.con Tryz.f91 ((x0, x1) : List TSig × Int) = laws_markSigS.b x0 x1 (fun v4_0 v4_1 v4_2 => V.loopN (V.loopF laws_markSigS.E Tryz.f91.ntmps [1, 0, 1, 0] [] (V.codeOf Tryz.f91) (laws_markSigS.kt x0 x1)) V.KK (laws_markSigS.s4 v4_0 v4_1 v4_2)) := by kernel_rfl
theorem laws_markSigS.eq (x0 : List TSig) (x1 : Int) : V.evBody laws_markSigS.E laws_markSigS.con Tryz.f91 ((x0, x1) : List TSig × Int) = laws_markSigS x0 x1 := by
  rw [laws_markSigS.v]
  simp only [laws_markSigS.e4]
  rfl
theorem laws_markSigS.ok : V.Valid Tryz.prog 91 laws_markSigS.con :=
  V.body_ok (V.env_ok V.mixed V.tysOk V.tab_nil) Tryz.func91 (by kernel_rfl) (by kernel_rfl) (by kernel_rfl) (fun x y h => (show V.evBody laws_markSigS.E laws_markSigS.con Tryz.f91 x = _ from laws_markSigS.eq x.1 x.2).trans h)
noncomputable abbrev laws_markSignedS.con : V.Con := ⟨(.cons (.sl V.eSigned) (.cons (.int .i64) .nil)), (.cons (.sl V.eSigned) (.cons (.int .i64) .nil)), fun (x : List TSigned × Int) => laws_markSignedS x.1 x.2, [(0, false)], [(false, 1), (false, 1)], [(false, 1)], [false], []⟩
noncomputable abbrev laws_markSignedS.E : V.Env := V.mkE V.tys [(90, laws_markIntS.con), (91, laws_markSigS.con)] [(4, [0, 1, 5], [])] [] [] [] []
noncomputable abbrev laws_markSignedS.kt (x0 : List TSigned) (x1 : Int) : V.Kt (List TSigned × Int) := V.ktOf laws_markSignedS.E laws_markSignedS.con Tryz.f21 ((x0, x1) : List TSigned × Int)
noncomputable abbrev laws_markSignedS.s4 (v4_0 : Int) (v4_1 : Int) (v4_2 : List TSigned) : V.St := ⟨[(0, .v false [.ref 0]), (1, .v false [.val (.int .i64 v4_0)]), (5, .v false [.val (.int .i64 v4_1)])], [(0, .row V.eSigned true v4_2)]⟩
theorem laws_markSignedS.r4 (x0 : List TSigned) (x1 : Int) (R : V.St → Option (List TSigned × Int)) (v4_0 : Int) (v4_1 : Int) (v4_2 : List TSigned) : V.loopF laws_markSignedS.E Tryz.f21.ntmps [1, 0, 1, 0] [] (V.codeOf Tryz.f21) (laws_markSignedS.kt x0 x1) R (laws_markSignedS.s4 v4_0 v4_1 v4_2) = laws_markSignedS.g4 (fun v4_0 v4_1 v4_2 => R (laws_markSignedS.s4 v4_0 v4_1 v4_2)) v4_0 v4_1 v4_2 := by kernel_rfl
theorem laws_markSignedS.e4 (x0 : List TSigned) (x1 : Int) : ∀ (n : Nat) (v4_0 : Int) (v4_1 : Int) (v4_2 : List TSigned), V.loopN (V.loopF laws_markSignedS.E Tryz.f21.ntmps [1, 0, 1, 0] [] (V.codeOf Tryz.f21) (laws_markSignedS.kt x0 x1)) n (laws_markSignedS.s4 v4_0 v4_1 v4_2) = laws_markSignedS.l4 n v4_0 v4_1 v4_2 := by
  intro n
  induction n with
  | zero => intros; rfl
  | succ n ih =>
    intro v4_0 v4_1 v4_2
    show V.loopF laws_markSignedS.E Tryz.f21.ntmps [1, 0, 1, 0] [] (V.codeOf Tryz.f21) (laws_markSignedS.kt x0 x1) (V.loopN (V.loopF laws_markSignedS.E Tryz.f21.ntmps [1, 0, 1, 0] [] (V.codeOf Tryz.f21) (laws_markSignedS.kt x0 x1)) n) (laws_markSignedS.s4 v4_0 v4_1 v4_2) = _
    rw [laws_markSignedS.r4]
    simp only [ih]
    rfl
theorem laws_markSignedS.v (x0 : List TSigned) (x1 : Int) : V.evBody laws_markSignedS.E laws_markSignedS.con Tryz.f21 ((x0, x1) : List TSigned × Int) = laws_markSignedS.b x0 x1 (fun v4_0 v4_1 v4_2 => V.loopN (V.loopF laws_markSignedS.E Tryz.f21.ntmps [1, 0, 1, 0] [] (V.codeOf Tryz.f21) (laws_markSignedS.kt x0 x1)) V.KK (laws_markSignedS.s4 v4_0 v4_1 v4_2)) := by kernel_rfl
theorem laws_markSignedS.eq (x0 : List TSigned) (x1 : Int) : V.evBody laws_markSignedS.E laws_markSignedS.con Tryz.f21 ((x0, x1) : List TSigned × Int) = laws_markSignedS x0 x1 := by
  rw [laws_markSignedS.v]
  simp only [laws_markSignedS.e4]
  rfl
theorem laws_markSignedS.ok : V.Valid Tryz.prog 21 laws_markSignedS.con :=
  V.body_ok (V.env_ok V.mixed V.tysOk (V.tab_cons laws_markIntS.ok (V.tab_cons laws_markSigS.ok V.tab_nil))) Tryz.func21 (by kernel_rfl) (by kernel_rfl) (by kernel_rfl) (fun x y h => (show V.evBody laws_markSignedS.E laws_markSignedS.con Tryz.f21 x = _ from laws_markSignedS.eq x.1 x.2).trans h)
noncomputable abbrev laws_markKeys.con : V.Con := ⟨(.cons (.sl (.cons (.int .i64) .nil)) (.cons (.int .i64) (.cons (.int .i64) .nil))), (.cons (.sl (.cons (.int .i64) .nil)) (.cons (.int .i64) .nil)), fun (x : List Int × Int × Int) => laws_markKeys (x.1, x.2.1) x.2.2, [(0, false)], [(true, 2), (false, 1)], [(false, 1)], [false], []⟩
noncomputable abbrev laws_markKeys.E : V.Env := V.mkE V.tys [(90, laws_markIntS.con)] [] [] [] [] []
noncomputable abbrev laws_markKeys.kt (x0 : TKeys) (x1 : Int) : V.Kt TKeys := V.ktOf laws_markKeys.E laws_markKeys.con Tryz.f77 ((x0.1, x0.2, x1) : List Int × Int × Int)
theorem laws_markKeys.eq (x0 : TKeys) (x1 : Int) : V.evBody laws_markKeys.E laws_markKeys.con Tryz.f77 ((x0.1, x0.2, x1) : List Int × Int × Int) = laws_markKeys x0 x1 := by kernel_rfl
theorem laws_markKeys.ok : V.Valid Tryz.prog 77 laws_markKeys.con :=
  V.body_ok (V.env_ok V.mixed V.tysOk (V.tab_cons laws_markIntS.ok V.tab_nil)) Tryz.func77 (by kernel_rfl) (by kernel_rfl) (by kernel_rfl) (fun x y h => (show V.evBody laws_markKeys.E laws_markKeys.con Tryz.f77 x = _ from laws_markKeys.eq (x.1, x.2.1) x.2.2).trans h)
noncomputable abbrev laws_markHead.con : V.Con := ⟨V.A0, (.cons (.sl (.cons (.int .i64) .nil)) (.cons (.sl (.cons (.int .i64) .nil)) (.cons (.sl (.cons (.int .i64) .nil)) (.cons (.int .i64) .nil)))), fun (x : V.D0) => laws_markHead (V.p0_0 x) (V.p0_1 x), [(8, false), (10, false), (13, false)], [(true, 16), (false, 1)], [(false, 1)], [false], []⟩
noncomputable abbrev laws_markHead.E : V.Env := V.mkE V.tys [(77, laws_markKeys.con)] [] [] [] [] []
noncomputable abbrev laws_markHead.kt (x0 : THead) (x1 : Int) : V.Kt (List Int × List Int × List Int × Int) := V.ktOf laws_markHead.E laws_markHead.con Tryz.f22 (V.fl0 x0 x1)
noncomputable abbrev laws_markHead.s (x0 : THead) (x1 : Int) : V.St := ⟨[(0, .v true [.val (.int .i64 x0.1), .val (.int .i64 x0.2.1), .val (.int .i64 x0.2.2.1), .val (.int .i64 x0.2.2.2.1), .val (.int .i64 x0.2.2.2.2.1), .val (.int .i64 x0.2.2.2.2.2.1), .val (.int .i64 x0.2.2.2.2.2.2.1), .val (.int .i64 x0.2.2.2.2.2.2.2.1), .ref 8, .val (.int .i64 x0.2.2.2.2.2.2.2.2.2.1), .ref 10, .val (.int .i64 x0.2.2.2.2.2.2.2.2.2.2.2.1), .val (.int .i64 x0.2.2.2.2.2.2.2.2.2.2.2.2.1), .ref 13, .val (.int .i64 x0.2.2.2.2.2.2.2.2.2.2.2.2.2.2.1), .val (.bool x0.2.2.2.2.2.2.2.2.2.2.2.2.2.2.2)]), (1, .v false [.val (.int .i64 x1)])], [(8, .row (.cons (.int .i64) .nil) true x0.2.2.2.2.2.2.2.2.1), (10, .row (.cons (.int .i64) .nil) true x0.2.2.2.2.2.2.2.2.2.2.1), (13, .row (.cons (.int .i64) .nil) true x0.2.2.2.2.2.2.2.2.2.2.2.2.2.1)]⟩
theorem laws_markHead.v0 (x0 : THead) (x1 : Int) : V.evBody laws_markHead.E laws_markHead.con Tryz.f22 (V.fl0 x0 x1) = V.evC laws_markHead.E Tryz.f22.ntmps (V.codeOf Tryz.f22) (laws_markHead.kt x0 x1) (laws_markHead.s x0 x1) := by kernel_rfl
theorem laws_markHead.v (x0 : THead) (x1 : Int) : V.evC laws_markHead.E Tryz.f22.ntmps (V.codeOf Tryz.f22) (laws_markHead.kt x0 x1) (laws_markHead.s x0 x1) = laws_markHead x0 x1 := by kernel_rfl
theorem laws_markHead.eq (x0 : THead) (x1 : Int) : V.evBody laws_markHead.E laws_markHead.con Tryz.f22 (V.fl0 x0 x1) = laws_markHead x0 x1 := (laws_markHead.v0 x0 x1).trans (laws_markHead.v x0 x1)
theorem laws_markHead.ok : V.Valid Tryz.prog 22 laws_markHead.con :=
  V.body_ok (V.env_ok V.mixed V.tysOk (V.tab_cons laws_markKeys.ok V.tab_nil)) Tryz.func22 (by kernel_rfl) (by kernel_rfl) (by kernel_rfl) (fun x y h => (show V.evBody laws_markHead.E laws_markHead.con Tryz.f22 x = _ from laws_markHead.eq (V.p0_0 x) (V.p0_1 x)).trans h)
noncomputable abbrev laws_markSigned.con : V.Con := ⟨V.A1, (.cons (.sl (.cons (.int .i64) .nil)) (.cons (.sl (.cons (.int .i64) .nil)) (.cons (.sl (.cons (.int .i64) .nil)) (.cons (.sl (.cons (.int .i64) (.cons (.int .i64) .nil))) (.cons (.int .i64) .nil))))), fun (x : V.D1) => laws_markSigned (V.p1_0 x) (V.p1_1 x), [(8, false), (10, false), (13, false), (16, false)], [(true, 17), (false, 1)], [(false, 1)], [false], []⟩
noncomputable abbrev laws_markSigned.E : V.Env := V.mkE V.tys [(22, laws_markHead.con), (91, laws_markSigS.con)] [] [] [] [] []
noncomputable abbrev laws_markSigned.kt (x0 : TSigned) (x1 : Int) : V.Kt (List Int × List Int × List Int × List TSig × Int) := V.ktOf laws_markSigned.E laws_markSigned.con Tryz.f44 (V.fl1 x0 x1)
noncomputable abbrev laws_markSigned.s (x0 : TSigned) (x1 : Int) : V.St := ⟨[(0, .v true [.val (.int .i64 x0.1), .val (.int .i64 x0.2.1), .val (.int .i64 x0.2.2.1), .val (.int .i64 x0.2.2.2.1), .val (.int .i64 x0.2.2.2.2.1), .val (.int .i64 x0.2.2.2.2.2.1), .val (.int .i64 x0.2.2.2.2.2.2.1), .val (.int .i64 x0.2.2.2.2.2.2.2.1), .ref 8, .val (.int .i64 x0.2.2.2.2.2.2.2.2.2.1), .ref 10, .val (.int .i64 x0.2.2.2.2.2.2.2.2.2.2.2.1), .val (.int .i64 x0.2.2.2.2.2.2.2.2.2.2.2.2.1), .ref 13, .val (.int .i64 x0.2.2.2.2.2.2.2.2.2.2.2.2.2.2.1), .val (.bool x0.2.2.2.2.2.2.2.2.2.2.2.2.2.2.2.1), .ref 16]), (1, .v false [.val (.int .i64 x1)])], [(8, .row (.cons (.int .i64) .nil) true x0.2.2.2.2.2.2.2.2.1), (10, .row (.cons (.int .i64) .nil) true x0.2.2.2.2.2.2.2.2.2.2.1), (13, .row (.cons (.int .i64) .nil) true x0.2.2.2.2.2.2.2.2.2.2.2.2.2.1), (16, .row (.cons (.int .i64) (.cons (.int .i64) .nil)) true x0.2.2.2.2.2.2.2.2.2.2.2.2.2.2.2.2)]⟩
theorem laws_markSigned.v0 (x0 : TSigned) (x1 : Int) : V.evBody laws_markSigned.E laws_markSigned.con Tryz.f44 (V.fl1 x0 x1) = V.evC laws_markSigned.E Tryz.f44.ntmps (V.codeOf Tryz.f44) (laws_markSigned.kt x0 x1) (laws_markSigned.s x0 x1) := by kernel_rfl
theorem laws_markSigned.v (x0 : TSigned) (x1 : Int) : V.evC laws_markSigned.E Tryz.f44.ntmps (V.codeOf Tryz.f44) (laws_markSigned.kt x0 x1) (laws_markSigned.s x0 x1) = laws_markSigned x0 x1 := by kernel_rfl
theorem laws_markSigned.eq (x0 : TSigned) (x1 : Int) : V.evBody laws_markSigned.E laws_markSigned.con Tryz.f44 (V.fl1 x0 x1) = laws_markSigned x0 x1 := (laws_markSigned.v0 x0 x1).trans (laws_markSigned.v x0 x1)
theorem laws_markSigned.ok : V.Valid Tryz.prog 44 laws_markSigned.con :=
  V.body_ok (V.env_ok V.mixed V.tysOk (V.tab_cons laws_markHead.ok (V.tab_cons laws_markSigS.ok V.tab_nil))) Tryz.func44 (by kernel_rfl) (by kernel_rfl) (by kernel_rfl) (fun x y h => (show V.evBody laws_markSigned.E laws_markSigned.con Tryz.f44 x = _ from laws_markSigned.eq (V.p1_0 x) (V.p1_1 x)).trans h)
noncomputable abbrev laws_heldIntS.con : V.Con := ⟨(.cons (.sl (.cons (.int .i64) .nil)) (.cons (.int .i64) .nil)), (.cons (.int .i64) .nil), fun (x : List Int × Int) => laws_heldIntS x.1 x.2, [], [(false, 1), (false, 1)], [(false, 1)], [false], []⟩
noncomputable abbrev laws_heldIntS.E : V.Env := V.mkE V.tys [] [(4, [0, 1, 5], [])] [] [] [] []
noncomputable abbrev laws_heldIntS.kt (x0 : List Int) (x1 : Int) : V.Kt Int := V.ktOf laws_heldIntS.E laws_heldIntS.con Tryz.f125 ((x0, x1) : List Int × Int)
noncomputable abbrev laws_heldIntS.s4 (x0 : List Int) (v4_1 : Int) (v4_2 : Int) : V.St := ⟨[(0, .v false [.val (.sl (.cons (.int .i64) .nil) x0)]), (1, .v false [.val (.int .i64 v4_1)]), (5, .v false [.val (.int .i64 v4_2)])], []⟩
theorem laws_heldIntS.r4 (x0 : List Int) (x1 : Int) (R : V.St → Option Int) (v4_1 : Int) (v4_2 : Int) : V.loopF laws_heldIntS.E Tryz.f125.ntmps [1, 0, 1, 0] [] (V.codeOf Tryz.f125) (laws_heldIntS.kt x0 x1) R (laws_heldIntS.s4 x0 v4_1 v4_2) = laws_heldIntS.g4 x0 (fun v4_1 v4_2 => R (laws_heldIntS.s4 x0 v4_1 v4_2)) v4_1 v4_2 := by kernel_rfl
theorem laws_heldIntS.e4 (x0 : List Int) (x1 : Int) : ∀ (n : Nat) (v4_1 : Int) (v4_2 : Int), V.loopN (V.loopF laws_heldIntS.E Tryz.f125.ntmps [1, 0, 1, 0] [] (V.codeOf Tryz.f125) (laws_heldIntS.kt x0 x1)) n (laws_heldIntS.s4 x0 v4_1 v4_2) = laws_heldIntS.l4 x0 n v4_1 v4_2 := by
  intro n
  induction n with
  | zero => intros; rfl
  | succ n ih =>
    intro v4_1 v4_2
    show V.loopF laws_heldIntS.E Tryz.f125.ntmps [1, 0, 1, 0] [] (V.codeOf Tryz.f125) (laws_heldIntS.kt x0 x1) (V.loopN (V.loopF laws_heldIntS.E Tryz.f125.ntmps [1, 0, 1, 0] [] (V.codeOf Tryz.f125) (laws_heldIntS.kt x0 x1)) n) (laws_heldIntS.s4 x0 v4_1 v4_2) = _
    rw [laws_heldIntS.r4]
    simp only [ih]
    rfl
theorem laws_heldIntS.v (x0 : List Int) (x1 : Int) : V.evBody laws_heldIntS.E laws_heldIntS.con Tryz.f125 ((x0, x1) : List Int × Int) = laws_heldIntS.b x0 x1 (fun v4_1 v4_2 => V.loopN (V.loopF laws_heldIntS.E Tryz.f125.ntmps [1, 0, 1, 0] [] (V.codeOf Tryz.f125) (laws_heldIntS.kt x0 x1)) V.KK (laws_heldIntS.s4 x0 v4_1 v4_2)) := by kernel_rfl
theorem laws_heldIntS.eq (x0 : List Int) (x1 : Int) : V.evBody laws_heldIntS.E laws_heldIntS.con Tryz.f125 ((x0, x1) : List Int × Int) = laws_heldIntS x0 x1 := by
  rw [laws_heldIntS.v]
  simp only [laws_heldIntS.e4]
  rfl
theorem laws_heldIntS.ok : V.Valid Tryz.prog 125 laws_heldIntS.con :=
  V.body_ok (V.env_ok V.mixed V.tysOk V.tab_nil) Tryz.func125 (by kernel_rfl) (by kernel_rfl) (by kernel_rfl) (fun x y h => (show V.evBody laws_heldIntS.E laws_heldIntS.con Tryz.f125 x = _ from laws_heldIntS.eq x.1 x.2).trans h)
noncomputable abbrev laws_heldSigS.con : V.Con := ⟨(.cons (.sl (.cons (.int .i64) (.cons (.int .i64) .nil))) (.cons (.int .i64) .nil)), (.cons (.int .i64) .nil), fun (x : List TSig × Int) => laws_heldSigS x.1 x.2, [], [(false, 1), (false, 1)], [(false, 1)], [false], []⟩
noncomputable abbrev laws_heldSigS.E : V.Env := V.mkE V.tys [] [(4, [0, 1, 5], [])] [] [] [] []
noncomputable abbrev laws_heldSigS.kt (x0 : List TSig) (x1 : Int) : V.Kt Int := V.ktOf laws_heldSigS.E laws_heldSigS.con Tryz.f126 ((x0, x1) : List TSig × Int)
noncomputable abbrev laws_heldSigS.s4 (x0 : List TSig) (v4_1 : Int) (v4_2 : Int) : V.St := ⟨[(0, .v false [.val (.sl (.cons (.int .i64) (.cons (.int .i64) .nil)) x0)]), (1, .v false [.val (.int .i64 v4_1)]), (5, .v false [.val (.int .i64 v4_2)])], []⟩
theorem laws_heldSigS.r4 (x0 : List TSig) (x1 : Int) (R : V.St → Option Int) (v4_1 : Int) (v4_2 : Int) : V.loopF laws_heldSigS.E Tryz.f126.ntmps [1, 0, 1, 0] [] (V.codeOf Tryz.f126) (laws_heldSigS.kt x0 x1) R (laws_heldSigS.s4 x0 v4_1 v4_2) = laws_heldSigS.g4 x0 (fun v4_1 v4_2 => R (laws_heldSigS.s4 x0 v4_1 v4_2)) v4_1 v4_2 := by kernel_rfl
theorem laws_heldSigS.e4 (x0 : List TSig) (x1 : Int) : ∀ (n : Nat) (v4_1 : Int) (v4_2 : Int), V.loopN (V.loopF laws_heldSigS.E Tryz.f126.ntmps [1, 0, 1, 0] [] (V.codeOf Tryz.f126) (laws_heldSigS.kt x0 x1)) n (laws_heldSigS.s4 x0 v4_1 v4_2) = laws_heldSigS.l4 x0 n v4_1 v4_2 := by
  intro n
  induction n with
  | zero => intros; rfl
  | succ n ih =>
    intro v4_1 v4_2
    show V.loopF laws_heldSigS.E Tryz.f126.ntmps [1, 0, 1, 0] [] (V.codeOf Tryz.f126) (laws_heldSigS.kt x0 x1) (V.loopN (V.loopF laws_heldSigS.E Tryz.f126.ntmps [1, 0, 1, 0] [] (V.codeOf Tryz.f126) (laws_heldSigS.kt x0 x1)) n) (laws_heldSigS.s4 x0 v4_1 v4_2) = _
    rw [laws_heldSigS.r4]
    simp only [ih]
    rfl
theorem laws_heldSigS.v (x0 : List TSig) (x1 : Int) : V.evBody laws_heldSigS.E laws_heldSigS.con Tryz.f126 ((x0, x1) : List TSig × Int) = laws_heldSigS.b x0 x1 (fun v4_1 v4_2 => V.loopN (V.loopF laws_heldSigS.E Tryz.f126.ntmps [1, 0, 1, 0] [] (V.codeOf Tryz.f126) (laws_heldSigS.kt x0 x1)) V.KK (laws_heldSigS.s4 x0 v4_1 v4_2)) := by kernel_rfl
theorem laws_heldSigS.eq (x0 : List TSig) (x1 : Int) : V.evBody laws_heldSigS.E laws_heldSigS.con Tryz.f126 ((x0, x1) : List TSig × Int) = laws_heldSigS x0 x1 := by
  rw [laws_heldSigS.v]
  simp only [laws_heldSigS.e4]
  rfl
theorem laws_heldSigS.ok : V.Valid Tryz.prog 126 laws_heldSigS.con :=
  V.body_ok (V.env_ok V.mixed V.tysOk V.tab_nil) Tryz.func126 (by kernel_rfl) (by kernel_rfl) (by kernel_rfl) (fun x y h => (show V.evBody laws_heldSigS.E laws_heldSigS.con Tryz.f126 x = _ from laws_heldSigS.eq x.1 x.2).trans h)
end Go.Proofs.YtjjkidinelnmkaaGreat
