/- That the functions compute it. -/
import Derived.Test.YtmplinobompncaaGreatXRenewZonePure0
import Derived.Test.YtmplinobompncaaGreatProg
namespace Go.Proofs.YtmplinobompncaaGreat
set_option linter.unusedVariables false
set_option maxRecDepth 100000
namespace V
abbrev eEntry : ETy := (.cons .str (.cons (.int .i64) (.cons (.int .i64) (.cons (.sl (.cons .str .nil)) .nil))))
abbrev eHead : ETy := (.cons (.int .i64) (.cons (.int .i64) (.cons (.int .i64) (.cons (.int .i64) (.cons (.int .i64) (.cons (.int .i64) (.cons (.int .i64) (.cons (.int .i64) (.cons (.sl (.cons (.int .i64) .nil)) (.cons (.int .i64) (.cons (.sl (.cons (.int .i64) .nil)) (.cons (.int .i64) (.cons (.int .i64) (.cons (.sl (.cons (.int .i64) .nil)) (.cons (.int .i64) (.cons .bool .nil))))))))))))))))
abbrev eRHeadBool : ETy := (.cons (.int .i64) (.cons (.int .i64) (.cons (.int .i64) (.cons (.int .i64) (.cons (.int .i64) (.cons (.int .i64) (.cons (.int .i64) (.cons (.int .i64) (.cons (.sl (.cons (.int .i64) .nil)) (.cons (.int .i64) (.cons (.sl (.cons (.int .i64) .nil)) (.cons (.int .i64) (.cons (.int .i64) (.cons (.sl (.cons (.int .i64) .nil)) (.cons (.int .i64) (.cons .bool (.cons .bool .nil)))))))))))))))))
abbrev eSigned : ETy := (.cons (.int .i64) (.cons (.int .i64) (.cons (.int .i64) (.cons (.int .i64) (.cons (.int .i64) (.cons (.int .i64) (.cons (.int .i64) (.cons (.int .i64) (.cons (.sl (.cons (.int .i64) .nil)) (.cons (.int .i64) (.cons (.sl (.cons (.int .i64) .nil)) (.cons (.int .i64) (.cons (.int .i64) (.cons (.sl (.cons (.int .i64) .nil)) (.cons (.int .i64) (.cons .bool (.cons (.sl (.cons (.int .i64) (.cons (.int .i64) .nil))) .nil)))))))))))))))))
abbrev eRZoneListListIntInt : ETy := (.cons (.sl eSigned) (.cons (.sl eEntry) (.cons (.sl (.cons (.int .i64) .nil)) (.cons (.sl eEntry) (.cons (.int .i64) (.cons (.int .i64) .nil))))))
abbrev eRHeadListIntInt : ETy := (.cons (.int .i64) (.cons (.int .i64) (.cons (.int .i64) (.cons (.int .i64) (.cons (.int .i64) (.cons (.int .i64) (.cons (.int .i64) (.cons (.int .i64) (.cons (.sl (.cons (.int .i64) .nil)) (.cons (.int .i64) (.cons (.sl (.cons (.int .i64) .nil)) (.cons (.int .i64) (.cons (.int .i64) (.cons (.sl (.cons (.int .i64) .nil)) (.cons (.int .i64) (.cons .bool (.cons (.sl eEntry) (.cons (.int .i64) (.cons (.int .i64) .nil)))))))))))))))))))
abbrev eRListSigned : ETy := (.cons (.sl eSigned) (.cons (.int .i64) (.cons (.int .i64) (.cons (.int .i64) (.cons (.int .i64) (.cons (.int .i64) (.cons (.int .i64) (.cons (.int .i64) (.cons (.int .i64) (.cons (.sl (.cons (.int .i64) .nil)) (.cons (.int .i64) (.cons (.sl (.cons (.int .i64) .nil)) (.cons (.int .i64) (.cons (.int .i64) (.cons (.sl (.cons (.int .i64) .nil)) (.cons (.int .i64) (.cons .bool (.cons (.sl (.cons (.int .i64) (.cons (.int .i64) .nil))) .nil))))))))))))))))))
abbrev eRZoneListHeadList : ETy := (.cons (.sl eSigned) (.cons (.sl eEntry) (.cons (.sl (.cons (.int .i64) .nil)) (.cons (.int .i64) (.cons (.int .i64) (.cons (.int .i64) (.cons (.int .i64) (.cons (.int .i64) (.cons (.int .i64) (.cons (.int .i64) (.cons (.int .i64) (.cons (.sl (.cons (.int .i64) .nil)) (.cons (.int .i64) (.cons (.sl (.cons (.int .i64) .nil)) (.cons (.int .i64) (.cons (.int .i64) (.cons (.sl (.cons (.int .i64) .nil)) (.cons (.int .i64) (.cons .bool (.cons (.sl eEntry) .nil))))))))))))))))))))
abbrev D0 : Type := Int × Int × Int × Int × Int × Int × Int × Int × List Int × Int × List Int × Int × Int × List Int × Int × Bool × Int
abbrev A0 : ETy := (.cons (.int .i64) (.cons (.int .i64) (.cons (.int .i64) (.cons (.int .i64) (.cons (.int .i64) (.cons (.int .i64) (.cons (.int .i64) (.cons (.int .i64) (.cons (.sl (.cons (.int .i64) .nil)) (.cons (.int .i64) (.cons (.sl (.cons (.int .i64) .nil)) (.cons (.int .i64) (.cons (.int .i64) (.cons (.sl (.cons (.int .i64) .nil)) (.cons (.int .i64) (.cons .bool (.cons (.int .i64) .nil)))))))))))))))))
abbrev fl0 (x0 : THead) (x1 : Int) : D0 := (x0.1, x0.2.1, x0.2.2.1, x0.2.2.2.1, x0.2.2.2.2.1, x0.2.2.2.2.2.1, x0.2.2.2.2.2.2.1, x0.2.2.2.2.2.2.2.1, x0.2.2.2.2.2.2.2.2.1, x0.2.2.2.2.2.2.2.2.2.1, x0.2.2.2.2.2.2.2.2.2.2.1, x0.2.2.2.2.2.2.2.2.2.2.2.1, x0.2.2.2.2.2.2.2.2.2.2.2.2.1, x0.2.2.2.2.2.2.2.2.2.2.2.2.2.1, x0.2.2.2.2.2.2.2.2.2.2.2.2.2.2.1, x0.2.2.2.2.2.2.2.2.2.2.2.2.2.2.2, x1)
abbrev p0_0 (x : D0) : THead := (x.1, x.2.1, x.2.2.1, x.2.2.2.1, x.2.2.2.2.1, x.2.2.2.2.2.1, x.2.2.2.2.2.2.1, x.2.2.2.2.2.2.2.1, x.2.2.2.2.2.2.2.2.1, x.2.2.2.2.2.2.2.2.2.1, x.2.2.2.2.2.2.2.2.2.2.1, x.2.2.2.2.2.2.2.2.2.2.2.1, x.2.2.2.2.2.2.2.2.2.2.2.2.1, x.2.2.2.2.2.2.2.2.2.2.2.2.2.1, x.2.2.2.2.2.2.2.2.2.2.2.2.2.2.1, x.2.2.2.2.2.2.2.2.2.2.2.2.2.2.2.1)
abbrev p0_1 (x : D0) : Int := x.2.2.2.2.2.2.2.2.2.2.2.2.2.2.2.2
abbrev D1 : Type := Int × Int × Int × Int × Int × Int × Int × Int × List Int × Int × List Int × Int × Int × List Int × Int × Bool × List TSig × Int
abbrev A1 : ETy := (.cons (.int .i64) (.cons (.int .i64) (.cons (.int .i64) (.cons (.int .i64) (.cons (.int .i64) (.cons (.int .i64) (.cons (.int .i64) (.cons (.int .i64) (.cons (.sl (.cons (.int .i64) .nil)) (.cons (.int .i64) (.cons (.sl (.cons (.int .i64) .nil)) (.cons (.int .i64) (.cons (.int .i64) (.cons (.sl (.cons (.int .i64) .nil)) (.cons (.int .i64) (.cons .bool (.cons (.sl (.cons (.int .i64) (.cons (.int .i64) .nil))) (.cons (.int .i64) .nil))))))))))))))))))
abbrev fl1 (x0 : TSigned) (x1 : Int) : D1 := (x0.1, x0.2.1, x0.2.2.1, x0.2.2.2.1, x0.2.2.2.2.1, x0.2.2.2.2.2.1, x0.2.2.2.2.2.2.1, x0.2.2.2.2.2.2.2.1, x0.2.2.2.2.2.2.2.2.1, x0.2.2.2.2.2.2.2.2.2.1, x0.2.2.2.2.2.2.2.2.2.2.1, x0.2.2.2.2.2.2.2.2.2.2.2.1, x0.2.2.2.2.2.2.2.2.2.2.2.2.1, x0.2.2.2.2.2.2.2.2.2.2.2.2.2.1, x0.2.2.2.2.2.2.2.2.2.2.2.2.2.2.1, x0.2.2.2.2.2.2.2.2.2.2.2.2.2.2.2.1, x0.2.2.2.2.2.2.2.2.2.2.2.2.2.2.2.2, x1)
abbrev p1_0 (x : D1) : TSigned := (x.1, x.2.1, x.2.2.1, x.2.2.2.1, x.2.2.2.2.1, x.2.2.2.2.2.1, x.2.2.2.2.2.2.1, x.2.2.2.2.2.2.2.1, x.2.2.2.2.2.2.2.2.1, x.2.2.2.2.2.2.2.2.2.1, x.2.2.2.2.2.2.2.2.2.2.1, x.2.2.2.2.2.2.2.2.2.2.2.1, x.2.2.2.2.2.2.2.2.2.2.2.2.1, x.2.2.2.2.2.2.2.2.2.2.2.2.2.1, x.2.2.2.2.2.2.2.2.2.2.2.2.2.2.1, x.2.2.2.2.2.2.2.2.2.2.2.2.2.2.2.1, x.2.2.2.2.2.2.2.2.2.2.2.2.2.2.2.2.1)
abbrev p1_1 (x : D1) : Int := x.2.2.2.2.2.2.2.2.2.2.2.2.2.2.2.2.2
abbrev D2 : Type := Int × Int × Int × Int × Int × Int × Int × Int × List Int × Int × List Int × Int × Int × List Int × Int × Bool
abbrev A2 : ETy := eHead
abbrev fl2 (x0 : THead) : D2 := (x0.1, x0.2.1, x0.2.2.1, x0.2.2.2.1, x0.2.2.2.2.1, x0.2.2.2.2.2.1, x0.2.2.2.2.2.2.1, x0.2.2.2.2.2.2.2.1, x0.2.2.2.2.2.2.2.2.1, x0.2.2.2.2.2.2.2.2.2.1, x0.2.2.2.2.2.2.2.2.2.2.1, x0.2.2.2.2.2.2.2.2.2.2.2.1, x0.2.2.2.2.2.2.2.2.2.2.2.2.1, x0.2.2.2.2.2.2.2.2.2.2.2.2.2.1, x0.2.2.2.2.2.2.2.2.2.2.2.2.2.2.1, x0.2.2.2.2.2.2.2.2.2.2.2.2.2.2.2)
abbrev p2_0 (x : D2) : THead := x
abbrev D3 : Type := Int × Int × Int × Int × Int × Int × Int × Int × List Int × Int × List Int × Int × Int × List Int × Int × Bool × List TSig
abbrev A3 : ETy := eSigned
abbrev fl3 (x0 : TSigned) : D3 := (x0.1, x0.2.1, x0.2.2.1, x0.2.2.2.1, x0.2.2.2.2.1, x0.2.2.2.2.2.1, x0.2.2.2.2.2.2.1, x0.2.2.2.2.2.2.2.1, x0.2.2.2.2.2.2.2.2.1, x0.2.2.2.2.2.2.2.2.2.1, x0.2.2.2.2.2.2.2.2.2.2.1, x0.2.2.2.2.2.2.2.2.2.2.2.1, x0.2.2.2.2.2.2.2.2.2.2.2.2.1, x0.2.2.2.2.2.2.2.2.2.2.2.2.2.1, x0.2.2.2.2.2.2.2.2.2.2.2.2.2.2.1, x0.2.2.2.2.2.2.2.2.2.2.2.2.2.2.2.1, x0.2.2.2.2.2.2.2.2.2.2.2.2.2.2.2.2)
abbrev p3_0 (x : D3) : TSigned := x
abbrev D4 : Type := Int × Int × Int × Int × Int × Int × Int × Int × List Int × Int × List Int × Int × Int × List Int × Int × Bool × Int × Int × Int × Int × Int × Int × Int × Int × List Int × Int × List Int × Int × Int × List Int × Int × Bool
abbrev A4 : ETy := (.cons (.int .i64) (.cons (.int .i64) (.cons (.int .i64) (.cons (.int .i64) (.cons (.int .i64) (.cons (.int .i64) (.cons (.int .i64) (.cons (.int .i64) (.cons (.sl (.cons (.int .i64) .nil)) (.cons (.int .i64) (.cons (.sl (.cons (.int .i64) .nil)) (.cons (.int .i64) (.cons (.int .i64) (.cons (.sl (.cons (.int .i64) .nil)) (.cons (.int .i64) (.cons .bool (.cons (.int .i64) (.cons (.int .i64) (.cons (.int .i64) (.cons (.int .i64) (.cons (.int .i64) (.cons (.int .i64) (.cons (.int .i64) (.cons (.int .i64) (.cons (.sl (.cons (.int .i64) .nil)) (.cons (.int .i64) (.cons (.sl (.cons (.int .i64) .nil)) (.cons (.int .i64) (.cons (.int .i64) (.cons (.sl (.cons (.int .i64) .nil)) (.cons (.int .i64) (.cons .bool .nil))))))))))))))))))))))))))))))))
abbrev fl4 (x0 : THead) (x1 : THead) : D4 := (x0.1, x0.2.1, x0.2.2.1, x0.2.2.2.1, x0.2.2.2.2.1, x0.2.2.2.2.2.1, x0.2.2.2.2.2.2.1, x0.2.2.2.2.2.2.2.1, x0.2.2.2.2.2.2.2.2.1, x0.2.2.2.2.2.2.2.2.2.1, x0.2.2.2.2.2.2.2.2.2.2.1, x0.2.2.2.2.2.2.2.2.2.2.2.1, x0.2.2.2.2.2.2.2.2.2.2.2.2.1, x0.2.2.2.2.2.2.2.2.2.2.2.2.2.1, x0.2.2.2.2.2.2.2.2.2.2.2.2.2.2.1, x0.2.2.2.2.2.2.2.2.2.2.2.2.2.2.2, x1.1, x1.2.1, x1.2.2.1, x1.2.2.2.1, x1.2.2.2.2.1, x1.2.2.2.2.2.1, x1.2.2.2.2.2.2.1, x1.2.2.2.2.2.2.2.1, x1.2.2.2.2.2.2.2.2.1, x1.2.2.2.2.2.2.2.2.2.1, x1.2.2.2.2.2.2.2.2.2.2.1, x1.2.2.2.2.2.2.2.2.2.2.2.1, x1.2.2.2.2.2.2.2.2.2.2.2.2.1, x1.2.2.2.2.2.2.2.2.2.2.2.2.2.1, x1.2.2.2.2.2.2.2.2.2.2.2.2.2.2.1, x1.2.2.2.2.2.2.2.2.2.2.2.2.2.2.2)
abbrev p4_0 (x : D4) : THead := (x.1, x.2.1, x.2.2.1, x.2.2.2.1, x.2.2.2.2.1, x.2.2.2.2.2.1, x.2.2.2.2.2.2.1, x.2.2.2.2.2.2.2.1, x.2.2.2.2.2.2.2.2.1, x.2.2.2.2.2.2.2.2.2.1, x.2.2.2.2.2.2.2.2.2.2.1, x.2.2.2.2.2.2.2.2.2.2.2.1, x.2.2.2.2.2.2.2.2.2.2.2.2.1, x.2.2.2.2.2.2.2.2.2.2.2.2.2.1, x.2.2.2.2.2.2.2.2.2.2.2.2.2.2.1, x.2.2.2.2.2.2.2.2.2.2.2.2.2.2.2.1)
abbrev p4_1 (x : D4) : THead := x.2.2.2.2.2.2.2.2.2.2.2.2.2.2.2.2
abbrev D5 : Type := Int × Int × Int × Int × Int × Int × Int × Int × List Int × Int × List Int × Int × Int × List Int × Int × Bool × Int × Int × Int × Int × Int × Int × Int × Int × List Int × Int × List Int × Int × Int × List Int × Int × Bool × List TSig
abbrev A5 : ETy := (.cons (.int .i64) (.cons (.int .i64) (.cons (.int .i64) (.cons (.int .i64) (.cons (.int .i64) (.cons (.int .i64) (.cons (.int .i64) (.cons (.int .i64) (.cons (.sl (.cons (.int .i64) .nil)) (.cons (.int .i64) (.cons (.sl (.cons (.int .i64) .nil)) (.cons (.int .i64) (.cons (.int .i64) (.cons (.sl (.cons (.int .i64) .nil)) (.cons (.int .i64) (.cons .bool (.cons (.int .i64) (.cons (.int .i64) (.cons (.int .i64) (.cons (.int .i64) (.cons (.int .i64) (.cons (.int .i64) (.cons (.int .i64) (.cons (.int .i64) (.cons (.sl (.cons (.int .i64) .nil)) (.cons (.int .i64) (.cons (.sl (.cons (.int .i64) .nil)) (.cons (.int .i64) (.cons (.int .i64) (.cons (.sl (.cons (.int .i64) .nil)) (.cons (.int .i64) (.cons .bool (.cons (.sl (.cons (.int .i64) (.cons (.int .i64) .nil))) .nil)))))))))))))))))))))))))))))))))
abbrev fl5 (x0 : THead) (x1 : TSigned) : D5 := (x0.1, x0.2.1, x0.2.2.1, x0.2.2.2.1, x0.2.2.2.2.1, x0.2.2.2.2.2.1, x0.2.2.2.2.2.2.1, x0.2.2.2.2.2.2.2.1, x0.2.2.2.2.2.2.2.2.1, x0.2.2.2.2.2.2.2.2.2.1, x0.2.2.2.2.2.2.2.2.2.2.1, x0.2.2.2.2.2.2.2.2.2.2.2.1, x0.2.2.2.2.2.2.2.2.2.2.2.2.1, x0.2.2.2.2.2.2.2.2.2.2.2.2.2.1, x0.2.2.2.2.2.2.2.2.2.2.2.2.2.2.1, x0.2.2.2.2.2.2.2.2.2.2.2.2.2.2.2, x1.1, x1.2.1, x1.2.2.1, x1.2.2.2.1, x1.2.2.2.2.1, x1.2.2.2.2.2.1, x1.2.2.2.2.2.2.1, x1.2.2.2.2.2.2.2.1, x1.2.2.2.2.2.2.2.2.1, x1.2.2.2.2.2.2.2.2.2.1, x1.2.2.2.2.2.2.2.2.2.2.1, x1.2.2.2.2.2.2.2.2.2.2.2.1, x1.2.2.2.2.2.2.2.2.2.2.2.2.1, x1.2.2.2.2.2.2.2.2.2.2.2.2.2.1, x1.2.2.2.2.2.2.2.2.2.2.2.2.2.2.1, x1.2.2.2.2.2.2.2.2.2.2.2.2.2.2.2.1, x1.2.2.2.2.2.2.2.2.2.2.2.2.2.2.2.2)
abbrev p5_0 (x : D5) : THead := (x.1, x.2.1, x.2.2.1, x.2.2.2.1, x.2.2.2.2.1, x.2.2.2.2.2.1, x.2.2.2.2.2.2.1, x.2.2.2.2.2.2.2.1, x.2.2.2.2.2.2.2.2.1, x.2.2.2.2.2.2.2.2.2.1, x.2.2.2.2.2.2.2.2.2.2.1, x.2.2.2.2.2.2.2.2.2.2.2.1, x.2.2.2.2.2.2.2.2.2.2.2.2.1, x.2.2.2.2.2.2.2.2.2.2.2.2.2.1, x.2.2.2.2.2.2.2.2.2.2.2.2.2.2.1, x.2.2.2.2.2.2.2.2.2.2.2.2.2.2.2.1)
abbrev p5_1 (x : D5) : TSigned := x.2.2.2.2.2.2.2.2.2.2.2.2.2.2.2.2
abbrev D6 : Type := Int × Int × Int × Int × Int × Int × Int × Int × List Int × Int × List Int × Int × Int × List Int × Int × Bool × Int × Int × Int
abbrev A6 : ETy := (.cons (.int .i64) (.cons (.int .i64) (.cons (.int .i64) (.cons (.int .i64) (.cons (.int .i64) (.cons (.int .i64) (.cons (.int .i64) (.cons (.int .i64) (.cons (.sl (.cons (.int .i64) .nil)) (.cons (.int .i64) (.cons (.sl (.cons (.int .i64) .nil)) (.cons (.int .i64) (.cons (.int .i64) (.cons (.sl (.cons (.int .i64) .nil)) (.cons (.int .i64) (.cons .bool (.cons (.int .i64) (.cons (.int .i64) (.cons (.int .i64) .nil)))))))))))))))))))
abbrev fl6 (x0 : THead) (x1 : Int) (x2 : Int) (x3 : Int) : D6 := (x0.1, x0.2.1, x0.2.2.1, x0.2.2.2.1, x0.2.2.2.2.1, x0.2.2.2.2.2.1, x0.2.2.2.2.2.2.1, x0.2.2.2.2.2.2.2.1, x0.2.2.2.2.2.2.2.2.1, x0.2.2.2.2.2.2.2.2.2.1, x0.2.2.2.2.2.2.2.2.2.2.1, x0.2.2.2.2.2.2.2.2.2.2.2.1, x0.2.2.2.2.2.2.2.2.2.2.2.2.1, x0.2.2.2.2.2.2.2.2.2.2.2.2.2.1, x0.2.2.2.2.2.2.2.2.2.2.2.2.2.2.1, x0.2.2.2.2.2.2.2.2.2.2.2.2.2.2.2, x1, x2, x3)
abbrev p6_0 (x : D6) : THead := (x.1, x.2.1, x.2.2.1, x.2.2.2.1, x.2.2.2.2.1, x.2.2.2.2.2.1, x.2.2.2.2.2.2.1, x.2.2.2.2.2.2.2.1, x.2.2.2.2.2.2.2.2.1, x.2.2.2.2.2.2.2.2.2.1, x.2.2.2.2.2.2.2.2.2.2.1, x.2.2.2.2.2.2.2.2.2.2.2.1, x.2.2.2.2.2.2.2.2.2.2.2.2.1, x.2.2.2.2.2.2.2.2.2.2.2.2.2.1, x.2.2.2.2.2.2.2.2.2.2.2.2.2.2.1, x.2.2.2.2.2.2.2.2.2.2.2.2.2.2.2.1)
abbrev p6_1 (x : D6) : Int := x.2.2.2.2.2.2.2.2.2.2.2.2.2.2.2.2.1
abbrev p6_2 (x : D6) : Int := x.2.2.2.2.2.2.2.2.2.2.2.2.2.2.2.2.2.1
abbrev p6_3 (x : D6) : Int := x.2.2.2.2.2.2.2.2.2.2.2.2.2.2.2.2.2.2
abbrev D7 : Type := Int × Int × Int × Int × Int × Int × Int × Int × List Int × Int × List Int × Int × Int × List Int × Int × Bool × List TEntry × Int × Int
abbrev A7 : ETy := eRHeadListIntInt
abbrev fl7 (x0 : THead) (x1 : List TEntry) (x2 : Int) (x3 : Int) : D7 := (x0.1, x0.2.1, x0.2.2.1, x0.2.2.2.1, x0.2.2.2.2.1, x0.2.2.2.2.2.1, x0.2.2.2.2.2.2.1, x0.2.2.2.2.2.2.2.1, x0.2.2.2.2.2.2.2.2.1, x0.2.2.2.2.2.2.2.2.2.1, x0.2.2.2.2.2.2.2.2.2.2.1, x0.2.2.2.2.2.2.2.2.2.2.2.1, x0.2.2.2.2.2.2.2.2.2.2.2.2.1, x0.2.2.2.2.2.2.2.2.2.2.2.2.2.1, x0.2.2.2.2.2.2.2.2.2.2.2.2.2.2.1, x0.2.2.2.2.2.2.2.2.2.2.2.2.2.2.2, x1, x2, x3)
abbrev p7_0 (x : D7) : THead := (x.1, x.2.1, x.2.2.1, x.2.2.2.1, x.2.2.2.2.1, x.2.2.2.2.2.1, x.2.2.2.2.2.2.1, x.2.2.2.2.2.2.2.1, x.2.2.2.2.2.2.2.2.1, x.2.2.2.2.2.2.2.2.2.1, x.2.2.2.2.2.2.2.2.2.2.1, x.2.2.2.2.2.2.2.2.2.2.2.1, x.2.2.2.2.2.2.2.2.2.2.2.2.1, x.2.2.2.2.2.2.2.2.2.2.2.2.2.1, x.2.2.2.2.2.2.2.2.2.2.2.2.2.2.1, x.2.2.2.2.2.2.2.2.2.2.2.2.2.2.2.1)
abbrev p7_1 (x : D7) : List TEntry := x.2.2.2.2.2.2.2.2.2.2.2.2.2.2.2.2.1
abbrev p7_2 (x : D7) : Int := x.2.2.2.2.2.2.2.2.2.2.2.2.2.2.2.2.2.1
abbrev p7_3 (x : D7) : Int := x.2.2.2.2.2.2.2.2.2.2.2.2.2.2.2.2.2.2
abbrev D8 : Type := List Int × List Int × Int × Int × Int × Int × Int × Int × Int × Int × Int × List Int × Int × List Int × Int × Int × List Int × Int × Bool
abbrev A8 : ETy := (.cons (.sl (.cons (.int .i64) .nil)) (.cons (.sl (.cons (.int .i64) .nil)) (.cons (.int .i64) (.cons (.int .i64) (.cons (.int .i64) (.cons (.int .i64) (.cons (.int .i64) (.cons (.int .i64) (.cons (.int .i64) (.cons (.int .i64) (.cons (.int .i64) (.cons (.sl (.cons (.int .i64) .nil)) (.cons (.int .i64) (.cons (.sl (.cons (.int .i64) .nil)) (.cons (.int .i64) (.cons (.int .i64) (.cons (.sl (.cons (.int .i64) .nil)) (.cons (.int .i64) (.cons .bool .nil)))))))))))))))))))
abbrev fl8 (x0 : List Int) (x1 : TKeys) (x2 : THead) : D8 := (x0, x1.1, x1.2, x2.1, x2.2.1, x2.2.2.1, x2.2.2.2.1, x2.2.2.2.2.1, x2.2.2.2.2.2.1, x2.2.2.2.2.2.2.1, x2.2.2.2.2.2.2.2.1, x2.2.2.2.2.2.2.2.2.1, x2.2.2.2.2.2.2.2.2.2.1, x2.2.2.2.2.2.2.2.2.2.2.1, x2.2.2.2.2.2.2.2.2.2.2.2.1, x2.2.2.2.2.2.2.2.2.2.2.2.2.1, x2.2.2.2.2.2.2.2.2.2.2.2.2.2.1, x2.2.2.2.2.2.2.2.2.2.2.2.2.2.2.1, x2.2.2.2.2.2.2.2.2.2.2.2.2.2.2.2)
abbrev p8_0 (x : D8) : List Int := x.1
abbrev p8_1 (x : D8) : TKeys := (x.2.1, x.2.2.1)
abbrev p8_2 (x : D8) : THead := x.2.2.2
abbrev D9 : Type := Int × Int × Int × Int × Int × Int × Int × Int × List Int × Int × List Int × Int × Int × List Int × Int × Bool × Int × Int × Int × Int × Int × Int × Int × Int × List Int × Int × List Int × Int × Int × List Int × Int × Bool × List Int
abbrev A9 : ETy := (.cons (.int .i64) (.cons (.int .i64) (.cons (.int .i64) (.cons (.int .i64) (.cons (.int .i64) (.cons (.int .i64) (.cons (.int .i64) (.cons (.int .i64) (.cons (.sl (.cons (.int .i64) .nil)) (.cons (.int .i64) (.cons (.sl (.cons (.int .i64) .nil)) (.cons (.int .i64) (.cons (.int .i64) (.cons (.sl (.cons (.int .i64) .nil)) (.cons (.int .i64) (.cons .bool (.cons (.int .i64) (.cons (.int .i64) (.cons (.int .i64) (.cons (.int .i64) (.cons (.int .i64) (.cons (.int .i64) (.cons (.int .i64) (.cons (.int .i64) (.cons (.sl (.cons (.int .i64) .nil)) (.cons (.int .i64) (.cons (.sl (.cons (.int .i64) .nil)) (.cons (.int .i64) (.cons (.int .i64) (.cons (.sl (.cons (.int .i64) .nil)) (.cons (.int .i64) (.cons .bool (.cons (.sl (.cons (.int .i64) .nil)) .nil)))))))))))))))))))))))))))))))))
abbrev fl9 (x0 : THead) (x1 : THead) (x2 : List Int) : D9 := (x0.1, x0.2.1, x0.2.2.1, x0.2.2.2.1, x0.2.2.2.2.1, x0.2.2.2.2.2.1, x0.2.2.2.2.2.2.1, x0.2.2.2.2.2.2.2.1, x0.2.2.2.2.2.2.2.2.1, x0.2.2.2.2.2.2.2.2.2.1, x0.2.2.2.2.2.2.2.2.2.2.1, x0.2.2.2.2.2.2.2.2.2.2.2.1, x0.2.2.2.2.2.2.2.2.2.2.2.2.1, x0.2.2.2.2.2.2.2.2.2.2.2.2.2.1, x0.2.2.2.2.2.2.2.2.2.2.2.2.2.2.1, x0.2.2.2.2.2.2.2.2.2.2.2.2.2.2.2, x1.1, x1.2.1, x1.2.2.1, x1.2.2.2.1, x1.2.2.2.2.1, x1.2.2.2.2.2.1, x1.2.2.2.2.2.2.1, x1.2.2.2.2.2.2.2.1, x1.2.2.2.2.2.2.2.2.1, x1.2.2.2.2.2.2.2.2.2.1, x1.2.2.2.2.2.2.2.2.2.2.1, x1.2.2.2.2.2.2.2.2.2.2.2.1, x1.2.2.2.2.2.2.2.2.2.2.2.2.1, x1.2.2.2.2.2.2.2.2.2.2.2.2.2.1, x1.2.2.2.2.2.2.2.2.2.2.2.2.2.2.1, x1.2.2.2.2.2.2.2.2.2.2.2.2.2.2.2, x2)
abbrev p9_0 (x : D9) : THead := (x.1, x.2.1, x.2.2.1, x.2.2.2.1, x.2.2.2.2.1, x.2.2.2.2.2.1, x.2.2.2.2.2.2.1, x.2.2.2.2.2.2.2.1, x.2.2.2.2.2.2.2.2.1, x.2.2.2.2.2.2.2.2.2.1, x.2.2.2.2.2.2.2.2.2.2.1, x.2.2.2.2.2.2.2.2.2.2.2.1, x.2.2.2.2.2.2.2.2.2.2.2.2.1, x.2.2.2.2.2.2.2.2.2.2.2.2.2.1, x.2.2.2.2.2.2.2.2.2.2.2.2.2.2.1, x.2.2.2.2.2.2.2.2.2.2.2.2.2.2.2.1)
abbrev p9_1 (x : D9) : THead := (x.2.2.2.2.2.2.2.2.2.2.2.2.2.2.2.2.1, x.2.2.2.2.2.2.2.2.2.2.2.2.2.2.2.2.2.1, x.2.2.2.2.2.2.2.2.2.2.2.2.2.2.2.2.2.2.1, x.2.2.2.2.2.2.2.2.2.2.2.2.2.2.2.2.2.2.2.1, x.2.2.2.2.2.2.2.2.2.2.2.2.2.2.2.2.2.2.2.2.1, x.2.2.2.2.2.2.2.2.2.2.2.2.2.2.2.2.2.2.2.2.2.1, x.2.2.2.2.2.2.2.2.2.2.2.2.2.2.2.2.2.2.2.2.2.2.1, x.2.2.2.2.2.2.2.2.2.2.2.2.2.2.2.2.2.2.2.2.2.2.2.1, x.2.2.2.2.2.2.2.2.2.2.2.2.2.2.2.2.2.2.2.2.2.2.2.2.1, x.2.2.2.2.2.2.2.2.2.2.2.2.2.2.2.2.2.2.2.2.2.2.2.2.2.1, x.2.2.2.2.2.2.2.2.2.2.2.2.2.2.2.2.2.2.2.2.2.2.2.2.2.2.1, x.2.2.2.2.2.2.2.2.2.2.2.2.2.2.2.2.2.2.2.2.2.2.2.2.2.2.2.1, x.2.2.2.2.2.2.2.2.2.2.2.2.2.2.2.2.2.2.2.2.2.2.2.2.2.2.2.2.1, x.2.2.2.2.2.2.2.2.2.2.2.2.2.2.2.2.2.2.2.2.2.2.2.2.2.2.2.2.2.1, x.2.2.2.2.2.2.2.2.2.2.2.2.2.2.2.2.2.2.2.2.2.2.2.2.2.2.2.2.2.2.1, x.2.2.2.2.2.2.2.2.2.2.2.2.2.2.2.2.2.2.2.2.2.2.2.2.2.2.2.2.2.2.2.1)
abbrev p9_2 (x : D9) : List Int := x.2.2.2.2.2.2.2.2.2.2.2.2.2.2.2.2.2.2.2.2.2.2.2.2.2.2.2.2.2.2.2.2
abbrev D10 : Type := List TSigned × Int × Int × Int × Int × Int × Int × Int × Int × List Int × Int × List Int × Int × Int × List Int × Int × Bool × List TSig
abbrev A10 : ETy := eRListSigned
abbrev fl10 (x0 : List TSigned) (x1 : TSigned) : D10 := (x0, x1.1, x1.2.1, x1.2.2.1, x1.2.2.2.1, x1.2.2.2.2.1, x1.2.2.2.2.2.1, x1.2.2.2.2.2.2.1, x1.2.2.2.2.2.2.2.1, x1.2.2.2.2.2.2.2.2.1, x1.2.2.2.2.2.2.2.2.2.1, x1.2.2.2.2.2.2.2.2.2.2.1, x1.2.2.2.2.2.2.2.2.2.2.2.1, x1.2.2.2.2.2.2.2.2.2.2.2.2.1, x1.2.2.2.2.2.2.2.2.2.2.2.2.2.1, x1.2.2.2.2.2.2.2.2.2.2.2.2.2.2.1, x1.2.2.2.2.2.2.2.2.2.2.2.2.2.2.2.1, x1.2.2.2.2.2.2.2.2.2.2.2.2.2.2.2.2)
abbrev p10_0 (x : D10) : List TSigned := x.1
abbrev p10_1 (x : D10) : TSigned := x.2
abbrev D11 : Type := List TSigned × List TEntry × List Int × Int × Int × Int × Int × Int × Int × Int × Int × List Int × Int × List Int × Int × Int × List Int × Int × Bool × List TEntry
abbrev A11 : ETy := eRZoneListHeadList
abbrev fl11 (x0 : TZone) (x1 : List Int) (x2 : THead) (x3 : List TEntry) : D11 := (x0.1, x0.2, x1, x2.1, x2.2.1, x2.2.2.1, x2.2.2.2.1, x2.2.2.2.2.1, x2.2.2.2.2.2.1, x2.2.2.2.2.2.2.1, x2.2.2.2.2.2.2.2.1, x2.2.2.2.2.2.2.2.2.1, x2.2.2.2.2.2.2.2.2.2.1, x2.2.2.2.2.2.2.2.2.2.2.1, x2.2.2.2.2.2.2.2.2.2.2.2.1, x2.2.2.2.2.2.2.2.2.2.2.2.2.1, x2.2.2.2.2.2.2.2.2.2.2.2.2.2.1, x2.2.2.2.2.2.2.2.2.2.2.2.2.2.2.1, x2.2.2.2.2.2.2.2.2.2.2.2.2.2.2.2, x3)
abbrev p11_0 (x : D11) : TZone := (x.1, x.2.1)
abbrev p11_1 (x : D11) : List Int := x.2.2.1
abbrev p11_2 (x : D11) : THead := (x.2.2.2.1, x.2.2.2.2.1, x.2.2.2.2.2.1, x.2.2.2.2.2.2.1, x.2.2.2.2.2.2.2.1, x.2.2.2.2.2.2.2.2.1, x.2.2.2.2.2.2.2.2.2.1, x.2.2.2.2.2.2.2.2.2.2.1, x.2.2.2.2.2.2.2.2.2.2.2.1, x.2.2.2.2.2.2.2.2.2.2.2.2.1, x.2.2.2.2.2.2.2.2.2.2.2.2.2.1, x.2.2.2.2.2.2.2.2.2.2.2.2.2.2.1, x.2.2.2.2.2.2.2.2.2.2.2.2.2.2.2.1, x.2.2.2.2.2.2.2.2.2.2.2.2.2.2.2.2.1, x.2.2.2.2.2.2.2.2.2.2.2.2.2.2.2.2.2.1, x.2.2.2.2.2.2.2.2.2.2.2.2.2.2.2.2.2.2.1)
abbrev p11_3 (x : D11) : List TEntry := x.2.2.2.2.2.2.2.2.2.2.2.2.2.2.2.2.2.2.2
abbrev D12 : Type := Int × Int × Int × Int × Int × Int × Int × Int × List Int × Int × List Int × Int × Int × List Int × Int × Bool × List TSig × List Int × Int
abbrev A12 : ETy := (.cons (.int .i64) (.cons (.int .i64) (.cons (.int .i64) (.cons (.int .i64) (.cons (.int .i64) (.cons (.int .i64) (.cons (.int .i64) (.cons (.int .i64) (.cons (.sl (.cons (.int .i64) .nil)) (.cons (.int .i64) (.cons (.sl (.cons (.int .i64) .nil)) (.cons (.int .i64) (.cons (.int .i64) (.cons (.sl (.cons (.int .i64) .nil)) (.cons (.int .i64) (.cons .bool (.cons (.sl (.cons (.int .i64) (.cons (.int .i64) .nil))) (.cons (.sl (.cons (.int .i64) .nil)) (.cons (.int .i64) .nil)))))))))))))))))))
abbrev fl12 (x0 : TSigned) (x1 : TKeys) : D12 := (x0.1, x0.2.1, x0.2.2.1, x0.2.2.2.1, x0.2.2.2.2.1, x0.2.2.2.2.2.1, x0.2.2.2.2.2.2.1, x0.2.2.2.2.2.2.2.1, x0.2.2.2.2.2.2.2.2.1, x0.2.2.2.2.2.2.2.2.2.1, x0.2.2.2.2.2.2.2.2.2.2.1, x0.2.2.2.2.2.2.2.2.2.2.2.1, x0.2.2.2.2.2.2.2.2.2.2.2.2.1, x0.2.2.2.2.2.2.2.2.2.2.2.2.2.1, x0.2.2.2.2.2.2.2.2.2.2.2.2.2.2.1, x0.2.2.2.2.2.2.2.2.2.2.2.2.2.2.2.1, x0.2.2.2.2.2.2.2.2.2.2.2.2.2.2.2.2, x1.1, x1.2)
abbrev p12_0 (x : D12) : TSigned := (x.1, x.2.1, x.2.2.1, x.2.2.2.1, x.2.2.2.2.1, x.2.2.2.2.2.1, x.2.2.2.2.2.2.1, x.2.2.2.2.2.2.2.1, x.2.2.2.2.2.2.2.2.1, x.2.2.2.2.2.2.2.2.2.1, x.2.2.2.2.2.2.2.2.2.2.1, x.2.2.2.2.2.2.2.2.2.2.2.1, x.2.2.2.2.2.2.2.2.2.2.2.2.1, x.2.2.2.2.2.2.2.2.2.2.2.2.2.1, x.2.2.2.2.2.2.2.2.2.2.2.2.2.2.1, x.2.2.2.2.2.2.2.2.2.2.2.2.2.2.2.1, x.2.2.2.2.2.2.2.2.2.2.2.2.2.2.2.2.1)
abbrev p12_1 (x : D12) : TKeys := x.2.2.2.2.2.2.2.2.2.2.2.2.2.2.2.2.2
abbrev D13 : Type := Int × Int × Int × Int × Int × Int × Int × Int × List Int × Int × List Int × Int × Int × List Int × Int × Bool × List TSig × Int × Int × Int × Int × Int × Int × Int × Int × List Int × Int × List Int × Int × Int × List Int × Int × Bool × List TSig
abbrev A13 : ETy := (.cons (.int .i64) (.cons (.int .i64) (.cons (.int .i64) (.cons (.int .i64) (.cons (.int .i64) (.cons (.int .i64) (.cons (.int .i64) (.cons (.int .i64) (.cons (.sl (.cons (.int .i64) .nil)) (.cons (.int .i64) (.cons (.sl (.cons (.int .i64) .nil)) (.cons (.int .i64) (.cons (.int .i64) (.cons (.sl (.cons (.int .i64) .nil)) (.cons (.int .i64) (.cons .bool (.cons (.sl (.cons (.int .i64) (.cons (.int .i64) .nil))) (.cons (.int .i64) (.cons (.int .i64) (.cons (.int .i64) (.cons (.int .i64) (.cons (.int .i64) (.cons (.int .i64) (.cons (.int .i64) (.cons (.int .i64) (.cons (.sl (.cons (.int .i64) .nil)) (.cons (.int .i64) (.cons (.sl (.cons (.int .i64) .nil)) (.cons (.int .i64) (.cons (.int .i64) (.cons (.sl (.cons (.int .i64) .nil)) (.cons (.int .i64) (.cons .bool (.cons (.sl (.cons (.int .i64) (.cons (.int .i64) .nil))) .nil))))))))))))))))))))))))))))))))))
abbrev fl13 (x0 : TSigned) (x1 : TSigned) : D13 := (x0.1, x0.2.1, x0.2.2.1, x0.2.2.2.1, x0.2.2.2.2.1, x0.2.2.2.2.2.1, x0.2.2.2.2.2.2.1, x0.2.2.2.2.2.2.2.1, x0.2.2.2.2.2.2.2.2.1, x0.2.2.2.2.2.2.2.2.2.1, x0.2.2.2.2.2.2.2.2.2.2.1, x0.2.2.2.2.2.2.2.2.2.2.2.1, x0.2.2.2.2.2.2.2.2.2.2.2.2.1, x0.2.2.2.2.2.2.2.2.2.2.2.2.2.1, x0.2.2.2.2.2.2.2.2.2.2.2.2.2.2.1, x0.2.2.2.2.2.2.2.2.2.2.2.2.2.2.2.1, x0.2.2.2.2.2.2.2.2.2.2.2.2.2.2.2.2, x1.1, x1.2.1, x1.2.2.1, x1.2.2.2.1, x1.2.2.2.2.1, x1.2.2.2.2.2.1, x1.2.2.2.2.2.2.1, x1.2.2.2.2.2.2.2.1, x1.2.2.2.2.2.2.2.2.1, x1.2.2.2.2.2.2.2.2.2.1, x1.2.2.2.2.2.2.2.2.2.2.1, x1.2.2.2.2.2.2.2.2.2.2.2.1, x1.2.2.2.2.2.2.2.2.2.2.2.2.1, x1.2.2.2.2.2.2.2.2.2.2.2.2.2.1, x1.2.2.2.2.2.2.2.2.2.2.2.2.2.2.1, x1.2.2.2.2.2.2.2.2.2.2.2.2.2.2.2.1, x1.2.2.2.2.2.2.2.2.2.2.2.2.2.2.2.2)
abbrev p13_0 (x : D13) : TSigned := (x.1, x.2.1, x.2.2.1, x.2.2.2.1, x.2.2.2.2.1, x.2.2.2.2.2.1, x.2.2.2.2.2.2.1, x.2.2.2.2.2.2.2.1, x.2.2.2.2.2.2.2.2.1, x.2.2.2.2.2.2.2.2.2.1, x.2.2.2.2.2.2.2.2.2.2.1, x.2.2.2.2.2.2.2.2.2.2.2.1, x.2.2.2.2.2.2.2.2.2.2.2.2.1, x.2.2.2.2.2.2.2.2.2.2.2.2.2.1, x.2.2.2.2.2.2.2.2.2.2.2.2.2.2.1, x.2.2.2.2.2.2.2.2.2.2.2.2.2.2.2.1, x.2.2.2.2.2.2.2.2.2.2.2.2.2.2.2.2.1)
abbrev p13_1 (x : D13) : TSigned := x.2.2.2.2.2.2.2.2.2.2.2.2.2.2.2.2.2
noncomputable abbrev lsHead (x : THead) : List Lf := [.val (.int .i64 x.1), .val (.int .i64 x.2.1), .val (.int .i64 x.2.2.1), .val (.int .i64 x.2.2.2.1), .val (.int .i64 x.2.2.2.2.1), .val (.int .i64 x.2.2.2.2.2.1), .val (.int .i64 x.2.2.2.2.2.2.1), .val (.int .i64 x.2.2.2.2.2.2.2.1), .val (.sl (.cons (.int .i64) .nil) x.2.2.2.2.2.2.2.2.1), .val (.int .i64 x.2.2.2.2.2.2.2.2.2.1), .val (.sl (.cons (.int .i64) .nil) x.2.2.2.2.2.2.2.2.2.2.1), .val (.int .i64 x.2.2.2.2.2.2.2.2.2.2.2.1), .val (.int .i64 x.2.2.2.2.2.2.2.2.2.2.2.2.1), .val (.sl (.cons (.int .i64) .nil) x.2.2.2.2.2.2.2.2.2.2.2.2.2.1), .val (.int .i64 x.2.2.2.2.2.2.2.2.2.2.2.2.2.2.1), .val (.bool x.2.2.2.2.2.2.2.2.2.2.2.2.2.2.2)]
noncomputable abbrev lsSigned (x : TSigned) : List Lf := [.val (.int .i64 x.1), .val (.int .i64 x.2.1), .val (.int .i64 x.2.2.1), .val (.int .i64 x.2.2.2.1), .val (.int .i64 x.2.2.2.2.1), .val (.int .i64 x.2.2.2.2.2.1), .val (.int .i64 x.2.2.2.2.2.2.1), .val (.int .i64 x.2.2.2.2.2.2.2.1), .val (.sl (.cons (.int .i64) .nil) x.2.2.2.2.2.2.2.2.1), .val (.int .i64 x.2.2.2.2.2.2.2.2.2.1), .val (.sl (.cons (.int .i64) .nil) x.2.2.2.2.2.2.2.2.2.2.1), .val (.int .i64 x.2.2.2.2.2.2.2.2.2.2.2.1), .val (.int .i64 x.2.2.2.2.2.2.2.2.2.2.2.2.1), .val (.sl (.cons (.int .i64) .nil) x.2.2.2.2.2.2.2.2.2.2.2.2.2.1), .val (.int .i64 x.2.2.2.2.2.2.2.2.2.2.2.2.2.2.1), .val (.bool x.2.2.2.2.2.2.2.2.2.2.2.2.2.2.2.1), .val (.sl (.cons (.int .i64) (.cons (.int .i64) .nil)) x.2.2.2.2.2.2.2.2.2.2.2.2.2.2.2.2)]
abbrev tys : List (Nat × TI) := [(3, ⟨.int .i64, false, [.val (.int .i64 (0 : Int))], 8, [], (.cons (.int .i64) .nil)⟩),
  (4, ⟨.bool, false, [.val (.bool false)], 1, [], (.cons .bool .nil)⟩),
  (5, ⟨.int .u8, false, [.val (.int .u8 (0 : Int))], 1, [], (.cons (.int .u8) .nil)⟩),
  (9, ⟨.str, false, [.val (.str (⟨#[]⟩ : ByteArray))], 16, [], (.cons .str .nil)⟩),
  (26, ⟨.sl 66, false, [.nil0], 24, [], (.cons (.sl V.eSigned) .nil)⟩),
  (27, ⟨.sl 9, false, [.nil0], 24, [], (.cons (.sl (.cons .str .nil)) .nil)⟩),
  (29, ⟨.st, false, [.val (.str (⟨#[]⟩ : ByteArray)), .val (.int .i64 (0 : Int)), .val (.int .i64 (0 : Int)), .nil0], 56, [(0, 1, false), (1, 1, false), (2, 1, false), (3, 1, false)], V.eEntry⟩),
  (30, ⟨.sl 3, false, [.nil0], 24, [], (.cons (.sl (.cons (.int .i64) .nil)) .nil)⟩),
  (58, ⟨.sl 5, false, [.nil0], 24, [], (.cons (.sl (.cons (.int .u8) .nil)) .nil)⟩),
  (61, ⟨.st, false, [.nil0, .val (.int .i64 (0 : Int))], 32, [(0, 1, false), (1, 1, false)], (.cons (.sl (.cons (.int .i64) .nil)) (.cons (.int .i64) .nil))⟩),
  (63, ⟨.st, false, [.val (.int .i64 (0 : Int)), .val (.int .i64 (0 : Int)), .val (.int .i64 (0 : Int)), .val (.int .i64 (0 : Int)), .val (.int .i64 (0 : Int)), .val (.int .i64 (0 : Int)), .val (.int .i64 (0 : Int)), .val (.int .i64 (0 : Int)), .nil0, .val (.int .i64 (0 : Int)), .nil0, .val (.int .i64 (0 : Int)), .val (.int .i64 (0 : Int)), .nil0, .val (.int .i64 (0 : Int)), .val (.bool false)], 176, [(0, 1, false), (1, 1, false), (2, 1, false), (3, 1, false), (4, 1, false), (5, 1, false), (6, 1, false), (7, 1, false), (8, 2, true), (10, 2, true), (12, 1, false), (13, 2, true), (15, 1, false)], V.eHead⟩),
  (64, ⟨.sl 88, false, [.nil0], 24, [], (.cons (.sl (.cons (.int .i64) (.cons (.int .i64) .nil))) .nil)⟩),
  (66, ⟨.st, false, [.val (.int .i64 (0 : Int)), .val (.int .i64 (0 : Int)), .val (.int .i64 (0 : Int)), .val (.int .i64 (0 : Int)), .val (.int .i64 (0 : Int)), .val (.int .i64 (0 : Int)), .val (.int .i64 (0 : Int)), .val (.int .i64 (0 : Int)), .nil0, .val (.int .i64 (0 : Int)), .nil0, .val (.int .i64 (0 : Int)), .val (.int .i64 (0 : Int)), .nil0, .val (.int .i64 (0 : Int)), .val (.bool false), .nil0], 200, [(0, 16, true), (16, 1, false)], V.eSigned⟩),
  (88, ⟨.st, true, [.val (.int .i64 (0 : Int)), .val (.int .i64 (0 : Int))], 16, [(0, 1, false), (1, 1, false)], (.cons (.int .i64) (.cons (.int .i64) .nil))⟩),
  (111, ⟨.sl 29, false, [.nil0], 24, [], (.cons (.sl V.eEntry) .nil)⟩),
  (126, ⟨.st, false, [.nil0, .val (.int .i64 (0 : Int))], 32, [(0, 1, false), (1, 1, false)], (.cons (.sl (.cons (.int .i64) .nil)) (.cons (.int .i64) .nil))⟩),
  (128, ⟨.st, false, [.val (.int .i64 (0 : Int)), .val (.int .i64 (0 : Int)), .val (.int .i64 (0 : Int)), .val (.int .i64 (0 : Int)), .val (.int .i64 (0 : Int)), .val (.int .i64 (0 : Int)), .val (.int .i64 (0 : Int)), .val (.int .i64 (0 : Int)), .nil0, .val (.int .i64 (0 : Int)), .nil0, .val (.int .i64 (0 : Int)), .val (.int .i64 (0 : Int)), .nil0, .val (.int .i64 (0 : Int)), .val (.bool false)], 176, [(0, 1, false), (1, 1, false), (2, 1, false), (3, 1, false), (4, 1, false), (5, 1, false), (6, 1, false), (7, 1, false), (8, 2, true), (10, 2, true), (12, 1, false), (13, 2, true), (15, 1, false)], V.eHead⟩),
  (129, ⟨.sl 343, false, [.nil0], 24, [], (.cons (.sl (.cons (.int .i64) (.cons (.int .i64) .nil))) .nil)⟩),
  (131, ⟨.st, false, [.val (.int .i64 (0 : Int)), .val (.int .i64 (0 : Int)), .val (.int .i64 (0 : Int)), .val (.int .i64 (0 : Int)), .val (.int .i64 (0 : Int)), .val (.int .i64 (0 : Int)), .val (.int .i64 (0 : Int)), .val (.int .i64 (0 : Int)), .nil0, .val (.int .i64 (0 : Int)), .nil0, .val (.int .i64 (0 : Int)), .val (.int .i64 (0 : Int)), .nil0, .val (.int .i64 (0 : Int)), .val (.bool false), .nil0], 200, [(0, 16, true), (16, 1, false)], V.eSigned⟩),
  (142, ⟨.st, false, [.nil0, .nil0], 48, [(0, 1, false), (1, 1, false)], (.cons (.sl V.eSigned) (.cons (.sl V.eEntry) .nil))⟩),
  (160, ⟨.sl 131, false, [.nil0], 24, [], (.cons (.sl V.eSigned) .nil)⟩),
  (161, ⟨.sl 266, false, [.nil0], 24, [], (.cons (.sl V.eEntry) .nil)⟩),
  (163, ⟨.st, false, [.nil0, .nil0], 48, [(0, 1, false), (1, 1, false)], (.cons (.sl V.eSigned) (.cons (.sl V.eEntry) .nil))⟩),
  (266, ⟨.st, false, [.val (.str (⟨#[]⟩ : ByteArray)), .val (.int .i64 (0 : Int)), .val (.int .i64 (0 : Int)), .nil0], 56, [(0, 1, false), (1, 1, false), (2, 1, false), (3, 1, false)], V.eEntry⟩),
  (333, ⟨.sl 30, false, [.nil0], 24, [], (.cons (.sl (.cons (.sl (.cons (.int .i64) .nil)) .nil)) .nil)⟩),
  (343, ⟨.st, true, [.val (.int .i64 (0 : Int)), .val (.int .i64 (0 : Int))], 16, [(0, 1, false), (1, 1, false)], (.cons (.int .i64) (.cons (.int .i64) .nil))⟩)]
theorem tysOk : tyAll Tryz.prog tys = true := by kernel_rfl
theorem mixed : Tryz.prog.follows .mixedOrders = true := by kernel_rfl
theorem cfl {α : Type} {a b c : α} (e : a = b) (h : a = c) : b = c := e.symm.trans h
theorem fo {g : Nat} {fn : Func} {con : Con} {tab : List (Nat × Con)} {heads : List (Nat × List Nat × Cv)} {pre : List (Nat × Nat)} {shallow : List Nat} {movs flts : List (Nat × List Nat)} (h : TabOk Tryz.prog tab) (hf : Tryz.prog.funcs[g]? = some fn) (hq : (!(fn.name == "runtime.NumGoroutine") && (!fn.body.isNone && conOk con fn.ntmps)) = true) (hev : ∀ x y, con.f x = some y → evBody (mkE tys tab heads pre shallow movs flts) con fn x = some y) : Valid Tryz.prog g con := by
  simp only [Bool.and_eq_true, Bool.not_eq_true'] at hq
  exact body_ok (env_ok mixed tysOk h) hf hq.1 hq.2.1 hq.2.2 hev
theorem fo2 {g : Nat} {fn : Func} {con : Con} {tab tab2 : List (Nat × Con)} {sites : List Nat} {heads : List (Nat × List Nat × Cv)} {pre : List (Nat × Nat)} {shallow : List Nat} {movs flts : List (Nat × List Nat)} (h : TabOk Tryz.prog tab) (h2 : TabOk Tryz.prog tab2) (hf : Tryz.prog.funcs[g]? = some fn) (hq : (!(fn.name == "runtime.NumGoroutine") && (!fn.body.isNone && conOk con fn.ntmps)) = true) (hev : ∀ x y, con.f x = some y → evBody (mkE2 tys tab sites tab2 heads pre shallow movs flts) con fn x = some y) : Valid Tryz.prog g con := by
  simp only [Bool.and_eq_true, Bool.not_eq_true'] at hq
  exact body_ok (env_ok2 mixed tysOk h h2) hf hq.1 hq.2.1 hq.2.2 hev
end V
noncomputable abbrev Z168.con : V.Con := ⟨(.cons (.sl (.cons (.int .i64) .nil)) (.cons (.int .i64) .nil)), (.cons (.int .i64) .nil), fun (x : List Int × Int) => Z168 x.1 x.2, [], [(false, 1), (false, 1)], [(false, 1)], [false], []⟩
noncomputable abbrev Z168.E : V.Env := V.mkE V.tys [] [] [] [] [] []
theorem Z168.eq (x0 : List Int) (x1 : Int) : V.evBody Z168.E Z168.con Tryz.f445 ((x0, x1) : List Int × Int) = Z168 x0 x1 := by kernel_rfl
theorem Z168.ok : V.Valid Tryz.prog 445 Z168.con :=
  V.fo V.tab_nil Tryz.func445 (by kernel_rfl) (fun x y h => (show V.evBody Z168.E Z168.con Tryz.f445 x = _ from Z168.eq x.1 x.2).trans (V.cfl (by kernel_rfl) h))
noncomputable abbrev Z141.con : V.Con := ⟨(.cons (.sl (.cons (.int .i64) .nil)) (.cons (.int .i64) (.cons (.int .i64) .nil))), (.cons (.int .i64) .nil), fun (x : List Int × Int × Int) => Z141 (x.1, x.2.1) x.2.2, [], [(true, 2), (false, 1)], [(false, 1)], [false], []⟩
noncomputable abbrev Z141.E : V.Env := V.mkE V.tys [(445, Z168.con)] [] [] [] [] []
theorem Z141.eq (x0 : TKeys) (x1 : Int) : V.evBody Z141.E Z141.con Tryz.f413 ((x0.1, x0.2, x1) : List Int × Int × Int) = Z141 x0 x1 := by kernel_rfl
theorem Z141.ok : V.Valid Tryz.prog 413 Z141.con :=
  V.fo (V.tab_cons Z168.ok V.tab_nil) Tryz.func413 (by kernel_rfl) (fun x y h => (show V.evBody Z141.E Z141.con Tryz.f413 x = _ from Z141.eq (x.1, x.2.1) x.2.2).trans (V.cfl (by kernel_rfl) h))
noncomputable abbrev Z104.con : V.Con := ⟨V.A0, (.cons (.int .i64) .nil), fun (x : V.D0) => Z104 (V.p0_0 x) (V.p0_1 x), [], [(true, 16), (false, 1)], [(false, 1)], [false], []⟩
noncomputable abbrev Z104.E : V.Env := V.mkE V.tys [(413, Z141.con)] [] [] [] [] []
noncomputable abbrev Z104.kt (x0 : THead) (x1 : Int) : V.Kt Int := V.ktOf Z104.E Z104.con Tryz.f353 (V.fl0 x0 x1)
noncomputable abbrev Z104.s (x0 : THead) (x1 : Int) : V.St := ⟨[(0, .v true (V.lsHead x0)), (1, .v false [.val (.int .i64 x1)])], []⟩
theorem Z104.v0 (x0 : THead) (x1 : Int) : V.evBody Z104.E Z104.con Tryz.f353 (V.fl0 x0 x1) = V.evC Z104.E Tryz.f353.ntmps (V.codeOf Tryz.f353) (Z104.kt x0 x1) (Z104.s x0 x1) := by kernel_rfl
theorem Z104.v (x0 : THead) (x1 : Int) : V.evC Z104.E Tryz.f353.ntmps (V.codeOf Tryz.f353) (Z104.kt x0 x1) (Z104.s x0 x1) = Z104 x0 x1 := by kernel_rfl
theorem Z104.eq (x0 : THead) (x1 : Int) : V.evBody Z104.E Z104.con Tryz.f353 (V.fl0 x0 x1) = Z104 x0 x1 := (Z104.v0 x0 x1).trans (Z104.v x0 x1)
theorem Z104.ok : V.Valid Tryz.prog 353 Z104.con :=
  V.fo (V.tab_cons Z141.ok V.tab_nil) Tryz.func353 (by kernel_rfl) (fun x y h => (show V.evBody Z104.E Z104.con Tryz.f353 x = _ from Z104.eq (V.p0_0 x) (V.p0_1 x)).trans (V.cfl (by kernel_rfl) h))
noncomputable abbrev Z169.con : V.Con := ⟨(.cons (.sl (.cons (.int .i64) (.cons (.int .i64) .nil))) (.cons (.int .i64) .nil)), (.cons (.int .i64) .nil), fun (x : List TSig × Int) => Z169 x.1 x.2, [], [(false, 1), (false, 1)], [(false, 1)], [false], []⟩
noncomputable abbrev Z169.E : V.Env := V.mkE V.tys [] [] [] [] [] []
theorem Z169.eq (x0 : List TSig) (x1 : Int) : V.evBody Z169.E Z169.con Tryz.f354 ((x0, x1) : List TSig × Int) = Z169 x0 x1 := by kernel_rfl
theorem Z169.ok : V.Valid Tryz.prog 354 Z169.con :=
  V.fo V.tab_nil Tryz.func354 (by kernel_rfl) (fun x y h => (show V.evBody Z169.E Z169.con Tryz.f354 x = _ from Z169.eq x.1 x.2).trans (V.cfl (by kernel_rfl) h))
noncomputable abbrev Z94.con : V.Con := ⟨V.A1, (.cons (.int .i64) .nil), fun (x : V.D1) => Z94 (V.p1_0 x) (V.p1_1 x), [], [(true, 17), (false, 1)], [(false, 1)], [false], []⟩
noncomputable abbrev Z94.E : V.Env := V.mkE V.tys [(353, Z104.con), (354, Z169.con)] [] [] [] [] []
noncomputable abbrev Z94.kt (x0 : TSigned) (x1 : Int) : V.Kt Int := V.ktOf Z94.E Z94.con Tryz.f239 (V.fl1 x0 x1)
noncomputable abbrev Z94.s (x0 : TSigned) (x1 : Int) : V.St := ⟨[(0, .v true (V.lsSigned x0)), (1, .v false [.val (.int .i64 x1)])], []⟩
theorem Z94.v0 (x0 : TSigned) (x1 : Int) : V.evBody Z94.E Z94.con Tryz.f239 (V.fl1 x0 x1) = V.evC Z94.E Tryz.f239.ntmps (V.codeOf Tryz.f239) (Z94.kt x0 x1) (Z94.s x0 x1) := by kernel_rfl
theorem Z94.v (x0 : TSigned) (x1 : Int) : V.evC Z94.E Tryz.f239.ntmps (V.codeOf Tryz.f239) (Z94.kt x0 x1) (Z94.s x0 x1) = Z94 x0 x1 := by kernel_rfl
theorem Z94.eq (x0 : TSigned) (x1 : Int) : V.evBody Z94.E Z94.con Tryz.f239 (V.fl1 x0 x1) = Z94 x0 x1 := (Z94.v0 x0 x1).trans (Z94.v x0 x1)
theorem Z94.ok : V.Valid Tryz.prog 239 Z94.con :=
  V.fo (V.tab_cons Z104.ok (V.tab_cons Z169.ok V.tab_nil)) Tryz.func239 (by kernel_rfl) (fun x y h => (show V.evBody Z94.E Z94.con Tryz.f239 x = _ from Z94.eq (V.p1_0 x) (V.p1_1 x)).trans (V.cfl (by kernel_rfl) h))
noncomputable abbrev Z66.con : V.Con := ⟨(.cons (.sl V.eSigned) (.cons (.int .i64) .nil)), (.cons (.int .i64) .nil), fun (x : List TSigned × Int) => Z66 x.1 x.2, [], [(false, 1), (false, 1)], [(false, 1)], [false], []⟩
noncomputable abbrev Z66.E : V.Env := V.mkE V.tys [(239, Z94.con)] [(10, [0, 1, 5], [])] [] [] [] []
noncomputable abbrev Z66.kt (x0 : List TSigned) (x1 : Int) : V.Kt Int := V.ktOf Z66.E Z66.con Tryz.f264 ((x0, x1) : List TSigned × Int)
noncomputable abbrev Z66.s10 (x0 : List TSigned) (v10_1 : Int) (v10_2 : Int) : V.St := ⟨[(0, .v false [.val (.sl V.eSigned x0)]), (1, .v false [.val (.int .i64 v10_1)]), (5, .v false [.val (.int .i64 v10_2)])], []⟩
theorem Z66.r10 (x0 : List TSigned) (x1 : Int) (R : V.St → Option Int) (v10_1 : Int) (v10_2 : Int) : V.loopF Z66.E Tryz.f264.ntmps [1, 1, 1, 0, 1, 0] [] (V.codeOf Tryz.f264) (Z66.kt x0 x1) R (Z66.s10 x0 v10_1 v10_2) = Z66.g10 x0 (fun v10_1 v10_2 => R (Z66.s10 x0 v10_1 v10_2)) v10_1 v10_2 := by kernel_rfl
theorem Z66.e10 (x0 : List TSigned) (x1 : Int) : ∀ (n : Nat) (v10_1 : Int) (v10_2 : Int), V.loopN (V.loopF Z66.E Tryz.f264.ntmps [1, 1, 1, 0, 1, 0] [] (V.codeOf Tryz.f264) (Z66.kt x0 x1)) n (Z66.s10 x0 v10_1 v10_2) = Z66.l10 x0 n v10_1 v10_2 := by
  intro n
  induction n with
  | zero => intros; rw [V.loopN_z]; rfl
  | succ n ih =>
    intro v10_1 v10_2
    rw [V.loopN_s, Z66.r10]
    simp only [ih]
    first | exact (Z66.u10 ..).symm | rfl
theorem Z66.v (x0 : List TSigned) (x1 : Int) : V.evBody Z66.E Z66.con Tryz.f264 ((x0, x1) : List TSigned × Int) = Z66.b x0 x1 (fun v10_1 v10_2 => V.loopN (V.loopF Z66.E Tryz.f264.ntmps [1, 1, 1, 0, 1, 0] [] (V.codeOf Tryz.f264) (Z66.kt x0 x1)) V.KK (Z66.s10 x0 v10_1 v10_2)) := by kernel_rfl
theorem Z66.eq (x0 : List TSigned) (x1 : Int) : V.evBody Z66.E Z66.con Tryz.f264 ((x0, x1) : List TSigned × Int) = Z66 x0 x1 := by
  rw [Z66.v]
  simp only [Z66.e10]
  rfl
theorem Z66.ok : V.Valid Tryz.prog 264 Z66.con :=
  V.fo (V.tab_cons Z94.ok V.tab_nil) Tryz.func264 (by kernel_rfl) (fun x y h => (show V.evBody Z66.E Z66.con Tryz.f264 x = _ from Z66.eq x.1 x.2).trans (V.cfl (by kernel_rfl) h))
noncomputable abbrev Z50.con : V.Con := ⟨(.cons (.sl (.cons .str .nil)) (.cons (.int .i64) .nil)), (.cons (.int .i64) .nil), fun (x : List ByteArray × Int) => Z50 x.1 x.2, [], [(false, 1), (false, 1)], [(false, 1)], [false], []⟩
noncomputable abbrev Z50.E : V.Env := V.mkE V.tys [] [(10, [0, 1, 5], [])] [] [] [] []
noncomputable abbrev Z50.kt (x0 : List ByteArray) (x1 : Int) : V.Kt Int := V.ktOf Z50.E Z50.con Tryz.f365 ((x0, x1) : List ByteArray × Int)
noncomputable abbrev Z50.s10 (x0 : List ByteArray) (v10_1 : Int) (v10_2 : Int) : V.St := ⟨[(0, .v false [.val (.sl (.cons .str .nil) x0)]), (1, .v false [.val (.int .i64 v10_1)]), (5, .v false [.val (.int .i64 v10_2)])], []⟩
theorem Z50.r10 (x0 : List ByteArray) (x1 : Int) (R : V.St → Option Int) (v10_1 : Int) (v10_2 : Int) : V.loopF Z50.E Tryz.f365.ntmps [1, 1, 1, 0, 1, 0] [] (V.codeOf Tryz.f365) (Z50.kt x0 x1) R (Z50.s10 x0 v10_1 v10_2) = Z50.g10 x0 (fun v10_1 v10_2 => R (Z50.s10 x0 v10_1 v10_2)) v10_1 v10_2 := by kernel_rfl
theorem Z50.e10 (x0 : List ByteArray) (x1 : Int) : ∀ (n : Nat) (v10_1 : Int) (v10_2 : Int), V.loopN (V.loopF Z50.E Tryz.f365.ntmps [1, 1, 1, 0, 1, 0] [] (V.codeOf Tryz.f365) (Z50.kt x0 x1)) n (Z50.s10 x0 v10_1 v10_2) = Z50.l10 x0 n v10_1 v10_2 := by
  intro n
  induction n with
  | zero => intros; rw [V.loopN_z]; rfl
  | succ n ih =>
    intro v10_1 v10_2
    rw [V.loopN_s, Z50.r10]
    simp only [ih]
    first | exact (Z50.u10 ..).symm | rfl
theorem Z50.v (x0 : List ByteArray) (x1 : Int) : V.evBody Z50.E Z50.con Tryz.f365 ((x0, x1) : List ByteArray × Int) = Z50.b x0 x1 (fun v10_1 v10_2 => V.loopN (V.loopF Z50.E Tryz.f365.ntmps [1, 1, 1, 0, 1, 0] [] (V.codeOf Tryz.f365) (Z50.kt x0 x1)) V.KK (Z50.s10 x0 v10_1 v10_2)) := by kernel_rfl
theorem Z50.eq (x0 : List ByteArray) (x1 : Int) : V.evBody Z50.E Z50.con Tryz.f365 ((x0, x1) : List ByteArray × Int) = Z50 x0 x1 := by
  rw [Z50.v]
  simp only [Z50.e10]
  rfl
theorem Z50.ok : V.Valid Tryz.prog 365 Z50.con :=
  V.fo V.tab_nil Tryz.func365 (by kernel_rfl) (fun x y h => (show V.evBody Z50.E Z50.con Tryz.f365 x = _ from Z50.eq x.1 x.2).trans (V.cfl (by kernel_rfl) h))
noncomputable abbrev Z152.con : V.Con := ⟨(.cons .str (.cons (.int .i64) (.cons (.int .i64) (.cons (.sl (.cons .str .nil)) (.cons (.int .i64) .nil))))), (.cons (.int .i64) .nil), fun (x : ByteArray × Int × Int × List ByteArray × Int) => Z152 (x.1, x.2.1, x.2.2.1, x.2.2.2.1) x.2.2.2.2, [], [(true, 4), (false, 1)], [(false, 1)], [false], []⟩
noncomputable abbrev Z152.E : V.Env := V.mkE V.tys [(365, Z50.con)] [] [] [] [] []
theorem Z152.eq (x0 : TEntry) (x1 : Int) : V.evBody Z152.E Z152.con Tryz.f265 ((x0.1, x0.2.1, x0.2.2.1, x0.2.2.2, x1) : ByteArray × Int × Int × List ByteArray × Int) = Z152 x0 x1 := by kernel_rfl
theorem Z152.ok : V.Valid Tryz.prog 265 Z152.con :=
  V.fo (V.tab_cons Z50.ok V.tab_nil) Tryz.func265 (by kernel_rfl) (fun x y h => (show V.evBody Z152.E Z152.con Tryz.f265 x = _ from Z152.eq (x.1, x.2.1, x.2.2.1, x.2.2.2.1) x.2.2.2.2).trans (V.cfl (by kernel_rfl) h))
noncomputable abbrev Z65.con : V.Con := ⟨(.cons (.sl V.eEntry) (.cons (.int .i64) .nil)), (.cons (.int .i64) .nil), fun (x : List TEntry × Int) => Z65 x.1 x.2, [], [(false, 1), (false, 1)], [(false, 1)], [false], []⟩
noncomputable abbrev Z65.E : V.Env := V.mkE V.tys [(265, Z152.con)] [(10, [0, 1, 5], [])] [] [] [] []
noncomputable abbrev Z65.kt (x0 : List TEntry) (x1 : Int) : V.Kt Int := V.ktOf Z65.E Z65.con Tryz.f111 ((x0, x1) : List TEntry × Int)
noncomputable abbrev Z65.s10 (x0 : List TEntry) (v10_1 : Int) (v10_2 : Int) : V.St := ⟨[(0, .v false [.val (.sl V.eEntry x0)]), (1, .v false [.val (.int .i64 v10_1)]), (5, .v false [.val (.int .i64 v10_2)])], []⟩
theorem Z65.r10 (x0 : List TEntry) (x1 : Int) (R : V.St → Option Int) (v10_1 : Int) (v10_2 : Int) : V.loopF Z65.E Tryz.f111.ntmps [1, 1, 1, 0, 1, 0] [] (V.codeOf Tryz.f111) (Z65.kt x0 x1) R (Z65.s10 x0 v10_1 v10_2) = Z65.g10 x0 (fun v10_1 v10_2 => R (Z65.s10 x0 v10_1 v10_2)) v10_1 v10_2 := by kernel_rfl
theorem Z65.e10 (x0 : List TEntry) (x1 : Int) : ∀ (n : Nat) (v10_1 : Int) (v10_2 : Int), V.loopN (V.loopF Z65.E Tryz.f111.ntmps [1, 1, 1, 0, 1, 0] [] (V.codeOf Tryz.f111) (Z65.kt x0 x1)) n (Z65.s10 x0 v10_1 v10_2) = Z65.l10 x0 n v10_1 v10_2 := by
  intro n
  induction n with
  | zero => intros; rw [V.loopN_z]; rfl
  | succ n ih =>
    intro v10_1 v10_2
    rw [V.loopN_s, Z65.r10]
    simp only [ih]
    first | exact (Z65.u10 ..).symm | rfl
theorem Z65.v (x0 : List TEntry) (x1 : Int) : V.evBody Z65.E Z65.con Tryz.f111 ((x0, x1) : List TEntry × Int) = Z65.b x0 x1 (fun v10_1 v10_2 => V.loopN (V.loopF Z65.E Tryz.f111.ntmps [1, 1, 1, 0, 1, 0] [] (V.codeOf Tryz.f111) (Z65.kt x0 x1)) V.KK (Z65.s10 x0 v10_1 v10_2)) := by kernel_rfl
theorem Z65.eq (x0 : List TEntry) (x1 : Int) : V.evBody Z65.E Z65.con Tryz.f111 ((x0, x1) : List TEntry × Int) = Z65 x0 x1 := by
  rw [Z65.v]
  simp only [Z65.e10]
  rfl
theorem Z65.ok : V.Valid Tryz.prog 111 Z65.con :=
  V.fo (V.tab_cons Z152.ok V.tab_nil) Tryz.func111 (by kernel_rfl) (fun x y h => (show V.evBody Z65.E Z65.con Tryz.f111 x = _ from Z65.eq x.1 x.2).trans (V.cfl (by kernel_rfl) h))
noncomputable abbrev Z170.con : V.Con := ⟨(.cons (.sl V.eSigned) (.cons (.sl V.eEntry) (.cons (.int .i64) .nil))), (.cons (.int .i64) .nil), fun (x : List TSigned × List TEntry × Int) => Z170 (x.1, x.2.1) x.2.2, [], [(true, 2), (false, 1)], [(false, 1)], [false], []⟩
noncomputable abbrev Z170.E : V.Env := V.mkE V.tys [(111, Z65.con), (264, Z66.con)] [] [] [] [] []
theorem Z170.eq (x0 : TZone) (x1 : Int) : V.evBody Z170.E Z170.con Tryz.f110 ((x0.1, x0.2, x1) : List TSigned × List TEntry × Int) = Z170 x0 x1 := by kernel_rfl
theorem Z170.ok : V.Valid Tryz.prog 110 Z170.con :=
  V.fo (V.tab_cons Z65.ok (V.tab_cons Z66.ok V.tab_nil)) Tryz.func110 (by kernel_rfl) (fun x y h => (show V.evBody Z170.E Z170.con Tryz.f110 x = _ from Z170.eq (x.1, x.2.1) x.2.2).trans (V.cfl (by kernel_rfl) h))
noncomputable abbrev Z20.con : V.Con := ⟨(.cons (.sl (.cons (.int .i64) .nil)) .nil), (.cons (.sl (.cons (.int .i64) .nil)) .nil), fun (x : List Int) => Z20 x, [], [(false, 1)], [(false, 1)], [true], []⟩
noncomputable abbrev Z20.E : V.Env := V.mkE V.tys [] [(6, [0, 3, 4], [])] [] [] [] []
noncomputable abbrev Z20.kt (x0 : List Int) : V.Kt (List Int) := V.ktOf Z20.E Z20.con Tryz.f113 ((x0) : List Int)
noncomputable abbrev Z20.s6 (x0 : List Int) (v6_1 : Int) (v6_2 : List Int) : V.St := ⟨[(0, .v false [.val (.sl (.cons (.int .i64) .nil) x0)]), (3, .v false [.ref 64000038400192]), (4, .v false [.val (.int .i64 v6_1)])], [(64000038400192, .row (.cons (.int .i64) .nil) true v6_2)]⟩
theorem Z20.r6 (x0 : List Int) (R : V.St → Option (List Int)) (v6_1 : Int) (v6_2 : List Int) : V.loopF Z20.E Tryz.f113.ntmps [1, 1, 0, 1, 0] [] (V.codeOf Tryz.f113) (Z20.kt x0) R (Z20.s6 x0 v6_1 v6_2) = Z20.g6 x0 (fun v6_1 v6_2 => R (Z20.s6 x0 v6_1 v6_2)) v6_1 v6_2 := by kernel_rfl
theorem Z20.e6 (x0 : List Int) : ∀ (n : Nat) (v6_1 : Int) (v6_2 : List Int), V.loopN (V.loopF Z20.E Tryz.f113.ntmps [1, 1, 0, 1, 0] [] (V.codeOf Tryz.f113) (Z20.kt x0)) n (Z20.s6 x0 v6_1 v6_2) = Z20.l6 x0 n v6_1 v6_2 := by
  intro n
  induction n with
  | zero => intros; rw [V.loopN_z]; rfl
  | succ n ih =>
    intro v6_1 v6_2
    rw [V.loopN_s, Z20.r6]
    simp only [ih]
    first | exact (Z20.u6 ..).symm | rfl
theorem Z20.v (x0 : List Int) : V.evBody Z20.E Z20.con Tryz.f113 ((x0) : List Int) = Z20.b x0 (fun v6_1 v6_2 => V.loopN (V.loopF Z20.E Tryz.f113.ntmps [1, 1, 0, 1, 0] [] (V.codeOf Tryz.f113) (Z20.kt x0)) V.KK (Z20.s6 x0 v6_1 v6_2)) := by kernel_rfl
theorem Z20.eq (x0 : List Int) : V.evBody Z20.E Z20.con Tryz.f113 ((x0) : List Int) = Z20 x0 := by
  rw [Z20.v]
  simp only [Z20.e6]
  rfl
theorem Z20.ok : V.Valid Tryz.prog 113 Z20.con :=
  V.fo V.tab_nil Tryz.func113 (by kernel_rfl) (fun x y h => (show V.evBody Z20.E Z20.con Tryz.f113 x = _ from Z20.eq x).trans (V.cfl (by kernel_rfl) h))
noncomputable abbrev Z142.con : V.Con := ⟨(.cons (.sl (.cons (.int .i64) .nil)) (.cons (.int .i64) .nil)), (.cons (.sl (.cons (.int .i64) .nil)) (.cons (.int .i64) .nil)), fun (x : List Int × Int) => Z142 x, [], [(true, 2)], [(true, 2)], [true, false], []⟩
noncomputable abbrev Z142.E : V.Env := V.mkE V.tys [(113, Z20.con)] [] [] [] [] []
theorem Z142.eq (x0 : TKeys) : V.evBody Z142.E Z142.con Tryz.f414 ((x0.1, x0.2) : List Int × Int) = Z142 x0 := by kernel_rfl
theorem Z142.ok : V.Valid Tryz.prog 414 Z142.con :=
  V.fo (V.tab_cons Z20.ok V.tab_nil) Tryz.func414 (by kernel_rfl) (fun x y h => (show V.evBody Z142.E Z142.con Tryz.f414 x = _ from Z142.eq x).trans (V.cfl (by kernel_rfl) h))
noncomputable abbrev Z105.con : V.Con := ⟨V.A2, V.eHead, fun (x : V.D2) => Z105 (V.p2_0 x), [], [(true, 16)], [(true, 16)], [false, false, false, false, false, false, false, false, true, false, true, false, false, true, false, false], []⟩
noncomputable abbrev Z105.E : V.Env := V.mkE V.tys [(414, Z142.con)] [] [] [] [] []
noncomputable abbrev Z105.kt (x0 : THead) : V.Kt THead := V.ktOf Z105.E Z105.con Tryz.f355 (V.fl2 x0)
noncomputable abbrev Z105.s (x0 : THead) : V.St := ⟨[(0, .v true (V.lsHead x0))], []⟩
theorem Z105.v0 (x0 : THead) : V.evBody Z105.E Z105.con Tryz.f355 (V.fl2 x0) = V.evC Z105.E Tryz.f355.ntmps (V.codeOf Tryz.f355) (Z105.kt x0) (Z105.s x0) := by kernel_rfl
theorem Z105.v (x0 : THead) : V.evC Z105.E Tryz.f355.ntmps (V.codeOf Tryz.f355) (Z105.kt x0) (Z105.s x0) = Z105 x0 := by kernel_rfl
theorem Z105.eq (x0 : THead) : V.evBody Z105.E Z105.con Tryz.f355 (V.fl2 x0) = Z105 x0 := (Z105.v0 x0).trans (Z105.v x0)
theorem Z105.ok : V.Valid Tryz.prog 355 Z105.con :=
  V.fo (V.tab_cons Z142.ok V.tab_nil) Tryz.func355 (by kernel_rfl) (fun x y h => (show V.evBody Z105.E Z105.con Tryz.f355 x = _ from Z105.eq (V.p2_0 x)).trans (V.cfl (by kernel_rfl) h))
noncomputable abbrev Z171.con : V.Con := ⟨(.cons (.int .i64) (.cons (.int .i64) .nil)), (.cons (.int .i64) (.cons (.int .i64) .nil)), fun (x : Int × Int) => Z171 x, [], [(true, 2)], [(true, 2)], [false, false], []⟩
noncomputable abbrev Z171.E : V.Env := V.mkE V.tys [] [] [] [] [] []
theorem Z171.eq (x0 : TSig) : V.evBody Z171.E Z171.con Tryz.f415 ((x0.1, x0.2) : Int × Int) = Z171 x0 := by kernel_rfl
theorem Z171.ok : V.Valid Tryz.prog 415 Z171.con :=
  V.fo V.tab_nil Tryz.func415 (by kernel_rfl) (fun x y h => (show V.evBody Z171.E Z171.con Tryz.f415 x = _ from Z171.eq x).trans (V.cfl (by kernel_rfl) h))
noncomputable abbrev Z68.con : V.Con := ⟨(.cons (.sl (.cons (.int .i64) (.cons (.int .i64) .nil))) .nil), (.cons (.sl (.cons (.int .i64) (.cons (.int .i64) .nil))) .nil), fun (x : List TSig) => Z68 x, [], [(false, 1)], [(false, 1)], [true], []⟩
noncomputable abbrev Z68.E : V.Env := V.mkE V.tys [(415, Z171.con)] [(6, [0, 3, 4], [])] [] [] [] []
noncomputable abbrev Z68.kt (x0 : List TSig) : V.Kt (List TSig) := V.ktOf Z68.E Z68.con Tryz.f356 ((x0) : List TSig)
noncomputable abbrev Z68.s6 (x0 : List TSig) (v6_1 : Int) (v6_2 : List TSig) : V.St := ⟨[(0, .v false [.val (.sl (.cons (.int .i64) (.cons (.int .i64) .nil)) x0)]), (3, .v false [.ref 64000038400192]), (4, .v false [.val (.int .i64 v6_1)])], [(64000038400192, .row (.cons (.int .i64) (.cons (.int .i64) .nil)) true v6_2)]⟩
theorem Z68.r6 (x0 : List TSig) (R : V.St → Option (List TSig)) (v6_1 : Int) (v6_2 : List TSig) : V.loopF Z68.E Tryz.f356.ntmps [1, 1, 0, 1, 0] [] (V.codeOf Tryz.f356) (Z68.kt x0) R (Z68.s6 x0 v6_1 v6_2) = Z68.g6 x0 (fun v6_1 v6_2 => R (Z68.s6 x0 v6_1 v6_2)) v6_1 v6_2 := by kernel_rfl
theorem Z68.e6 (x0 : List TSig) : ∀ (n : Nat) (v6_1 : Int) (v6_2 : List TSig), V.loopN (V.loopF Z68.E Tryz.f356.ntmps [1, 1, 0, 1, 0] [] (V.codeOf Tryz.f356) (Z68.kt x0)) n (Z68.s6 x0 v6_1 v6_2) = Z68.l6 x0 n v6_1 v6_2 := by
  intro n
  induction n with
  | zero => intros; rw [V.loopN_z]; rfl
  | succ n ih =>
    intro v6_1 v6_2
    rw [V.loopN_s, Z68.r6]
    simp only [ih]
    first | exact (Z68.u6 ..).symm | rfl
theorem Z68.v (x0 : List TSig) : V.evBody Z68.E Z68.con Tryz.f356 ((x0) : List TSig) = Z68.b x0 (fun v6_1 v6_2 => V.loopN (V.loopF Z68.E Tryz.f356.ntmps [1, 1, 0, 1, 0] [] (V.codeOf Tryz.f356) (Z68.kt x0)) V.KK (Z68.s6 x0 v6_1 v6_2)) := by kernel_rfl
theorem Z68.eq (x0 : List TSig) : V.evBody Z68.E Z68.con Tryz.f356 ((x0) : List TSig) = Z68 x0 := by
  rw [Z68.v]
  simp only [Z68.e6]
  rfl
theorem Z68.ok : V.Valid Tryz.prog 356 Z68.con :=
  V.fo (V.tab_cons Z171.ok V.tab_nil) Tryz.func356 (by kernel_rfl) (fun x y h => (show V.evBody Z68.E Z68.con Tryz.f356 x = _ from Z68.eq x).trans (V.cfl (by kernel_rfl) h))
noncomputable abbrev Z95.con : V.Con := ⟨V.A3, V.eSigned, fun (x : V.D3) => Z95 (V.p3_0 x), [], [(true, 17)], [(true, 17)], [false, false, false, false, false, false, false, false, true, false, true, false, false, true, false, false, true], []⟩
noncomputable abbrev Z95.E : V.Env := V.mkE V.tys [(355, Z105.con), (356, Z68.con)] [] [] [] [] []
noncomputable abbrev Z95.kt (x0 : TSigned) : V.Kt TSigned := V.ktOf Z95.E Z95.con Tryz.f242 (V.fl3 x0)
noncomputable abbrev Z95.s (x0 : TSigned) : V.St := ⟨[(0, .v true (V.lsSigned x0))], []⟩
theorem Z95.v0 (x0 : TSigned) : V.evBody Z95.E Z95.con Tryz.f242 (V.fl3 x0) = V.evC Z95.E Tryz.f242.ntmps (V.codeOf Tryz.f242) (Z95.kt x0) (Z95.s x0) := by kernel_rfl
theorem Z95.v (x0 : TSigned) : V.evC Z95.E Tryz.f242.ntmps (V.codeOf Tryz.f242) (Z95.kt x0) (Z95.s x0) = Z95 x0 := by kernel_rfl
theorem Z95.eq (x0 : TSigned) : V.evBody Z95.E Z95.con Tryz.f242 (V.fl3 x0) = Z95 x0 := (Z95.v0 x0).trans (Z95.v x0)
theorem Z95.ok : V.Valid Tryz.prog 242 Z95.con :=
  V.fo (V.tab_cons Z105.ok (V.tab_cons Z68.ok V.tab_nil)) Tryz.func242 (by kernel_rfl) (fun x y h => (show V.evBody Z95.E Z95.con Tryz.f242 x = _ from Z95.eq (V.p3_0 x)).trans (V.cfl (by kernel_rfl) h))
noncomputable abbrev Z69.con : V.Con := ⟨(.cons (.sl V.eSigned) .nil), (.cons (.sl V.eSigned) .nil), fun (x : List TSigned) => Z69 x, [], [(false, 1)], [(false, 1)], [true], []⟩
noncomputable abbrev Z69.E : V.Env := V.mkE V.tys [(242, Z95.con)] [(6, [0, 3, 4], [])] [] [] [] []
noncomputable abbrev Z69.kt (x0 : List TSigned) : V.Kt (List TSigned) := V.ktOf Z69.E Z69.con Tryz.f266 ((x0) : List TSigned)
noncomputable abbrev Z69.s6 (x0 : List TSigned) (v6_1 : Int) (v6_2 : List TSigned) : V.St := ⟨[(0, .v false [.val (.sl V.eSigned x0)]), (3, .v false [.ref 64000038400192]), (4, .v false [.val (.int .i64 v6_1)])], [(64000038400192, .row V.eSigned true v6_2)]⟩
theorem Z69.r6 (x0 : List TSigned) (R : V.St → Option (List TSigned)) (v6_1 : Int) (v6_2 : List TSigned) : V.loopF Z69.E Tryz.f266.ntmps [1, 1, 0, 1, 0] [] (V.codeOf Tryz.f266) (Z69.kt x0) R (Z69.s6 x0 v6_1 v6_2) = Z69.g6 x0 (fun v6_1 v6_2 => R (Z69.s6 x0 v6_1 v6_2)) v6_1 v6_2 := by kernel_rfl
theorem Z69.e6 (x0 : List TSigned) : ∀ (n : Nat) (v6_1 : Int) (v6_2 : List TSigned), V.loopN (V.loopF Z69.E Tryz.f266.ntmps [1, 1, 0, 1, 0] [] (V.codeOf Tryz.f266) (Z69.kt x0)) n (Z69.s6 x0 v6_1 v6_2) = Z69.l6 x0 n v6_1 v6_2 := by
  intro n
  induction n with
  | zero => intros; rw [V.loopN_z]; rfl
  | succ n ih =>
    intro v6_1 v6_2
    rw [V.loopN_s, Z69.r6]
    simp only [ih]
    first | exact (Z69.u6 ..).symm | rfl
theorem Z69.v (x0 : List TSigned) : V.evBody Z69.E Z69.con Tryz.f266 ((x0) : List TSigned) = Z69.b x0 (fun v6_1 v6_2 => V.loopN (V.loopF Z69.E Tryz.f266.ntmps [1, 1, 0, 1, 0] [] (V.codeOf Tryz.f266) (Z69.kt x0)) V.KK (Z69.s6 x0 v6_1 v6_2)) := by kernel_rfl
theorem Z69.eq (x0 : List TSigned) : V.evBody Z69.E Z69.con Tryz.f266 ((x0) : List TSigned) = Z69 x0 := by
  rw [Z69.v]
  simp only [Z69.e6]
  rfl
theorem Z69.ok : V.Valid Tryz.prog 266 Z69.con :=
  V.fo (V.tab_cons Z95.ok V.tab_nil) Tryz.func266 (by kernel_rfl) (fun x y h => (show V.evBody Z69.E Z69.con Tryz.f266 x = _ from Z69.eq x).trans (V.cfl (by kernel_rfl) h))
noncomputable abbrev Z70.con : V.Con := ⟨(.cons (.sl (.cons .str .nil)) .nil), (.cons (.sl (.cons .str .nil)) .nil), fun (x : List ByteArray) => Z70 x, [], [(false, 1)], [(false, 1)], [true], []⟩
noncomputable abbrev Z70.E : V.Env := V.mkE V.tys [] [(6, [0, 3, 4], [])] [] [] [] []
noncomputable abbrev Z70.kt (x0 : List ByteArray) : V.Kt (List ByteArray) := V.ktOf Z70.E Z70.con Tryz.f366 ((x0) : List ByteArray)
noncomputable abbrev Z70.s6 (x0 : List ByteArray) (v6_1 : Int) (v6_2 : List ByteArray) : V.St := ⟨[(0, .v false [.val (.sl (.cons .str .nil) x0)]), (3, .v false [.ref 64000038400192]), (4, .v false [.val (.int .i64 v6_1)])], [(64000038400192, .row (.cons .str .nil) true v6_2)]⟩
theorem Z70.r6 (x0 : List ByteArray) (R : V.St → Option (List ByteArray)) (v6_1 : Int) (v6_2 : List ByteArray) : V.loopF Z70.E Tryz.f366.ntmps [1, 1, 0, 1, 0] [] (V.codeOf Tryz.f366) (Z70.kt x0) R (Z70.s6 x0 v6_1 v6_2) = Z70.g6 x0 (fun v6_1 v6_2 => R (Z70.s6 x0 v6_1 v6_2)) v6_1 v6_2 := by kernel_rfl
theorem Z70.e6 (x0 : List ByteArray) : ∀ (n : Nat) (v6_1 : Int) (v6_2 : List ByteArray), V.loopN (V.loopF Z70.E Tryz.f366.ntmps [1, 1, 0, 1, 0] [] (V.codeOf Tryz.f366) (Z70.kt x0)) n (Z70.s6 x0 v6_1 v6_2) = Z70.l6 x0 n v6_1 v6_2 := by
  intro n
  induction n with
  | zero => intros; rw [V.loopN_z]; rfl
  | succ n ih =>
    intro v6_1 v6_2
    rw [V.loopN_s, Z70.r6]
    simp only [ih]
    first | exact (Z70.u6 ..).symm | rfl
theorem Z70.v (x0 : List ByteArray) : V.evBody Z70.E Z70.con Tryz.f366 ((x0) : List ByteArray) = Z70.b x0 (fun v6_1 v6_2 => V.loopN (V.loopF Z70.E Tryz.f366.ntmps [1, 1, 0, 1, 0] [] (V.codeOf Tryz.f366) (Z70.kt x0)) V.KK (Z70.s6 x0 v6_1 v6_2)) := by kernel_rfl
theorem Z70.eq (x0 : List ByteArray) : V.evBody Z70.E Z70.con Tryz.f366 ((x0) : List ByteArray) = Z70 x0 := by
  rw [Z70.v]
  simp only [Z70.e6]
  rfl
theorem Z70.ok : V.Valid Tryz.prog 366 Z70.con :=
  V.fo V.tab_nil Tryz.func366 (by kernel_rfl) (fun x y h => (show V.evBody Z70.E Z70.con Tryz.f366 x = _ from Z70.eq x).trans (V.cfl (by kernel_rfl) h))
noncomputable abbrev Z153.con : V.Con := ⟨V.eEntry, V.eEntry, fun (x : ByteArray × Int × Int × List ByteArray) => Z153 x, [], [(true, 4)], [(true, 4)], [false, false, false, true], []⟩
noncomputable abbrev Z153.E : V.Env := V.mkE V.tys [(366, Z70.con)] [] [] [] [] []
theorem Z153.eq (x0 : TEntry) : V.evBody Z153.E Z153.con Tryz.f267 ((x0.1, x0.2.1, x0.2.2.1, x0.2.2.2) : ByteArray × Int × Int × List ByteArray) = Z153 x0 := by kernel_rfl
theorem Z153.ok : V.Valid Tryz.prog 267 Z153.con :=
  V.fo (V.tab_cons Z70.ok V.tab_nil) Tryz.func267 (by kernel_rfl) (fun x y h => (show V.evBody Z153.E Z153.con Tryz.f267 x = _ from Z153.eq x).trans (V.cfl (by kernel_rfl) h))
noncomputable abbrev Z67.con : V.Con := ⟨(.cons (.sl V.eEntry) .nil), (.cons (.sl V.eEntry) .nil), fun (x : List TEntry) => Z67 x, [], [(false, 1)], [(false, 1)], [true], []⟩
noncomputable abbrev Z67.E : V.Env := V.mkE V.tys [(267, Z153.con)] [(6, [0, 3, 4], [])] [] [] [] []
noncomputable abbrev Z67.kt (x0 : List TEntry) : V.Kt (List TEntry) := V.ktOf Z67.E Z67.con Tryz.f114 ((x0) : List TEntry)
noncomputable abbrev Z67.s6 (x0 : List TEntry) (v6_1 : Int) (v6_2 : List TEntry) : V.St := ⟨[(0, .v false [.val (.sl V.eEntry x0)]), (3, .v false [.ref 64000038400192]), (4, .v false [.val (.int .i64 v6_1)])], [(64000038400192, .row V.eEntry true v6_2)]⟩
theorem Z67.r6 (x0 : List TEntry) (R : V.St → Option (List TEntry)) (v6_1 : Int) (v6_2 : List TEntry) : V.loopF Z67.E Tryz.f114.ntmps [1, 1, 0, 1, 0] [] (V.codeOf Tryz.f114) (Z67.kt x0) R (Z67.s6 x0 v6_1 v6_2) = Z67.g6 x0 (fun v6_1 v6_2 => R (Z67.s6 x0 v6_1 v6_2)) v6_1 v6_2 := by kernel_rfl
theorem Z67.e6 (x0 : List TEntry) : ∀ (n : Nat) (v6_1 : Int) (v6_2 : List TEntry), V.loopN (V.loopF Z67.E Tryz.f114.ntmps [1, 1, 0, 1, 0] [] (V.codeOf Tryz.f114) (Z67.kt x0)) n (Z67.s6 x0 v6_1 v6_2) = Z67.l6 x0 n v6_1 v6_2 := by
  intro n
  induction n with
  | zero => intros; rw [V.loopN_z]; rfl
  | succ n ih =>
    intro v6_1 v6_2
    rw [V.loopN_s, Z67.r6]
    simp only [ih]
    first | exact (Z67.u6 ..).symm | rfl
theorem Z67.v (x0 : List TEntry) : V.evBody Z67.E Z67.con Tryz.f114 ((x0) : List TEntry) = Z67.b x0 (fun v6_1 v6_2 => V.loopN (V.loopF Z67.E Tryz.f114.ntmps [1, 1, 0, 1, 0] [] (V.codeOf Tryz.f114) (Z67.kt x0)) V.KK (Z67.s6 x0 v6_1 v6_2)) := by kernel_rfl
theorem Z67.eq (x0 : List TEntry) : V.evBody Z67.E Z67.con Tryz.f114 ((x0) : List TEntry) = Z67 x0 := by
  rw [Z67.v]
  simp only [Z67.e6]
  rfl
theorem Z67.ok : V.Valid Tryz.prog 114 Z67.con :=
  V.fo (V.tab_cons Z153.ok V.tab_nil) Tryz.func114 (by kernel_rfl) (fun x y h => (show V.evBody Z67.E Z67.con Tryz.f114 x = _ from Z67.eq x).trans (V.cfl (by kernel_rfl) h))
noncomputable abbrev Z132.con : V.Con := ⟨(.cons (.sl V.eSigned) (.cons (.sl V.eEntry) .nil)), (.cons (.sl V.eSigned) (.cons (.sl V.eEntry) .nil)), fun (x : List TSigned × List TEntry) => Z132 x, [], [(true, 2)], [(true, 2)], [true, true], []⟩
noncomputable abbrev Z132.E : V.Env := V.mkE V.tys [(114, Z67.con), (266, Z69.con)] [] [] [] [] []
theorem Z132.eq (x0 : TZone) : V.evBody Z132.E Z132.con Tryz.f112 ((x0.1, x0.2) : List TSigned × List TEntry) = Z132 x0 := by kernel_rfl
theorem Z132.ok : V.Valid Tryz.prog 112 Z132.con :=
  V.fo (V.tab_cons Z67.ok (V.tab_cons Z69.ok V.tab_nil)) Tryz.func112 (by kernel_rfl) (fun x y h => (show V.evBody Z132.E Z132.con Tryz.f112 x = _ from Z132.eq x).trans (V.cfl (by kernel_rfl) h))
noncomputable abbrev Z74.con : V.Con := ⟨(.cons (.int .i64) (.cons (.int .i64) (.cons (.int .i64) .nil))), (.cons .bool .nil), fun (x : Int × Int × Int) => Z74 x.1 x.2.1 x.2.2, [], [(false, 1), (false, 1), (false, 1)], [(false, 1)], [false], []⟩
noncomputable abbrev Z74.E : V.Env := V.mkE V.tys [] [] [] [] [] []
theorem Z74.eq (x0 : Int) (x1 : Int) (x2 : Int) : V.evBody Z74.E Z74.con Tryz.f179 ((x0, x1, x2) : Int × Int × Int) = Z74 x0 x1 x2 := by kernel_rfl
theorem Z74.ok : V.Valid Tryz.prog 179 Z74.con :=
  V.fo V.tab_nil Tryz.func179 (by kernel_rfl) (fun x y h => (show V.evBody Z74.E Z74.con Tryz.f179 x = _ from Z74.eq x.1 x.2.1 x.2.2).trans (V.cfl (by kernel_rfl) h))
noncomputable abbrev Z14.con : V.Con := ⟨(.cons (.sl (.cons (.int .i64) .nil)) (.cons (.int .i64) .nil)), (.cons .bool .nil), fun (x : List Int × Int) => Z14 x, [], [(true, 2)], [(false, 1)], [false], []⟩
noncomputable abbrev Z14.E : V.Env := V.mkE V.tys [(179, Z74.con)] [(4, [1, 3], [])] [(4, 22)] [] [] []
noncomputable abbrev Z14.kt (x0 : TKeys) : V.Kt Bool := V.ktOf Z14.E Z14.con Tryz.f214 ((x0.1, x0.2) : List Int × Int)
noncomputable abbrev Z14.s4 (x0 : TKeys) (v4_0 : Int) : V.St := ⟨[(1, .v false [.ptr 64000 0]), (3, .v false [.val (.int .i64 v4_0)])], [(64000, .box [.val (.sl (.cons (.int .i64) .nil) x0.1), .val (.int .i64 x0.2)])]⟩
theorem Z14.r4 (x0 : TKeys) (R : V.St → Option Bool) (v4_0 : Int) : V.loopF Z14.E Tryz.f214.ntmps [1, 0, 1, 0] [] (V.codeOf Tryz.f214) (Z14.kt x0) R (Z14.s4 x0 v4_0) = Z14.g4 x0 (fun v4_0 => R (Z14.s4 x0 v4_0)) v4_0 := by kernel_rfl
theorem Z14.e4 (x0 : TKeys) : ∀ (n : Nat) (v4_0 : Int), V.loopN (V.loopF Z14.E Tryz.f214.ntmps [1, 0, 1, 0] [] (V.codeOf Tryz.f214) (Z14.kt x0)) n (Z14.s4 x0 v4_0) = Z14.l4 x0 n v4_0 := by
  intro n
  induction n with
  | zero => intros; rw [V.loopN_z]; rfl
  | succ n ih =>
    intro v4_0
    rw [V.loopN_s, Z14.r4]
    simp only [ih]
    first | exact (Z14.u4 ..).symm | rfl
theorem Z14.v (x0 : TKeys) : V.evBody Z14.E Z14.con Tryz.f214 ((x0.1, x0.2) : List Int × Int) = Z14.b x0 (fun v4_0 => V.loopN (V.loopF Z14.E Tryz.f214.ntmps [1, 0, 1, 0] [] (V.codeOf Tryz.f214) (Z14.kt x0)) V.KK (Z14.s4 x0 v4_0)) := by kernel_rfl
theorem Z14.eq (x0 : TKeys) : V.evBody Z14.E Z14.con Tryz.f214 ((x0.1, x0.2) : List Int × Int) = Z14 x0 := by
  rw [Z14.v]
  simp only [Z14.e4]
  rfl
theorem Z14.ok : V.Valid Tryz.prog 214 Z14.con :=
  V.fo (V.tab_cons Z74.ok V.tab_nil) Tryz.func214 (by kernel_rfl) (fun x y h => (show V.evBody Z14.E Z14.con Tryz.f214 x = _ from Z14.eq x).trans (V.cfl (by kernel_rfl) h))
noncomputable abbrev Z119.con : V.Con := ⟨(.cons (.sl (.cons (.int .i64) .nil)) (.cons (.int .i64) .nil)), (.cons .bool .nil), fun (x : List Int × Int) => Z119 x, [], [(true, 2)], [(false, 1)], [false], []⟩
noncomputable abbrev Z119.E : V.Env := V.mkE V.tys [] [] [] [] [] []
theorem Z119.eq (x0 : TKeys) : V.evBody Z119.E Z119.con Tryz.f237 ((x0.1, x0.2) : List Int × Int) = Z119 x0 := by kernel_rfl
theorem Z119.ok : V.Valid Tryz.prog 237 Z119.con :=
  V.fo V.tab_nil Tryz.func237 (by kernel_rfl) (fun x y h => (show V.evBody Z119.E Z119.con Tryz.f237 x = _ from Z119.eq x).trans (V.cfl (by kernel_rfl) h))
noncomputable abbrev Z2.con : V.Con := ⟨V.A2, (.cons .bool .nil), fun (x : V.D2) => Z2 (V.p2_0 x), [], [(true, 16)], [(false, 1)], [false], []⟩
noncomputable abbrev Z2.E : V.Env := V.mkE V.tys [(179, Z74.con), (214, Z14.con), (237, Z119.con)] [(7, [1], []), (11, [1], []), (21, [1], [])] [] [] [] []
noncomputable abbrev Z2.kt (x0 : THead) : V.Kt Bool := V.ktOf Z2.E Z2.con Tryz.f312 (V.fl2 x0)
noncomputable abbrev Z2.s21 (x0 : THead) : V.St := ⟨[(1, .v false [.ptr 64000 0])], [(64000, .box (V.lsHead x0))]⟩
noncomputable abbrev Z2.s11 (x0 : THead) : V.St := ⟨[(1, .v false [.ptr 64000 0])], [(64000, .box (V.lsHead x0))]⟩
noncomputable abbrev Z2.s7 (x0 : THead) : V.St := ⟨[(1, .v false [.ptr 64000 0])], [(64000, .box (V.lsHead x0))]⟩
theorem Z2.r21 (x0 : THead) : V.joinF Z2.E Tryz.f312.ntmps [1, 1, 1] [] (V.codeOf Tryz.f312) (Z2.kt x0) (Z2.s21 x0) = Z2.g21 x0 := by kernel_rfl
theorem Z2.e21 (x0 : THead) : V.jn (V.joinF Z2.E Tryz.f312.ntmps [1, 1, 1] [] (V.codeOf Tryz.f312) (Z2.kt x0)) (Z2.s21 x0) = Z2.l21 x0 := by
  rw [V.jn_eq, Z2.r21]
  rfl
theorem Z2.r11 (x0 : THead) : V.joinF Z2.E Tryz.f312.ntmps [1, 1] [] (V.codeOf Tryz.f312) (Z2.kt x0) (Z2.s11 x0) = Z2.g11 x0 (V.jn (V.joinF Z2.E Tryz.f312.ntmps [1, 1, 1] [] (V.codeOf Tryz.f312) (Z2.kt x0)) (Z2.s21 x0)) := by kernel_rfl
theorem Z2.e11 (x0 : THead) : V.jn (V.joinF Z2.E Tryz.f312.ntmps [1, 1] [] (V.codeOf Tryz.f312) (Z2.kt x0)) (Z2.s11 x0) = Z2.l11 x0 := by
  rw [V.jn_eq, Z2.r11]
  simp only [Z2.e21]
  rfl
theorem Z2.r7 (x0 : THead) : V.joinF Z2.E Tryz.f312.ntmps [1] [] (V.codeOf Tryz.f312) (Z2.kt x0) (Z2.s7 x0) = Z2.g7 x0 (V.jn (V.joinF Z2.E Tryz.f312.ntmps [1, 1] [] (V.codeOf Tryz.f312) (Z2.kt x0)) (Z2.s11 x0)) := by kernel_rfl
theorem Z2.e7 (x0 : THead) : V.jn (V.joinF Z2.E Tryz.f312.ntmps [1] [] (V.codeOf Tryz.f312) (Z2.kt x0)) (Z2.s7 x0) = Z2.l7 x0 := by
  rw [V.jn_eq, Z2.r7]
  simp only [Z2.e11]
  rfl
noncomputable abbrev Z2.s (x0 : THead) : V.St := ⟨[(0, .v true (V.lsHead x0))], []⟩
theorem Z2.v0 (x0 : THead) : V.evBody Z2.E Z2.con Tryz.f312 (V.fl2 x0) = V.evC Z2.E Tryz.f312.ntmps (V.codeOf Tryz.f312) (Z2.kt x0) (Z2.s x0) := by kernel_rfl
theorem Z2.v (x0 : THead) : V.evC Z2.E Tryz.f312.ntmps (V.codeOf Tryz.f312) (Z2.kt x0) (Z2.s x0) = Z2.b x0 (V.jn (V.joinF Z2.E Tryz.f312.ntmps [1] [] (V.codeOf Tryz.f312) (Z2.kt x0)) (Z2.s7 x0)) := by kernel_rfl
theorem Z2.eq (x0 : THead) : V.evBody Z2.E Z2.con Tryz.f312 (V.fl2 x0) = Z2 x0 := by
  rw [Z2.v0, Z2.v]
  simp only [Z2.e7]
  rfl
theorem Z2.ok : V.Valid Tryz.prog 312 Z2.con :=
  V.fo (V.tab_cons Z74.ok (V.tab_cons Z14.ok (V.tab_cons Z119.ok V.tab_nil))) Tryz.func312 (by kernel_rfl) (fun x y h => (show V.evBody Z2.E Z2.con Tryz.f312 x = _ from Z2.eq (V.p2_0 x)).trans (V.cfl (by kernel_rfl) h))
noncomputable abbrev Z116.con : V.Con := ⟨(.cons (.sl (.cons (.int .i64) .nil)) (.cons (.int .i64) .nil)), (.cons (.sl (.cons (.int .i64) .nil)) .nil), fun (x : List Int × Int) => Z116 x, [], [(true, 2)], [(false, 1)], [true], []⟩
noncomputable abbrev Z116.E : V.Env := V.mkE V.tys [] [] [] [] [] []
theorem Z116.eq (x0 : TKeys) : V.evBody Z116.E Z116.con Tryz.f273 ((x0.1, x0.2) : List Int × Int) = Z116 x0 := by kernel_rfl
theorem Z116.ok : V.Valid Tryz.prog 273 Z116.con :=
  V.fo V.tab_nil Tryz.func273 (by kernel_rfl) (fun x y h => (show V.evBody Z116.E Z116.con Tryz.f273 x = _ from Z116.eq x).trans (V.cfl (by kernel_rfl) h))
noncomputable abbrev Z184.con : V.Con := ⟨(.cons (.int .i64) (.cons (.int .i64) .nil)), (.cons (.int .i64) .nil), fun (x : Int × Int) => Z184 x.1 x.2, [], [(false, 1), (false, 1)], [(false, 1)], [false], []⟩
noncomputable abbrev Z184.E : V.Env := V.mkE V.tys [(179, Z74.con)] [] [] [] [] []
theorem Z184.eq (x0 : Int) (x1 : Int) : V.evBody Z184.E Z184.con Tryz.f403 ((x0, x1) : Int × Int) = Z184 x0 x1 := by kernel_rfl
theorem Z184.ok : V.Valid Tryz.prog 403 Z184.con :=
  V.fo (V.tab_cons Z74.ok V.tab_nil) Tryz.func403 (by kernel_rfl) (fun x y h => (show V.evBody Z184.E Z184.con Tryz.f403 x = _ from Z184.eq x.1 x.2).trans (V.cfl (by kernel_rfl) h))
noncomputable abbrev Z9.con : V.Con := ⟨(.cons (.sl (.cons (.int .i64) .nil)) .nil), (.cons (.int .i64) .nil), fun (x : List Int) => Z9 x, [], [(false, 1)], [(false, 1)], [false], []⟩
noncomputable abbrev Z9.E : V.Env := V.mkE V.tys [(403, Z184.con)] [(6, [0, 3, 4], [])] [] [] [] []
noncomputable abbrev Z9.kt (x0 : List Int) : V.Kt Int := V.ktOf Z9.E Z9.con Tryz.f337 ((x0) : List Int)
noncomputable abbrev Z9.s6 (x0 : List Int) (v6_1 : Int) (v6_2 : Int) : V.St := ⟨[(0, .v false [.val (.sl (.cons (.int .i64) .nil) x0)]), (3, .v false [.val (.int .i64 v6_1)]), (4, .v false [.val (.int .i64 v6_2)])], []⟩
theorem Z9.r6 (x0 : List Int) (R : V.St → Option Int) (v6_1 : Int) (v6_2 : Int) : V.loopF Z9.E Tryz.f337.ntmps [1, 1, 0, 1, 0] [] (V.codeOf Tryz.f337) (Z9.kt x0) R (Z9.s6 x0 v6_1 v6_2) = Z9.g6 x0 (fun v6_1 v6_2 => R (Z9.s6 x0 v6_1 v6_2)) v6_1 v6_2 := by kernel_rfl
theorem Z9.e6 (x0 : List Int) : ∀ (n : Nat) (v6_1 : Int) (v6_2 : Int), V.loopN (V.loopF Z9.E Tryz.f337.ntmps [1, 1, 0, 1, 0] [] (V.codeOf Tryz.f337) (Z9.kt x0)) n (Z9.s6 x0 v6_1 v6_2) = Z9.l6 x0 n v6_1 v6_2 := by
  intro n
  induction n with
  | zero => intros; rw [V.loopN_z]; rfl
  | succ n ih =>
    intro v6_1 v6_2
    rw [V.loopN_s, Z9.r6]
    simp only [ih]
    first | exact (Z9.u6 ..).symm | rfl
theorem Z9.v (x0 : List Int) : V.evBody Z9.E Z9.con Tryz.f337 ((x0) : List Int) = Z9.b x0 (fun v6_1 v6_2 => V.loopN (V.loopF Z9.E Tryz.f337.ntmps [1, 1, 0, 1, 0] [] (V.codeOf Tryz.f337) (Z9.kt x0)) V.KK (Z9.s6 x0 v6_1 v6_2)) := by kernel_rfl
theorem Z9.eq (x0 : List Int) : V.evBody Z9.E Z9.con Tryz.f337 ((x0) : List Int) = Z9 x0 := by
  rw [Z9.v]
  simp only [Z9.e6]
  rfl
theorem Z9.ok : V.Valid Tryz.prog 337 Z9.con :=
  V.fo (V.tab_cons Z184.ok V.tab_nil) Tryz.func337 (by kernel_rfl) (fun x y h => (show V.evBody Z9.E Z9.con Tryz.f337 x = _ from Z9.eq x).trans (V.cfl (by kernel_rfl) h))
noncomputable abbrev Z186.con : V.Con := ⟨(.cons (.sl (.cons (.int .i64) .nil)) (.cons (.int .i64) (.cons (.int .i64) .nil))), (.cons (.int .i64) .nil), fun (x : List Int × Int × Int) => Z186 (x.1, x.2.1) x.2.2, [], [(true, 2), (false, 1)], [(false, 1)], [false], []⟩
noncomputable abbrev Z186.E : V.Env := V.mkE V.tys [(273, Z116.con), (337, Z9.con)] [] [] [] [] []
theorem Z186.eq (x0 : TKeys) (x1 : Int) : V.evBody Z186.E Z186.con Tryz.f318 ((x0.1, x0.2, x1) : List Int × Int × Int) = Z186 x0 x1 := by kernel_rfl
theorem Z186.ok : V.Valid Tryz.prog 318 Z186.con :=
  V.fo (V.tab_cons Z116.ok (V.tab_cons Z9.ok V.tab_nil)) Tryz.func318 (by kernel_rfl) (fun x y h => (show V.evBody Z186.E Z186.con Tryz.f318 x = _ from Z186.eq (x.1, x.2.1) x.2.2).trans (V.cfl (by kernel_rfl) h))
noncomputable abbrev Z82.con : V.Con := ⟨V.A2, (.cons (.sl (.cons (.int .i64) .nil)) .nil), fun (x : V.D2) => Z82 (V.p2_0 x), [], [(true, 16)], [(false, 1)], [true], []⟩
noncomputable abbrev Z82.E : V.Env := V.mkE V.tys [(273, Z116.con)] [] [] [] [] []
noncomputable abbrev Z82.kt (x0 : THead) : V.Kt (List Int) := V.ktOf Z82.E Z82.con Tryz.f125 (V.fl2 x0)
noncomputable abbrev Z82.s (x0 : THead) : V.St := ⟨[(0, .v true (V.lsHead x0))], []⟩
theorem Z82.v0 (x0 : THead) : V.evBody Z82.E Z82.con Tryz.f125 (V.fl2 x0) = V.evC Z82.E Tryz.f125.ntmps (V.codeOf Tryz.f125) (Z82.kt x0) (Z82.s x0) := by kernel_rfl
theorem Z82.v (x0 : THead) : V.evC Z82.E Tryz.f125.ntmps (V.codeOf Tryz.f125) (Z82.kt x0) (Z82.s x0) = Z82 x0 := by kernel_rfl
theorem Z82.eq (x0 : THead) : V.evBody Z82.E Z82.con Tryz.f125 (V.fl2 x0) = Z82 x0 := (Z82.v0 x0).trans (Z82.v x0)
theorem Z82.ok : V.Valid Tryz.prog 125 Z82.con :=
  V.fo (V.tab_cons Z116.ok V.tab_nil) Tryz.func125 (by kernel_rfl) (fun x y h => (show V.evBody Z82.E Z82.con Tryz.f125 x = _ from Z82.eq (V.p2_0 x)).trans (V.cfl (by kernel_rfl) h))
noncomputable abbrev Z183.con : V.Con := ⟨(.cons (.int .i64) (.cons (.sl (.cons (.int .i64) .nil)) .nil)), (.cons (.int .i64) .nil), fun (x : Int × List Int) => Z183 x.1 x.2, [], [(false, 1), (false, 1)], [(false, 1)], [false], []⟩
noncomputable abbrev Z183.E : V.Env := V.mkE V.tys [(337, Z9.con)] [] [] [] [] []
theorem Z183.eq (x0 : Int) (x1 : List Int) : V.evBody Z183.E Z183.con Tryz.f328 ((x0, x1) : Int × List Int) = Z183 x0 x1 := by kernel_rfl
theorem Z183.ok : V.Valid Tryz.prog 328 Z183.con :=
  V.fo (V.tab_cons Z9.ok V.tab_nil) Tryz.func328 (by kernel_rfl) (fun x y h => (show V.evBody Z183.E Z183.con Tryz.f328 x = _ from Z183.eq x.1 x.2).trans (V.cfl (by kernel_rfl) h))
noncomputable abbrev Z135.con : V.Con := ⟨(.cons (.int .i64) (.cons (.sl (.cons (.int .i64) .nil)) .nil)), (.cons (.int .i64) .nil), fun (x : Int × List Int) => Z135 x.1 x.2, [], [(false, 1), (false, 1)], [(false, 1)], [false], []⟩
noncomputable abbrev Z135.E : V.Env := V.mkE V.tys [(328, Z183.con)] [] [] [] [] []
theorem Z135.eq (x0 : Int) (x1 : List Int) : V.evBody Z135.E Z135.con Tryz.f202 ((x0, x1) : Int × List Int) = Z135 x0 x1 := by kernel_rfl
theorem Z135.ok : V.Valid Tryz.prog 202 Z135.con :=
  V.fo (V.tab_cons Z183.ok V.tab_nil) Tryz.func202 (by kernel_rfl) (fun x y h => (show V.evBody Z135.E Z135.con Tryz.f202 x = _ from Z135.eq x.1 x.2).trans (V.cfl (by kernel_rfl) h))
noncomputable abbrev Z182.con : V.Con := ⟨(.cons (.int .i64) (.cons (.int .i64) (.cons (.sl (.cons (.int .i64) .nil)) .nil))), (.cons .bool .nil), fun (x : Int × Int × List Int) => Z182 (x.1, x.2.1) x.2.2, [], [(true, 2), (false, 1)], [(false, 1)], [false], []⟩
noncomputable abbrev Z182.E : V.Env := V.mkE V.tys [(179, Z74.con), (202, Z135.con)] [] [(1, 10)] [] [] []
theorem Z182.eq (x0 : TSig) (x1 : List Int) : V.evBody Z182.E Z182.con Tryz.f336 ((x0.1, x0.2, x1) : Int × Int × List Int) = Z182 x0 x1 := by kernel_rfl
theorem Z182.ok : V.Valid Tryz.prog 336 Z182.con :=
  V.fo (V.tab_cons Z74.ok (V.tab_cons Z135.ok V.tab_nil)) Tryz.func336 (by kernel_rfl) (fun x y h => (show V.evBody Z182.E Z182.con Tryz.f336 x = _ from Z182.eq (x.1, x.2.1) x.2.2).trans (V.cfl (by kernel_rfl) h))
noncomputable abbrev Z1.con : V.Con := ⟨(.cons (.sl (.cons (.int .i64) .nil)) (.cons (.int .i64) (.cons (.sl (.cons (.int .i64) .nil)) (.cons (.sl (.cons (.int .i64) (.cons (.int .i64) .nil))) .nil)))), (.cons (.int .i64) .nil), fun (x : List Int × Int × List Int × List TSig) => Z1 (x.1, x.2.1) x.2.2.1 x.2.2.2, [], [(true, 2), (false, 1), (false, 1)], [(false, 1)], [false], []⟩
noncomputable abbrev Z1.E : V.Env := V.mkE V.tys [(336, Z182.con)] [(6, [1, 2, 3, 7, 8], []), (12, [1, 2, 3, 7, 8, 9], []), (19, [1, 2, 3, 7, 8, 9, 41], [])] [(8, 17)] [] [] []
noncomputable abbrev Z1.kt (x0 : TKeys) (x1 : List Int) (x2 : List TSig) : V.Kt Int := V.ktOf Z1.E Z1.con Tryz.f213 ((x0.1, x0.2, x1, x2) : List Int × Int × List Int × List TSig)
noncomputable abbrev Z1.s19 (x0 : TKeys) (x1 : List Int) (x2 : List TSig) (v6_2 : Int) (v6_3 : Int) (v12_4 : Int) (v19_5 : Bool) : V.St := ⟨[(1, .v false [.val (.sl (.cons (.int .i64) .nil) x1)]), (2, .v false [.val (.sl (.cons (.int .i64) (.cons (.int .i64) .nil)) x2)]), (3, .v false [.ptr 64000 0]), (7, .v false [.val (.int .i64 v6_2)]), (8, .v false [.val (.int .i64 v6_3)]), (9, .v false [.val (.int .i64 v12_4)]), (41, .v false [.val (.bool v19_5)])], [(64000, .box [.val (.sl (.cons (.int .i64) .nil) x0.1), .val (.int .i64 x0.2)])]⟩
noncomputable abbrev Z1.s12 (x0 : TKeys) (x1 : List Int) (x2 : List TSig) (v6_2 : Int) (v6_3 : Int) (v12_4 : Int) : V.St := ⟨[(1, .v false [.val (.sl (.cons (.int .i64) .nil) x1)]), (2, .v false [.val (.sl (.cons (.int .i64) (.cons (.int .i64) .nil)) x2)]), (3, .v false [.ptr 64000 0]), (7, .v false [.val (.int .i64 v6_2)]), (8, .v false [.val (.int .i64 v6_3)]), (9, .v false [.val (.int .i64 v12_4)])], [(64000, .box [.val (.sl (.cons (.int .i64) .nil) x0.1), .val (.int .i64 x0.2)])]⟩
noncomputable abbrev Z1.s6 (x0 : TKeys) (x1 : List Int) (x2 : List TSig) (v6_2 : Int) (v6_3 : Int) : V.St := ⟨[(1, .v false [.val (.sl (.cons (.int .i64) .nil) x1)]), (2, .v false [.val (.sl (.cons (.int .i64) (.cons (.int .i64) .nil)) x2)]), (3, .v false [.ptr 64000 0]), (7, .v false [.val (.int .i64 v6_2)]), (8, .v false [.val (.int .i64 v6_3)])], [(64000, .box [.val (.sl (.cons (.int .i64) .nil) x0.1), .val (.int .i64 x0.2)])]⟩
theorem Z1.r19 (x0 : TKeys) (x1 : List Int) (x2 : List TSig) (v12_4 : Int) (v6_2 : Int) (v6_3 : Int) (R6 : V.St → Option Int) (R12 : V.St → Option Int) (v19_5 : Bool) : V.joinF Z1.E Tryz.f213.ntmps [1, 1, 0, 1, 0, 0, 1, 0, 0, 1, 0, 0, 1, 0, 0] [R6, R12] (V.codeOf Tryz.f213) (Z1.kt x0 x1 x2) (Z1.s19 x0 x1 x2 v6_2 v6_3 v12_4 v19_5) = Z1.g19 x0 x1 x2 v6_2 v6_3 v12_4 (fun v6_2 v6_3 => R6 (Z1.s6 x0 x1 x2 v6_2 v6_3)) (fun v12_4 => R12 (Z1.s12 x0 x1 x2 v6_2 v6_3 v12_4)) v19_5 := by kernel_rfl
theorem Z1.e19 (x0 : TKeys) (x1 : List Int) (x2 : List TSig) (v12_4 : Int) (v6_2 : Int) (v6_3 : Int) (R6 : V.St → Option Int) (R12 : V.St → Option Int) (v19_5 : Bool) : V.jn (V.joinF Z1.E Tryz.f213.ntmps [1, 1, 0, 1, 0, 0, 1, 0, 0, 1, 0, 0, 1, 0, 0] [R6, R12] (V.codeOf Tryz.f213) (Z1.kt x0 x1 x2)) (Z1.s19 x0 x1 x2 v6_2 v6_3 v12_4 v19_5) = Z1.l19 x0 x1 x2 v6_2 v6_3 v12_4 (fun v6_2 v6_3 => R6 (Z1.s6 x0 x1 x2 v6_2 v6_3)) (fun v12_4 => R12 (Z1.s12 x0 x1 x2 v6_2 v6_3 v12_4)) v19_5 := by
  rw [V.jn_eq, Z1.r19]
  rfl
theorem Z1.r12 (x0 : TKeys) (x1 : List Int) (x2 : List TSig) (v6_2 : Int) (v6_3 : Int) (R6 : V.St → Option Int) (R : V.St → Option Int) (v12_4 : Int) : V.loopF Z1.E Tryz.f213.ntmps [1, 1, 0, 1, 0, 0, 1, 0, 0, 1, 0] [R6] (V.codeOf Tryz.f213) (Z1.kt x0 x1 x2) R (Z1.s12 x0 x1 x2 v6_2 v6_3 v12_4) = Z1.g12 x0 x1 x2 v6_2 v6_3 (fun v6_2 v6_3 => R6 (Z1.s6 x0 x1 x2 v6_2 v6_3)) (fun v12_4 => R (Z1.s12 x0 x1 x2 v6_2 v6_3 v12_4)) (fun v19_5 => V.jn (V.joinF Z1.E Tryz.f213.ntmps [1, 1, 0, 1, 0, 0, 1, 0, 0, 1, 0, 0, 1, 0, 0] [R6, R] (V.codeOf Tryz.f213) (Z1.kt x0 x1 x2)) (Z1.s19 x0 x1 x2 v6_2 v6_3 v12_4 v19_5)) v12_4 := by kernel_rfl
theorem Z1.e12 (x0 : TKeys) (x1 : List Int) (x2 : List TSig) (v6_2 : Int) (v6_3 : Int) (R6 : V.St → Option Int) : ∀ (n : Nat) (v12_4 : Int), V.loopN (V.loopF Z1.E Tryz.f213.ntmps [1, 1, 0, 1, 0, 0, 1, 0, 0, 1, 0] [R6] (V.codeOf Tryz.f213) (Z1.kt x0 x1 x2)) n (Z1.s12 x0 x1 x2 v6_2 v6_3 v12_4) = Z1.l12 x0 x1 x2 v6_2 v6_3 (fun v6_2 v6_3 => R6 (Z1.s6 x0 x1 x2 v6_2 v6_3)) n v12_4 := by
  intro n
  induction n with
  | zero => intros; rw [V.loopN_z]; rfl
  | succ n ih =>
    intro v12_4
    rw [V.loopN_s, Z1.r12]
    simp only [Z1.e19, ih]
    first | exact (Z1.u12 ..).symm | rfl
theorem Z1.r6 (x0 : TKeys) (x1 : List Int) (x2 : List TSig) (R : V.St → Option Int) (v6_2 : Int) (v6_3 : Int) : V.loopF Z1.E Tryz.f213.ntmps [1, 1, 0, 1, 0] [] (V.codeOf Tryz.f213) (Z1.kt x0 x1 x2) R (Z1.s6 x0 x1 x2 v6_2 v6_3) = Z1.g6 x0 x1 x2 (fun v6_2 v6_3 => R (Z1.s6 x0 x1 x2 v6_2 v6_3)) (fun v12_4 => V.loopN (V.loopF Z1.E Tryz.f213.ntmps [1, 1, 0, 1, 0, 0, 1, 0, 0, 1, 0] [R] (V.codeOf Tryz.f213) (Z1.kt x0 x1 x2)) V.KK (Z1.s12 x0 x1 x2 v6_2 v6_3 v12_4)) v6_2 v6_3 := by kernel_rfl
theorem Z1.e6 (x0 : TKeys) (x1 : List Int) (x2 : List TSig) : ∀ (n : Nat) (v6_2 : Int) (v6_3 : Int), V.loopN (V.loopF Z1.E Tryz.f213.ntmps [1, 1, 0, 1, 0] [] (V.codeOf Tryz.f213) (Z1.kt x0 x1 x2)) n (Z1.s6 x0 x1 x2 v6_2 v6_3) = Z1.l6 x0 x1 x2 n v6_2 v6_3 := by
  intro n
  induction n with
  | zero => intros; rw [V.loopN_z]; rfl
  | succ n ih =>
    intro v6_2 v6_3
    rw [V.loopN_s, Z1.r6]
    simp only [Z1.e12, ih]
    first | exact (Z1.u6 ..).symm | rfl
theorem Z1.v (x0 : TKeys) (x1 : List Int) (x2 : List TSig) : V.evBody Z1.E Z1.con Tryz.f213 ((x0.1, x0.2, x1, x2) : List Int × Int × List Int × List TSig) = Z1.b x0 x1 x2 (fun v6_2 v6_3 => V.loopN (V.loopF Z1.E Tryz.f213.ntmps [1, 1, 0, 1, 0] [] (V.codeOf Tryz.f213) (Z1.kt x0 x1 x2)) V.KK (Z1.s6 x0 x1 x2 v6_2 v6_3)) := by kernel_rfl
theorem Z1.eq (x0 : TKeys) (x1 : List Int) (x2 : List TSig) : V.evBody Z1.E Z1.con Tryz.f213 ((x0.1, x0.2, x1, x2) : List Int × Int × List Int × List TSig) = Z1 x0 x1 x2 := by
  rw [Z1.v]
  simp only [Z1.e6]
  rfl
theorem Z1.ok : V.Valid Tryz.prog 213 Z1.con :=
  V.fo (V.tab_cons Z182.ok V.tab_nil) Tryz.func213 (by kernel_rfl) (fun x y h => (show V.evBody Z1.E Z1.con Tryz.f213 x = _ from Z1.eq (x.1, x.2.1) x.2.2.1 x.2.2.2).trans (V.cfl (by kernel_rfl) h))
noncomputable abbrev Z133.con : V.Con := ⟨(.cons (.sl (.cons (.int .i64) .nil)) (.cons (.int .i64) (.cons (.sl (.cons (.int .i64) .nil)) (.cons (.sl (.cons (.int .i64) (.cons (.int .i64) .nil))) .nil)))), (.cons .bool .nil), fun (x : List Int × Int × List Int × List TSig) => Z133 (x.1, x.2.1) x.2.2.1 x.2.2.2, [], [(true, 2), (false, 1), (false, 1)], [(false, 1)], [false], []⟩
noncomputable abbrev Z133.E : V.Env := V.mkE V.tys [(213, Z1.con), (214, Z14.con)] [] [(1, 9)] [] [] []
theorem Z133.eq (x0 : TKeys) (x1 : List Int) (x2 : List TSig) : V.evBody Z133.E Z133.con Tryz.f316 ((x0.1, x0.2, x1, x2) : List Int × Int × List Int × List TSig) = Z133 x0 x1 x2 := by kernel_rfl
theorem Z133.ok : V.Valid Tryz.prog 316 Z133.con :=
  V.fo (V.tab_cons Z1.ok (V.tab_cons Z14.ok V.tab_nil)) Tryz.func316 (by kernel_rfl) (fun x y h => (show V.evBody Z133.E Z133.con Tryz.f316 x = _ from Z133.eq (x.1, x.2.1) x.2.2.1 x.2.2.2).trans (V.cfl (by kernel_rfl) h))
noncomputable abbrev Z106.con : V.Con := ⟨V.A3, (.cons .bool .nil), fun (x : V.D3) => Z106 (V.p3_0 x), [], [(true, 17)], [(false, 1)], [false], []⟩
noncomputable abbrev Z106.E : V.Env := V.mkE V.tys [(125, Z82.con), (312, Z2.con), (316, Z133.con), (318, Z186.con)] [] [(2, 34)] [] [] []
noncomputable abbrev Z106.kt (x0 : TSigned) : V.Kt Bool := V.ktOf Z106.E Z106.con Tryz.f181 (V.fl3 x0)
noncomputable abbrev Z106.s (x0 : TSigned) : V.St := ⟨[(0, .v true (V.lsSigned x0))], []⟩
theorem Z106.v0 (x0 : TSigned) : V.evBody Z106.E Z106.con Tryz.f181 (V.fl3 x0) = V.evC Z106.E Tryz.f181.ntmps (V.codeOf Tryz.f181) (Z106.kt x0) (Z106.s x0) := by kernel_rfl
theorem Z106.v (x0 : TSigned) : V.evC Z106.E Tryz.f181.ntmps (V.codeOf Tryz.f181) (Z106.kt x0) (Z106.s x0) = Z106 x0 := by kernel_rfl
theorem Z106.eq (x0 : TSigned) : V.evBody Z106.E Z106.con Tryz.f181 (V.fl3 x0) = Z106 x0 := (Z106.v0 x0).trans (Z106.v x0)
theorem Z106.ok : V.Valid Tryz.prog 181 Z106.con :=
  V.fo (V.tab_cons Z82.ok (V.tab_cons Z2.ok (V.tab_cons Z133.ok (V.tab_cons Z186.ok V.tab_nil)))) Tryz.func181 (by kernel_rfl) (fun x y h => (show V.evBody Z106.E Z106.con Tryz.f181 x = _ from Z106.eq (V.p3_0 x)).trans (V.cfl (by kernel_rfl) h))
noncomputable abbrev Z86.con : V.Con := ⟨V.A2, (.cons (.int .i64) .nil), fun (x : V.D2) => Z86 (V.p2_0 x), [], [(true, 16)], [(false, 1)], [false], []⟩
noncomputable abbrev Z86.E : V.Env := V.mkE V.tys [(125, Z82.con), (337, Z9.con)] [] [] [] [] []
noncomputable abbrev Z86.kt (x0 : THead) : V.Kt Int := V.ktOf Z86.E Z86.con Tryz.f216 (V.fl2 x0)
noncomputable abbrev Z86.s (x0 : THead) : V.St := ⟨[(0, .v true (V.lsHead x0))], []⟩
theorem Z86.v0 (x0 : THead) : V.evBody Z86.E Z86.con Tryz.f216 (V.fl2 x0) = V.evC Z86.E Tryz.f216.ntmps (V.codeOf Tryz.f216) (Z86.kt x0) (Z86.s x0) := by kernel_rfl
theorem Z86.v (x0 : THead) : V.evC Z86.E Tryz.f216.ntmps (V.codeOf Tryz.f216) (Z86.kt x0) (Z86.s x0) = Z86 x0 := by kernel_rfl
theorem Z86.eq (x0 : THead) : V.evBody Z86.E Z86.con Tryz.f216 (V.fl2 x0) = Z86 x0 := (Z86.v0 x0).trans (Z86.v x0)
theorem Z86.ok : V.Valid Tryz.prog 216 Z86.con :=
  V.fo (V.tab_cons Z82.ok (V.tab_cons Z9.ok V.tab_nil)) Tryz.func216 (by kernel_rfl) (fun x y h => (show V.evBody Z86.E Z86.con Tryz.f216 x = _ from Z86.eq (V.p2_0 x)).trans (V.cfl (by kernel_rfl) h))
noncomputable abbrev Z110.con : V.Con := ⟨V.A4, (.cons (.int .i64) .nil), fun (x : V.D4) => Z110 (V.p4_0 x) (V.p4_1 x), [], [(true, 16), (true, 16)], [(false, 1)], [false], []⟩
noncomputable abbrev Z110.E : V.Env := V.mkE V.tys [] [] [] [] [] []
noncomputable abbrev Z110.kt (x0 : THead) (x1 : THead) : V.Kt Int := V.ktOf Z110.E Z110.con Tryz.f313 (V.fl4 x0 x1)
noncomputable abbrev Z110.s (x0 : THead) (x1 : THead) : V.St := ⟨[(0, .v true (V.lsHead x0)), (1, .v true (V.lsHead x1))], []⟩
theorem Z110.v0 (x0 : THead) (x1 : THead) : V.evBody Z110.E Z110.con Tryz.f313 (V.fl4 x0 x1) = V.evC Z110.E Tryz.f313.ntmps (V.codeOf Tryz.f313) (Z110.kt x0 x1) (Z110.s x0 x1) := by kernel_rfl
theorem Z110.v (x0 : THead) (x1 : THead) : V.evC Z110.E Tryz.f313.ntmps (V.codeOf Tryz.f313) (Z110.kt x0 x1) (Z110.s x0 x1) = Z110 x0 x1 := by kernel_rfl
theorem Z110.eq (x0 : THead) (x1 : THead) : V.evBody Z110.E Z110.con Tryz.f313 (V.fl4 x0 x1) = Z110 x0 x1 := (Z110.v0 x0 x1).trans (Z110.v x0 x1)
theorem Z110.ok : V.Valid Tryz.prog 313 Z110.con :=
  V.fo V.tab_nil Tryz.func313 (by kernel_rfl) (fun x y h => (show V.evBody Z110.E Z110.con Tryz.f313 x = _ from Z110.eq (V.p4_0 x) (V.p4_1 x)).trans (V.cfl (by kernel_rfl) h))
noncomputable abbrev Z23.con : V.Con := ⟨(.cons (.sl (.cons (.int .i64) .nil)) (.cons (.sl (.cons (.int .i64) .nil)) .nil)), (.cons .bool .nil), fun (x : List Int × List Int) => Z23 x.1 x.2, [], [(false, 1), (false, 1)], [(false, 1)], [false], []⟩
noncomputable abbrev Z23.E : V.Env := V.mkE V.tys [] [(8, [0, 1, 5], [])] [(6, 8)] [] [] []
noncomputable abbrev Z23.kt (x0 : List Int) (x1 : List Int) : V.Kt Bool := V.ktOf Z23.E Z23.con Tryz.f329 ((x0, x1) : List Int × List Int)
noncomputable abbrev Z23.s8 (x0 : List Int) (x1 : List Int) (v8_2 : Int) : V.St := ⟨[(0, .v false [.val (.sl (.cons (.int .i64) .nil) x0)]), (1, .v false [.val (.sl (.cons (.int .i64) .nil) x1)]), (5, .v false [.val (.int .i64 v8_2)])], []⟩
theorem Z23.r8 (x0 : List Int) (x1 : List Int) (R : V.St → Option Bool) (v8_2 : Int) : V.loopF Z23.E Tryz.f329.ntmps [1, 1, 0, 1, 0] [] (V.codeOf Tryz.f329) (Z23.kt x0 x1) R (Z23.s8 x0 x1 v8_2) = Z23.g8 x0 x1 (fun v8_2 => R (Z23.s8 x0 x1 v8_2)) v8_2 := by kernel_rfl
theorem Z23.e8 (x0 : List Int) (x1 : List Int) : ∀ (n : Nat) (v8_2 : Int), V.loopN (V.loopF Z23.E Tryz.f329.ntmps [1, 1, 0, 1, 0] [] (V.codeOf Tryz.f329) (Z23.kt x0 x1)) n (Z23.s8 x0 x1 v8_2) = Z23.l8 x0 x1 n v8_2 := by
  intro n
  induction n with
  | zero => intros; rw [V.loopN_z]; rfl
  | succ n ih =>
    intro v8_2
    rw [V.loopN_s, Z23.r8]
    simp only [ih]
    first | exact (Z23.u8 ..).symm | rfl
theorem Z23.v (x0 : List Int) (x1 : List Int) : V.evBody Z23.E Z23.con Tryz.f329 ((x0, x1) : List Int × List Int) = Z23.b x0 x1 (fun v8_2 => V.loopN (V.loopF Z23.E Tryz.f329.ntmps [1, 1, 0, 1, 0] [] (V.codeOf Tryz.f329) (Z23.kt x0 x1)) V.KK (Z23.s8 x0 x1 v8_2)) := by kernel_rfl
theorem Z23.eq (x0 : List Int) (x1 : List Int) : V.evBody Z23.E Z23.con Tryz.f329 ((x0, x1) : List Int × List Int) = Z23 x0 x1 := by
  rw [Z23.v]
  simp only [Z23.e8]
  rfl
theorem Z23.ok : V.Valid Tryz.prog 329 Z23.con :=
  V.fo V.tab_nil Tryz.func329 (by kernel_rfl) (fun x y h => (show V.evBody Z23.E Z23.con Tryz.f329 x = _ from Z23.eq x.1 x.2).trans (V.cfl (by kernel_rfl) h))
noncomputable abbrev Z123.con : V.Con := ⟨(.cons (.sl (.cons (.int .i64) .nil)) (.cons (.int .i64) (.cons (.sl (.cons (.int .i64) .nil)) (.cons (.int .i64) .nil)))), (.cons .bool .nil), fun (x : List Int × Int × List Int × Int) => Z123 (x.1, x.2.1) x.2.2, [], [(true, 2), (true, 2)], [(false, 1)], [false], []⟩
noncomputable abbrev Z123.E : V.Env := V.mkE V.tys [(329, Z23.con)] [] [] [] [] []
theorem Z123.eq (x0 : TKeys) (x1 : TKeys) : V.evBody Z123.E Z123.con Tryz.f397 ((x0.1, x0.2, x1.1, x1.2) : List Int × Int × List Int × Int) = Z123 x0 x1 := by kernel_rfl
theorem Z123.ok : V.Valid Tryz.prog 397 Z123.con :=
  V.fo (V.tab_cons Z23.ok V.tab_nil) Tryz.func397 (by kernel_rfl) (fun x y h => (show V.evBody Z123.E Z123.con Tryz.f397 x = _ from Z123.eq (x.1, x.2.1) x.2.2).trans (V.cfl (by kernel_rfl) h))
noncomputable abbrev Z91.con : V.Con := ⟨V.A4, (.cons .bool .nil), fun (x : V.D4) => Z91 (V.p4_0 x) (V.p4_1 x), [], [(true, 16), (true, 16)], [(false, 1)], [false], []⟩
noncomputable abbrev Z91.E : V.Env := V.mkE V.tys [] [] [] [] [] []
noncomputable abbrev Z91.kt (x0 : THead) (x1 : THead) : V.Kt Bool := V.ktOf Z91.E Z91.con Tryz.f398 (V.fl4 x0 x1)
noncomputable abbrev Z91.s (x0 : THead) (x1 : THead) : V.St := ⟨[(0, .v true (V.lsHead x0)), (1, .v true (V.lsHead x1))], []⟩
theorem Z91.v0 (x0 : THead) (x1 : THead) : V.evBody Z91.E Z91.con Tryz.f398 (V.fl4 x0 x1) = V.evC Z91.E Tryz.f398.ntmps (V.codeOf Tryz.f398) (Z91.kt x0 x1) (Z91.s x0 x1) := by kernel_rfl
theorem Z91.v (x0 : THead) (x1 : THead) : V.evC Z91.E Tryz.f398.ntmps (V.codeOf Tryz.f398) (Z91.kt x0 x1) (Z91.s x0 x1) = Z91 x0 x1 := by kernel_rfl
theorem Z91.eq (x0 : THead) (x1 : THead) : V.evBody Z91.E Z91.con Tryz.f398 (V.fl4 x0 x1) = Z91 x0 x1 := (Z91.v0 x0 x1).trans (Z91.v x0 x1)
theorem Z91.ok : V.Valid Tryz.prog 398 Z91.con :=
  V.fo V.tab_nil Tryz.func398 (by kernel_rfl) (fun x y h => (show V.evBody Z91.E Z91.con Tryz.f398 x = _ from Z91.eq (V.p4_0 x) (V.p4_1 x)).trans (V.cfl (by kernel_rfl) h))
noncomputable abbrev Z26.con : V.Con := ⟨V.A4, (.cons (.int .i64) .nil), fun (x : V.D4) => Z26 (V.p4_0 x) (V.p4_1 x), [], [(true, 16), (true, 16)], [(false, 1)], [false], []⟩
noncomputable abbrev Z26.E : V.Env := V.mkE V.tys [(237, Z119.con), (397, Z123.con), (398, Z91.con)] [(9, [2, 3, 8], [])] [] [] [] []
noncomputable abbrev Z26.kt (x0 : THead) (x1 : THead) : V.Kt Int := V.ktOf Z26.E Z26.con Tryz.f314 (V.fl4 x0 x1)
noncomputable abbrev Z26.s9 (x0 : THead) (x1 : THead) (v9_0 : Bool) : V.St := ⟨[(2, .v false [.ptr 64000 0]), (3, .v false [.ptr 64064 0]), (8, .v false [.val (.bool v9_0)])], [(64000, .box (V.lsHead x0)), (64064, .box (V.lsHead x1))]⟩
theorem Z26.r9 (x0 : THead) (x1 : THead) (v9_0 : Bool) : V.joinF Z26.E Tryz.f314.ntmps [1, 0, 0, 1, 1] [] (V.codeOf Tryz.f314) (Z26.kt x0 x1) (Z26.s9 x0 x1 v9_0) = Z26.g9 x0 x1 v9_0 := by kernel_rfl
theorem Z26.e9 (x0 : THead) (x1 : THead) (v9_0 : Bool) : V.jn (V.joinF Z26.E Tryz.f314.ntmps [1, 0, 0, 1, 1] [] (V.codeOf Tryz.f314) (Z26.kt x0 x1)) (Z26.s9 x0 x1 v9_0) = Z26.l9 x0 x1 v9_0 := by
  rw [V.jn_eq, Z26.r9]
  rfl
noncomputable abbrev Z26.s (x0 : THead) (x1 : THead) : V.St := ⟨[(0, .v true (V.lsHead x0)), (1, .v true (V.lsHead x1))], []⟩
theorem Z26.v0 (x0 : THead) (x1 : THead) : V.evBody Z26.E Z26.con Tryz.f314 (V.fl4 x0 x1) = V.evC Z26.E Tryz.f314.ntmps (V.codeOf Tryz.f314) (Z26.kt x0 x1) (Z26.s x0 x1) := by kernel_rfl
theorem Z26.v (x0 : THead) (x1 : THead) : V.evC Z26.E Tryz.f314.ntmps (V.codeOf Tryz.f314) (Z26.kt x0 x1) (Z26.s x0 x1) = Z26.b x0 x1 (fun v9_0 => V.jn (V.joinF Z26.E Tryz.f314.ntmps [1, 0, 0, 1, 1] [] (V.codeOf Tryz.f314) (Z26.kt x0 x1)) (Z26.s9 x0 x1 v9_0)) := by kernel_rfl
theorem Z26.eq (x0 : THead) (x1 : THead) : V.evBody Z26.E Z26.con Tryz.f314 (V.fl4 x0 x1) = Z26 x0 x1 := by
  rw [Z26.v0, Z26.v]
  simp only [Z26.e9]
  rfl
theorem Z26.ok : V.Valid Tryz.prog 314 Z26.con :=
  V.fo (V.tab_cons Z119.ok (V.tab_cons Z123.ok (V.tab_cons Z91.ok V.tab_nil))) Tryz.func314 (by kernel_rfl) (fun x y h => (show V.evBody Z26.E Z26.con Tryz.f314 x = _ from Z26.eq (V.p4_0 x) (V.p4_1 x)).trans (V.cfl (by kernel_rfl) h))
noncomputable abbrev Z27.con : V.Con := ⟨V.A4, (.cons (.int .i64) .nil), fun (x : V.D4) => Z27 (V.p4_0 x) (V.p4_1 x), [], [(true, 16), (true, 16)], [(false, 1)], [false], []⟩
noncomputable abbrev Z27.E : V.Env := V.mkE V.tys [(237, Z119.con), (397, Z123.con), (398, Z91.con)] [(9, [2, 3, 9], [])] [] [] [] []
noncomputable abbrev Z27.kt (x0 : THead) (x1 : THead) : V.Kt Int := V.ktOf Z27.E Z27.con Tryz.f315 (V.fl4 x0 x1)
noncomputable abbrev Z27.s9 (x0 : THead) (x1 : THead) (v9_0 : Bool) : V.St := ⟨[(2, .v false [.ptr 64000 0]), (3, .v false [.ptr 64064 0]), (9, .v false [.val (.bool v9_0)])], [(64000, .box (V.lsHead x0)), (64064, .box (V.lsHead x1))]⟩
theorem Z27.r9 (x0 : THead) (x1 : THead) (v9_0 : Bool) : V.joinF Z27.E Tryz.f315.ntmps [1, 0, 0, 1, 1] [] (V.codeOf Tryz.f315) (Z27.kt x0 x1) (Z27.s9 x0 x1 v9_0) = Z27.g9 x0 x1 v9_0 := by kernel_rfl
theorem Z27.e9 (x0 : THead) (x1 : THead) (v9_0 : Bool) : V.jn (V.joinF Z27.E Tryz.f315.ntmps [1, 0, 0, 1, 1] [] (V.codeOf Tryz.f315) (Z27.kt x0 x1)) (Z27.s9 x0 x1 v9_0) = Z27.l9 x0 x1 v9_0 := by
  rw [V.jn_eq, Z27.r9]
  rfl
noncomputable abbrev Z27.s (x0 : THead) (x1 : THead) : V.St := ⟨[(0, .v true (V.lsHead x0)), (1, .v true (V.lsHead x1))], []⟩
theorem Z27.v0 (x0 : THead) (x1 : THead) : V.evBody Z27.E Z27.con Tryz.f315 (V.fl4 x0 x1) = V.evC Z27.E Tryz.f315.ntmps (V.codeOf Tryz.f315) (Z27.kt x0 x1) (Z27.s x0 x1) := by kernel_rfl
theorem Z27.v (x0 : THead) (x1 : THead) : V.evC Z27.E Tryz.f315.ntmps (V.codeOf Tryz.f315) (Z27.kt x0 x1) (Z27.s x0 x1) = Z27.b x0 x1 (fun v9_0 => V.jn (V.joinF Z27.E Tryz.f315.ntmps [1, 0, 0, 1, 1] [] (V.codeOf Tryz.f315) (Z27.kt x0 x1)) (Z27.s9 x0 x1 v9_0)) := by kernel_rfl
theorem Z27.eq (x0 : THead) (x1 : THead) : V.evBody Z27.E Z27.con Tryz.f315 (V.fl4 x0 x1) = Z27 x0 x1 := by
  rw [Z27.v0, Z27.v]
  simp only [Z27.e9]
  rfl
theorem Z27.ok : V.Valid Tryz.prog 315 Z27.con :=
  V.fo (V.tab_cons Z119.ok (V.tab_cons Z123.ok (V.tab_cons Z91.ok V.tab_nil))) Tryz.func315 (by kernel_rfl) (fun x y h => (show V.evBody Z27.E Z27.con Tryz.f315 x = _ from Z27.eq (V.p4_0 x) (V.p4_1 x)).trans (V.cfl (by kernel_rfl) h))
noncomputable abbrev Z3.con : V.Con := ⟨V.A5, (.cons (.int .i64) .nil), fun (x : V.D5) => Z3 (V.p5_0 x) (V.p5_1 x), [], [(true, 16), (true, 17)], [(false, 1)], [false], []⟩
noncomputable abbrev Z3.E : V.Env := V.mkE V.tys [(125, Z82.con), (216, Z86.con), (312, Z2.con), (313, Z110.con), (314, Z26.con), (315, Z27.con), (316, Z133.con)] [(9, [2, 3, 5], []), (13, [2, 3, 5], []), (31, [3, 5, 6, 7], [])] [(4, 25), (15, 8)] [] [] []
noncomputable abbrev Z3.kt (x0 : THead) (x1 : TSigned) : V.Kt Int := V.ktOf Z3.E Z3.con Tryz.f176 (V.fl5 x0 x1)
noncomputable abbrev Z3.s31 (x1 : TSigned) (v31_0 : Int) (v31_34 : List Int) (v31_35 : Int) : V.St := ⟨[(3, .v false [.ptr 64064 0]), (5, .v false [.ptr 128128 0]), (6, .v false [.val (.int .i64 v31_0)]), (7, .v false [.ptr 512128 0])], [(64064, .box (V.lsSigned x1)), (128128, .box [.val (.int .i64 x1.1), .val (.int .i64 x1.2.1), .val (.int .i64 x1.2.2.1), .val (.int .i64 x1.2.2.2.1), .val (.int .i64 x1.2.2.2.2.1), .val (.int .i64 x1.2.2.2.2.2.1), .val (.int .i64 x1.2.2.2.2.2.2.1), .val (.int .i64 x1.2.2.2.2.2.2.2.1), .val (.sl (.cons (.int .i64) .nil) x1.2.2.2.2.2.2.2.2.1), .val (.int .i64 x1.2.2.2.2.2.2.2.2.2.1), .val (.sl (.cons (.int .i64) .nil) x1.2.2.2.2.2.2.2.2.2.2.1), .val (.int .i64 x1.2.2.2.2.2.2.2.2.2.2.2.1), .val (.int .i64 x1.2.2.2.2.2.2.2.2.2.2.2.2.1), .val (.sl (.cons (.int .i64) .nil) x1.2.2.2.2.2.2.2.2.2.2.2.2.2.1), .val (.int .i64 x1.2.2.2.2.2.2.2.2.2.2.2.2.2.2.1), .val (.bool x1.2.2.2.2.2.2.2.2.2.2.2.2.2.2.2.1)]), (512128, .box [.val (.sl (.cons (.int .i64) .nil) v31_34), .val (.int .i64 v31_35)])]⟩
noncomputable abbrev Z3.s13 (x0 : THead) (x1 : TSigned) : V.St := ⟨[(2, .v false [.ptr 64000 0]), (3, .v false [.ptr 64064 0]), (5, .v false [.ptr 128128 0])], [(64000, .box (V.lsHead x0)), (64064, .box (V.lsSigned x1)), (128128, .box [.val (.int .i64 x1.1), .val (.int .i64 x1.2.1), .val (.int .i64 x1.2.2.1), .val (.int .i64 x1.2.2.2.1), .val (.int .i64 x1.2.2.2.2.1), .val (.int .i64 x1.2.2.2.2.2.1), .val (.int .i64 x1.2.2.2.2.2.2.1), .val (.int .i64 x1.2.2.2.2.2.2.2.1), .val (.sl (.cons (.int .i64) .nil) x1.2.2.2.2.2.2.2.2.1), .val (.int .i64 x1.2.2.2.2.2.2.2.2.2.1), .val (.sl (.cons (.int .i64) .nil) x1.2.2.2.2.2.2.2.2.2.2.1), .val (.int .i64 x1.2.2.2.2.2.2.2.2.2.2.2.1), .val (.int .i64 x1.2.2.2.2.2.2.2.2.2.2.2.2.1), .val (.sl (.cons (.int .i64) .nil) x1.2.2.2.2.2.2.2.2.2.2.2.2.2.1), .val (.int .i64 x1.2.2.2.2.2.2.2.2.2.2.2.2.2.2.1), .val (.bool x1.2.2.2.2.2.2.2.2.2.2.2.2.2.2.2.1)])]⟩
noncomputable abbrev Z3.s9 (x0 : THead) (x1 : TSigned) : V.St := ⟨[(2, .v false [.ptr 64000 0]), (3, .v false [.ptr 64064 0]), (5, .v false [.ptr 128128 0])], [(64000, .box (V.lsHead x0)), (64064, .box (V.lsSigned x1)), (128128, .box [.val (.int .i64 x1.1), .val (.int .i64 x1.2.1), .val (.int .i64 x1.2.2.1), .val (.int .i64 x1.2.2.2.1), .val (.int .i64 x1.2.2.2.2.1), .val (.int .i64 x1.2.2.2.2.2.1), .val (.int .i64 x1.2.2.2.2.2.2.1), .val (.int .i64 x1.2.2.2.2.2.2.2.1), .val (.sl (.cons (.int .i64) .nil) x1.2.2.2.2.2.2.2.2.1), .val (.int .i64 x1.2.2.2.2.2.2.2.2.2.1), .val (.sl (.cons (.int .i64) .nil) x1.2.2.2.2.2.2.2.2.2.2.1), .val (.int .i64 x1.2.2.2.2.2.2.2.2.2.2.2.1), .val (.int .i64 x1.2.2.2.2.2.2.2.2.2.2.2.2.1), .val (.sl (.cons (.int .i64) .nil) x1.2.2.2.2.2.2.2.2.2.2.2.2.2.1), .val (.int .i64 x1.2.2.2.2.2.2.2.2.2.2.2.2.2.2.1), .val (.bool x1.2.2.2.2.2.2.2.2.2.2.2.2.2.2.2.1)])]⟩
theorem Z3.r31 (x0 : THead) (x1 : TSigned) (v31_0 : Int) (v31_34 : List Int) (v31_35 : Int) : V.joinF Z3.E Tryz.f176.ntmps [1, 1, 1, 1, 1, 1] [] (V.codeOf Tryz.f176) (Z3.kt x0 x1) (Z3.s31 x1 v31_0 v31_34 v31_35) = Z3.g31 x1 v31_0 v31_34 v31_35 := by kernel_rfl
theorem Z3.e31 (x0 : THead) (x1 : TSigned) (v31_0 : Int) (v31_34 : List Int) (v31_35 : Int) : V.jn (V.joinF Z3.E Tryz.f176.ntmps [1, 1, 1, 1, 1, 1] [] (V.codeOf Tryz.f176) (Z3.kt x0 x1)) (Z3.s31 x1 v31_0 v31_34 v31_35) = Z3.l31 x1 v31_0 v31_34 v31_35 := by
  rw [V.jn_eq, Z3.r31]
  rfl
theorem Z3.r13 (x0 : THead) (x1 : TSigned) : V.joinF Z3.E Tryz.f176.ntmps [1, 1, 1] [] (V.codeOf Tryz.f176) (Z3.kt x0 x1) (Z3.s13 x0 x1) = Z3.g13 x0 x1 (fun v31_0 v31_34 v31_35 => V.jn (V.joinF Z3.E Tryz.f176.ntmps [1, 1, 1, 1, 1, 1] [] (V.codeOf Tryz.f176) (Z3.kt x0 x1)) (Z3.s31 x1 v31_0 v31_34 v31_35)) := by kernel_rfl
theorem Z3.e13 (x0 : THead) (x1 : TSigned) : V.jn (V.joinF Z3.E Tryz.f176.ntmps [1, 1, 1] [] (V.codeOf Tryz.f176) (Z3.kt x0 x1)) (Z3.s13 x0 x1) = Z3.l13 x0 x1 := by
  rw [V.jn_eq, Z3.r13]
  simp only [Z3.e31]
  rfl
theorem Z3.r9 (x0 : THead) (x1 : TSigned) : V.joinF Z3.E Tryz.f176.ntmps [1, 1] [] (V.codeOf Tryz.f176) (Z3.kt x0 x1) (Z3.s9 x0 x1) = Z3.g9 x0 x1 (V.jn (V.joinF Z3.E Tryz.f176.ntmps [1, 1, 1] [] (V.codeOf Tryz.f176) (Z3.kt x0 x1)) (Z3.s13 x0 x1)) := by kernel_rfl
theorem Z3.e9 (x0 : THead) (x1 : TSigned) : V.jn (V.joinF Z3.E Tryz.f176.ntmps [1, 1] [] (V.codeOf Tryz.f176) (Z3.kt x0 x1)) (Z3.s9 x0 x1) = Z3.l9 x0 x1 := by
  rw [V.jn_eq, Z3.r9]
  simp only [Z3.e13]
  rfl
noncomputable abbrev Z3.s (x0 : THead) (x1 : TSigned) : V.St := ⟨[(0, .v true (V.lsHead x0)), (1, .v true (V.lsSigned x1))], []⟩
theorem Z3.v0 (x0 : THead) (x1 : TSigned) : V.evBody Z3.E Z3.con Tryz.f176 (V.fl5 x0 x1) = V.evC Z3.E Tryz.f176.ntmps (V.codeOf Tryz.f176) (Z3.kt x0 x1) (Z3.s x0 x1) := by kernel_rfl
theorem Z3.v (x0 : THead) (x1 : TSigned) : V.evC Z3.E Tryz.f176.ntmps (V.codeOf Tryz.f176) (Z3.kt x0 x1) (Z3.s x0 x1) = Z3.b x0 x1 (V.jn (V.joinF Z3.E Tryz.f176.ntmps [1, 1] [] (V.codeOf Tryz.f176) (Z3.kt x0 x1)) (Z3.s9 x0 x1)) := by kernel_rfl
theorem Z3.eq (x0 : THead) (x1 : TSigned) : V.evBody Z3.E Z3.con Tryz.f176 (V.fl5 x0 x1) = Z3 x0 x1 := by
  rw [Z3.v0, Z3.v]
  simp only [Z3.e9]
  rfl
theorem Z3.ok : V.Valid Tryz.prog 176 Z3.con :=
  V.fo (V.tab_cons Z82.ok (V.tab_cons Z86.ok (V.tab_cons Z2.ok (V.tab_cons Z110.ok (V.tab_cons Z26.ok (V.tab_cons Z27.ok (V.tab_cons Z133.ok V.tab_nil))))))) Tryz.func176 (by kernel_rfl) (fun x y h => (show V.evBody Z3.E Z3.con Tryz.f176 x = _ from Z3.eq (V.p5_0 x) (V.p5_1 x)).trans (V.cfl (by kernel_rfl) h))
noncomputable abbrev Z107.con : V.Con := ⟨V.A5, (.cons .bool .nil), fun (x : V.D5) => Z107 (V.p5_0 x) (V.p5_1 x), [], [(true, 16), (true, 17)], [(false, 1)], [false], []⟩
noncomputable abbrev Z107.E : V.Env := V.mkE V.tys [(176, Z3.con)] [] [] [] [] []
noncomputable abbrev Z107.kt (x0 : THead) (x1 : TSigned) : V.Kt Bool := V.ktOf Z107.E Z107.con Tryz.f182 (V.fl5 x0 x1)
noncomputable abbrev Z107.s (x0 : THead) (x1 : TSigned) : V.St := ⟨[(0, .v true (V.lsHead x0)), (1, .v true (V.lsSigned x1))], []⟩
theorem Z107.v0 (x0 : THead) (x1 : TSigned) : V.evBody Z107.E Z107.con Tryz.f182 (V.fl5 x0 x1) = V.evC Z107.E Tryz.f182.ntmps (V.codeOf Tryz.f182) (Z107.kt x0 x1) (Z107.s x0 x1) := by kernel_rfl
theorem Z107.v (x0 : THead) (x1 : TSigned) : V.evC Z107.E Tryz.f182.ntmps (V.codeOf Tryz.f182) (Z107.kt x0 x1) (Z107.s x0 x1) = Z107 x0 x1 := by kernel_rfl
theorem Z107.eq (x0 : THead) (x1 : TSigned) : V.evBody Z107.E Z107.con Tryz.f182 (V.fl5 x0 x1) = Z107 x0 x1 := (Z107.v0 x0 x1).trans (Z107.v x0 x1)
theorem Z107.ok : V.Valid Tryz.prog 182 Z107.con :=
  V.fo (V.tab_cons Z3.ok V.tab_nil) Tryz.func182 (by kernel_rfl) (fun x y h => (show V.evBody Z107.E Z107.con Tryz.f182 x = _ from Z107.eq (V.p5_0 x) (V.p5_1 x)).trans (V.cfl (by kernel_rfl) h))
noncomputable abbrev Z30.con : V.Con := ⟨(.cons (.sl V.eSigned) .nil), (.cons (.int .i64) .nil), fun (x : List TSigned) => Z30 x, [], [(false, 1)], [(false, 1)], [false], []⟩
noncomputable abbrev Z30.E : V.Env := V.mkE V.tys [(181, Z106.con), (182, Z107.con)] [(4, [0, 3], [])] [(4, 23)] [] [] []
noncomputable abbrev Z30.kt (x0 : List TSigned) : V.Kt Int := V.ktOf Z30.E Z30.con Tryz.f40 ((x0) : List TSigned)
noncomputable abbrev Z30.s4 (x0 : List TSigned) (v4_1 : Int) : V.St := ⟨[(0, .v false [.val (.sl V.eSigned x0)]), (3, .v false [.val (.int .i64 v4_1)])], []⟩
theorem Z30.r4 (x0 : List TSigned) (R : V.St → Option Int) (v4_1 : Int) : V.loopF Z30.E Tryz.f40.ntmps [1, 0, 1, 0] [] (V.codeOf Tryz.f40) (Z30.kt x0) R (Z30.s4 x0 v4_1) = Z30.g4 x0 (fun v4_1 => R (Z30.s4 x0 v4_1)) v4_1 := by kernel_rfl
theorem Z30.e4 (x0 : List TSigned) : ∀ (n : Nat) (v4_1 : Int), V.loopN (V.loopF Z30.E Tryz.f40.ntmps [1, 0, 1, 0] [] (V.codeOf Tryz.f40) (Z30.kt x0)) n (Z30.s4 x0 v4_1) = Z30.l4 x0 n v4_1 := by
  intro n
  induction n with
  | zero => intros; rw [V.loopN_z]; rfl
  | succ n ih =>
    intro v4_1
    rw [V.loopN_s, Z30.r4]
    simp only [ih]
    first | exact (Z30.u4 ..).symm | rfl
theorem Z30.v (x0 : List TSigned) : V.evBody Z30.E Z30.con Tryz.f40 ((x0) : List TSigned) = Z30.b x0 (fun v4_1 => V.loopN (V.loopF Z30.E Tryz.f40.ntmps [1, 0, 1, 0] [] (V.codeOf Tryz.f40) (Z30.kt x0)) V.KK (Z30.s4 x0 v4_1)) := by kernel_rfl
theorem Z30.eq (x0 : List TSigned) : V.evBody Z30.E Z30.con Tryz.f40 ((x0) : List TSigned) = Z30 x0 := by
  rw [Z30.v]
  simp only [Z30.e4]
  rfl
theorem Z30.ok : V.Valid Tryz.prog 40 Z30.con :=
  V.fo (V.tab_cons Z106.ok (V.tab_cons Z107.ok V.tab_nil)) Tryz.func40 (by kernel_rfl) (fun x y h => (show V.evBody Z30.E Z30.con Tryz.f40 x = _ from Z30.eq x).trans (V.cfl (by kernel_rfl) h))
noncomputable abbrev Z180.con : V.Con := ⟨(.cons (.sl V.eSigned) .nil), (.cons .bool .nil), fun (x : List TSigned) => Z180 x, [], [(false, 1)], [(false, 1)], [false], []⟩
noncomputable abbrev Z180.E : V.Env := V.mkE V.tys [(40, Z30.con), (179, Z74.con)] [] [] [] [] []
theorem Z180.eq (x0 : List TSigned) : V.evBody Z180.E Z180.con Tryz.f38 ((x0) : List TSigned) = Z180 x0 := by kernel_rfl
theorem Z180.ok : V.Valid Tryz.prog 38 Z180.con :=
  V.fo (V.tab_cons Z30.ok (V.tab_cons Z74.ok V.tab_nil)) Tryz.func38 (by kernel_rfl) (fun x y h => (show V.evBody Z180.E Z180.con Tryz.f38 x = _ from Z180.eq x).trans (V.cfl (by kernel_rfl) h))
noncomputable abbrev Z144.con : V.Con := ⟨(.cons (.sl (.cons (.int .i64) .nil)) (.cons (.int .i64) .nil)), (.cons (.sl (.cons (.int .i64) .nil)) (.cons (.int .i64) .nil)), fun (x : List Int × Int) => Z144 x, [], [(true, 2)], [(true, 2)], [true, false], []⟩
noncomputable abbrev Z144.E : V.Env := V.mkE V.tys [] [] [(1, 6)] [] [] []
theorem Z144.eq (x0 : TKeys) : V.evBody Z144.E Z144.con Tryz.f236 ((x0.1, x0.2) : List Int × Int) = Z144 x0 := by kernel_rfl
theorem Z144.ok : V.Valid Tryz.prog 236 Z144.con :=
  V.fo V.tab_nil Tryz.func236 (by kernel_rfl) (fun x y h => (show V.evBody Z144.E Z144.con Tryz.f236 x = _ from Z144.eq x).trans (V.cfl (by kernel_rfl) h))
noncomputable abbrev Z79.con : V.Con := ⟨V.A2, V.eHead, fun (x : V.D2) => Z79 (V.p2_0 x), [], [(true, 16)], [(true, 16)], [false, false, false, false, false, false, false, false, true, false, true, false, false, true, false, false], []⟩
noncomputable abbrev Z79.E : V.Env := V.mkE V.tys [(236, Z144.con)] [] [] [] [] []
noncomputable abbrev Z79.kt (x0 : THead) : V.Kt THead := V.ktOf Z79.E Z79.con Tryz.f186 (V.fl2 x0)
noncomputable abbrev Z79.s (x0 : THead) : V.St := ⟨[(0, .v true (V.lsHead x0))], []⟩
theorem Z79.v0 (x0 : THead) : V.evBody Z79.E Z79.con Tryz.f186 (V.fl2 x0) = V.evC Z79.E Tryz.f186.ntmps (V.codeOf Tryz.f186) (Z79.kt x0) (Z79.s x0) := by kernel_rfl
theorem Z79.v (x0 : THead) : V.evC Z79.E Tryz.f186.ntmps (V.codeOf Tryz.f186) (Z79.kt x0) (Z79.s x0) = Z79 x0 := by kernel_rfl
theorem Z79.eq (x0 : THead) : V.evBody Z79.E Z79.con Tryz.f186 (V.fl2 x0) = Z79 x0 := (Z79.v0 x0).trans (Z79.v x0)
theorem Z79.ok : V.Valid Tryz.prog 186 Z79.con :=
  V.fo (V.tab_cons Z144.ok V.tab_nil) Tryz.func186 (by kernel_rfl) (fun x y h => (show V.evBody Z79.E Z79.con Tryz.f186 x = _ from Z79.eq (V.p2_0 x)).trans (V.cfl (by kernel_rfl) h))
noncomputable abbrev Z114.con : V.Con := ⟨(.cons (.sl V.eSigned) .nil), V.eRHeadBool, fun (x : List TSigned) => Z114 x, [], [(false, 1)], [(true, 16), (false, 1)], [false, false, false, false, false, false, false, false, true, false, true, false, false, true, false, false, false], []⟩
noncomputable abbrev Z114.E : V.Env := V.mkE V.tys [(38, Z180.con), (186, Z79.con)] [] [] [] [] []
theorem Z114.eq (x0 : List TSigned) : V.evBody Z114.E Z114.con Tryz.f137 ((x0) : List TSigned) = Z114 x0 := by kernel_rfl
theorem Z114.ok : V.Valid Tryz.prog 137 Z114.con :=
  V.fo (V.tab_cons Z180.ok (V.tab_cons Z79.ok V.tab_nil)) Tryz.func137 (by kernel_rfl) (fun x y h => (show V.evBody Z114.E Z114.con Tryz.f137 x = _ from Z114.eq x).trans (V.cfl (by kernel_rfl) h))
noncomputable abbrev Z88.con : V.Con := ⟨V.A2, V.eRHeadBool, fun (x : V.D2) => Z88 (V.p2_0 x), [], [(true, 16)], [(true, 16), (false, 1)], [false, false, false, false, false, false, false, false, false, false, false, false, false, false, false, false, false], []⟩
noncomputable abbrev Z88.E : V.Env := V.mkE V.tys [(312, Z2.con)] [] [] [] [] []
noncomputable abbrev Z88.kt (x0 : THead) : V.Kt TRHeadBool := V.ktOf Z88.E Z88.con Tryz.f235 (V.fl2 x0)
noncomputable abbrev Z88.s (x0 : THead) : V.St := ⟨[(0, .v true (V.lsHead x0))], []⟩
theorem Z88.v0 (x0 : THead) : V.evBody Z88.E Z88.con Tryz.f235 (V.fl2 x0) = V.evC Z88.E Tryz.f235.ntmps (V.codeOf Tryz.f235) (Z88.kt x0) (Z88.s x0) := by kernel_rfl
theorem Z88.v (x0 : THead) : V.evC Z88.E Tryz.f235.ntmps (V.codeOf Tryz.f235) (Z88.kt x0) (Z88.s x0) = Z88 x0 := by kernel_rfl
theorem Z88.eq (x0 : THead) : V.evBody Z88.E Z88.con Tryz.f235 (V.fl2 x0) = Z88 x0 := (Z88.v0 x0).trans (Z88.v x0)
theorem Z88.ok : V.Valid Tryz.prog 235 Z88.con :=
  V.fo (V.tab_cons Z2.ok V.tab_nil) Tryz.func235 (by kernel_rfl) (fun x y h => (show V.evBody Z88.E Z88.con Tryz.f235 x = _ from Z88.eq (V.p2_0 x)).trans (V.cfl (by kernel_rfl) h))
noncomputable abbrev Z31.con : V.Con := ⟨V.A6, V.eRHeadBool, fun (x : V.D6) => Z31 (V.p6_0 x) (V.p6_1 x) (V.p6_2 x) (V.p6_3 x), [], [(true, 16), (false, 1), (false, 1), (false, 1)], [(true, 16), (false, 1)], [false, false, false, false, false, false, false, false, false, false, false, false, false, false, false, false, false], []⟩
noncomputable abbrev Z31.E : V.Env := V.mkE V.tys [(179, Z74.con), (186, Z79.con), (216, Z86.con), (235, Z88.con), (312, Z2.con)] [(5, [1, 2, 3, 4, 8, 25], [])] [] [] [] []
noncomputable abbrev Z31.kt (x0 : THead) (x1 : Int) (x2 : Int) (x3 : Int) : V.Kt TRHeadBool := V.ktOf Z31.E Z31.con Tryz.f232 (V.fl6 x0 x1 x2 x3)
noncomputable abbrev Z31.s5 (x0 : THead) (x1 : Int) (x2 : Int) (x3 : Int) (v5_3 : Bool) : V.St := ⟨[(1, .v false [.val (.int .i64 x1)]), (2, .v false [.val (.int .i64 x2)]), (3, .v false [.val (.int .i64 x3)]), (4, .v false [.ptr 64000 0]), (8, .v false [.ptr 64064 0]), (25, .v false [.val (.bool v5_3)])], [(64000, .box (V.lsHead x0)), (64064, .box [.val (.int .i64 (0 : Int)), .val (.int .i64 (0 : Int)), .val (.int .i64 (0 : Int)), .val (.int .i64 (0 : Int)), .val (.int .i64 (0 : Int)), .val (.int .i64 (0 : Int)), .val (.int .i64 (0 : Int)), .val (.int .i64 (0 : Int)), .nil0, .val (.int .i64 (0 : Int)), .nil0, .val (.int .i64 (0 : Int)), .val (.int .i64 (0 : Int)), .nil0, .val (.int .i64 (0 : Int)), .val (.bool false)])]⟩
theorem Z31.r5 (x0 : THead) (x1 : Int) (x2 : Int) (x3 : Int) (v5_3 : Bool) : V.joinF Z31.E Tryz.f232.ntmps [1, 0] [] (V.codeOf Tryz.f232) (Z31.kt x0 x1 x2 x3) (Z31.s5 x0 x1 x2 x3 v5_3) = Z31.g5 x0 x1 x2 x3 v5_3 := by kernel_rfl
theorem Z31.e5 (x0 : THead) (x1 : Int) (x2 : Int) (x3 : Int) (v5_3 : Bool) : V.jn (V.joinF Z31.E Tryz.f232.ntmps [1, 0] [] (V.codeOf Tryz.f232) (Z31.kt x0 x1 x2 x3)) (Z31.s5 x0 x1 x2 x3 v5_3) = Z31.l5 x0 x1 x2 x3 v5_3 := by
  rw [V.jn_eq, Z31.r5]
  rfl
noncomputable abbrev Z31.s (x0 : THead) (x1 : Int) (x2 : Int) (x3 : Int) : V.St := ⟨[(0, .v true (V.lsHead x0)), (1, .v false [.val (.int .i64 x1)]), (2, .v false [.val (.int .i64 x2)]), (3, .v false [.val (.int .i64 x3)])], []⟩
theorem Z31.v0 (x0 : THead) (x1 : Int) (x2 : Int) (x3 : Int) : V.evBody Z31.E Z31.con Tryz.f232 (V.fl6 x0 x1 x2 x3) = V.evC Z31.E Tryz.f232.ntmps (V.codeOf Tryz.f232) (Z31.kt x0 x1 x2 x3) (Z31.s x0 x1 x2 x3) := by kernel_rfl
theorem Z31.v (x0 : THead) (x1 : Int) (x2 : Int) (x3 : Int) : V.evC Z31.E Tryz.f232.ntmps (V.codeOf Tryz.f232) (Z31.kt x0 x1 x2 x3) (Z31.s x0 x1 x2 x3) = Z31.b x0 x1 x2 x3 (fun v5_3 => V.jn (V.joinF Z31.E Tryz.f232.ntmps [1, 0] [] (V.codeOf Tryz.f232) (Z31.kt x0 x1 x2 x3)) (Z31.s5 x0 x1 x2 x3 v5_3)) := by kernel_rfl
theorem Z31.eq (x0 : THead) (x1 : Int) (x2 : Int) (x3 : Int) : V.evBody Z31.E Z31.con Tryz.f232 (V.fl6 x0 x1 x2 x3) = Z31 x0 x1 x2 x3 := by
  rw [Z31.v0, Z31.v]
  simp only [Z31.e5]
  rfl
theorem Z31.ok : V.Valid Tryz.prog 232 Z31.con :=
  V.fo (V.tab_cons Z74.ok (V.tab_cons Z79.ok (V.tab_cons Z86.ok (V.tab_cons Z88.ok (V.tab_cons Z2.ok V.tab_nil))))) Tryz.func232 (by kernel_rfl) (fun x y h => (show V.evBody Z31.E Z31.con Tryz.f232 x = _ from Z31.eq (V.p6_0 x) (V.p6_1 x) (V.p6_2 x) (V.p6_3 x)).trans (V.cfl (by kernel_rfl) h))
noncomputable abbrev Z6.con : V.Con := ⟨(.cons .str .nil), (.cons .bool .nil), fun (x : ByteArray) => Z6 x, [], [(false, 1)], [(false, 1)], [false], []⟩
noncomputable abbrev Z6.E : V.Env := V.mkE V.tys [(179, Z74.con)] [(7, [0], []), (8, [0, 3], [])] [] [] [] []
noncomputable abbrev Z6.kt (x0 : ByteArray) : V.Kt Bool := V.ktOf Z6.E Z6.con Tryz.f136 ((x0) : ByteArray)
noncomputable abbrev Z6.s8 (x0 : ByteArray) (v8_1 : Int) : V.St := ⟨[(0, .v false [.val (.str x0)]), (3, .v false [.val (.int .i64 v8_1)])], []⟩
noncomputable abbrev Z6.s7 (x0 : ByteArray) : V.St := ⟨[(0, .v false [.val (.str x0)])], []⟩
theorem Z6.r8 (x0 : ByteArray) (R : V.St → Option Bool) (v8_1 : Int) : V.loopF Z6.E Tryz.f136.ntmps [1, 1, 0, 1, 0] [] (V.codeOf Tryz.f136) (Z6.kt x0) R (Z6.s8 x0 v8_1) = Z6.g8 x0 (fun v8_1 => R (Z6.s8 x0 v8_1)) v8_1 := by kernel_rfl
theorem Z6.e8 (x0 : ByteArray) : ∀ (n : Nat) (v8_1 : Int), V.loopN (V.loopF Z6.E Tryz.f136.ntmps [1, 1, 0, 1, 0] [] (V.codeOf Tryz.f136) (Z6.kt x0)) n (Z6.s8 x0 v8_1) = Z6.l8 x0 n v8_1 := by
  intro n
  induction n with
  | zero => intros; rw [V.loopN_z]; rfl
  | succ n ih =>
    intro v8_1
    rw [V.loopN_s, Z6.r8]
    simp only [ih]
    first | exact (Z6.u8 ..).symm | rfl
theorem Z6.r7 (x0 : ByteArray) : V.joinF Z6.E Tryz.f136.ntmps [1] [] (V.codeOf Tryz.f136) (Z6.kt x0) (Z6.s7 x0) = Z6.g7 x0 (fun v8_1 => V.loopN (V.loopF Z6.E Tryz.f136.ntmps [1, 1, 0, 1, 0] [] (V.codeOf Tryz.f136) (Z6.kt x0)) V.KK (Z6.s8 x0 v8_1)) := by kernel_rfl
theorem Z6.e7 (x0 : ByteArray) : V.jn (V.joinF Z6.E Tryz.f136.ntmps [1] [] (V.codeOf Tryz.f136) (Z6.kt x0)) (Z6.s7 x0) = Z6.l7 x0 := by
  rw [V.jn_eq, Z6.r7]
  simp only [Z6.e8]
  rfl
theorem Z6.v (x0 : ByteArray) : V.evBody Z6.E Z6.con Tryz.f136 ((x0) : ByteArray) = Z6.b x0 (V.jn (V.joinF Z6.E Tryz.f136.ntmps [1] [] (V.codeOf Tryz.f136) (Z6.kt x0)) (Z6.s7 x0)) := by kernel_rfl
theorem Z6.eq (x0 : ByteArray) : V.evBody Z6.E Z6.con Tryz.f136 ((x0) : ByteArray) = Z6 x0 := by
  rw [Z6.v]
  simp only [Z6.e7]
  rfl
theorem Z6.ok : V.Valid Tryz.prog 136 Z6.con :=
  V.fo (V.tab_cons Z74.ok V.tab_nil) Tryz.func136 (by kernel_rfl) (fun x y h => (show V.evBody Z6.E Z6.con Tryz.f136 x = _ from Z6.eq x).trans (V.cfl (by kernel_rfl) h))
noncomputable abbrev Z44.con : V.Con := ⟨(.cons (.sl (.cons .str .nil)) .nil), (.cons .bool .nil), fun (x : List ByteArray) => Z44 x, [], [(false, 1)], [(false, 1)], [false], []⟩
noncomputable abbrev Z44.E : V.Env := V.mkE V.tys [(136, Z6.con), (179, Z74.con)] [(4, [0, 3], [])] [] [] [] []
noncomputable abbrev Z44.kt (x0 : List ByteArray) : V.Kt Bool := V.ktOf Z44.E Z44.con Tryz.f410 ((x0) : List ByteArray)
noncomputable abbrev Z44.s4 (x0 : List ByteArray) (v4_1 : Int) : V.St := ⟨[(0, .v false [.val (.sl (.cons .str .nil) x0)]), (3, .v false [.val (.int .i64 v4_1)])], []⟩
theorem Z44.r4 (x0 : List ByteArray) (R : V.St → Option Bool) (v4_1 : Int) : V.loopF Z44.E Tryz.f410.ntmps [1, 0, 1, 0] [] (V.codeOf Tryz.f410) (Z44.kt x0) R (Z44.s4 x0 v4_1) = Z44.g4 x0 (fun v4_1 => R (Z44.s4 x0 v4_1)) v4_1 := by kernel_rfl
theorem Z44.e4 (x0 : List ByteArray) : ∀ (n : Nat) (v4_1 : Int), V.loopN (V.loopF Z44.E Tryz.f410.ntmps [1, 0, 1, 0] [] (V.codeOf Tryz.f410) (Z44.kt x0)) n (Z44.s4 x0 v4_1) = Z44.l4 x0 n v4_1 := by
  intro n
  induction n with
  | zero => intros; rw [V.loopN_z]; rfl
  | succ n ih =>
    intro v4_1
    rw [V.loopN_s, Z44.r4]
    simp only [ih]
    first | exact (Z44.u4 ..).symm | rfl
theorem Z44.v (x0 : List ByteArray) : V.evBody Z44.E Z44.con Tryz.f410 ((x0) : List ByteArray) = Z44.b x0 (fun v4_1 => V.loopN (V.loopF Z44.E Tryz.f410.ntmps [1, 0, 1, 0] [] (V.codeOf Tryz.f410) (Z44.kt x0)) V.KK (Z44.s4 x0 v4_1)) := by kernel_rfl
theorem Z44.eq (x0 : List ByteArray) : V.evBody Z44.E Z44.con Tryz.f410 ((x0) : List ByteArray) = Z44 x0 := by
  rw [Z44.v]
  simp only [Z44.e4]
  rfl
theorem Z44.ok : V.Valid Tryz.prog 410 Z44.con :=
  V.fo (V.tab_cons Z6.ok (V.tab_cons Z74.ok V.tab_nil)) Tryz.func410 (by kernel_rfl) (fun x y h => (show V.evBody Z44.E Z44.con Tryz.f410 x = _ from Z44.eq x).trans (V.cfl (by kernel_rfl) h))
noncomputable abbrev Z181.con : V.Con := ⟨V.eEntry, (.cons .bool .nil), fun (x : ByteArray × Int × Int × List ByteArray) => Z181 x, [], [(true, 4)], [(false, 1)], [false], []⟩
noncomputable abbrev Z181.E : V.Env := V.mkE V.tys [(136, Z6.con), (179, Z74.con), (410, Z44.con)] [] [] [] [] []
theorem Z181.eq (x0 : TEntry) : V.evBody Z181.E Z181.con Tryz.f348 ((x0.1, x0.2.1, x0.2.2.1, x0.2.2.2) : ByteArray × Int × Int × List ByteArray) = Z181 x0 := by kernel_rfl
theorem Z181.ok : V.Valid Tryz.prog 348 Z181.con :=
  V.fo (V.tab_cons Z6.ok (V.tab_cons Z74.ok (V.tab_cons Z44.ok V.tab_nil))) Tryz.func348 (by kernel_rfl) (fun x y h => (show V.evBody Z181.E Z181.con Tryz.f348 x = _ from Z181.eq x).trans (V.cfl (by kernel_rfl) h))
noncomputable abbrev Z179.con : V.Con := ⟨(.cons .str (.cons .str .nil)), (.cons (.int .i64) .nil), fun (x : ByteArray × ByteArray) => Z179 x.1 x.2, [], [(false, 1), (false, 1)], [(false, 1)], [false], []⟩
noncomputable abbrev Z179.E : V.Env := V.mkE V.tys [] [] [] [] [] []
theorem Z179.eq (x0 : ByteArray) (x1 : ByteArray) : V.evBody Z179.E Z179.con Tryz.f349 ((x0, x1) : ByteArray × ByteArray) = Z179 x0 x1 := by kernel_rfl
theorem Z179.ok : V.Valid Tryz.prog 349 Z179.con :=
  V.fo V.tab_nil Tryz.func349 (by kernel_rfl) (fun x y h => (show V.evBody Z179.E Z179.con Tryz.f349 x = _ from Z179.eq x.1 x.2).trans (V.cfl (by kernel_rfl) h))
noncomputable abbrev Z22.con : V.Con := ⟨(.cons (.sl V.eEntry) .nil), (.cons .bool .nil), fun (x : List TEntry) => Z22 x, [], [(false, 1)], [(false, 1)], [false], []⟩
noncomputable abbrev Z22.E : V.Env := V.mkE V.tys [(348, Z181.con), (349, Z179.con)] [(4, [0, 3], [])] [(4, 21)] [] [] []
noncomputable abbrev Z22.kt (x0 : List TEntry) : V.Kt Bool := V.ktOf Z22.E Z22.con Tryz.f233 ((x0) : List TEntry)
noncomputable abbrev Z22.s4 (x0 : List TEntry) (v4_1 : Int) : V.St := ⟨[(0, .v false [.val (.sl V.eEntry x0)]), (3, .v false [.val (.int .i64 v4_1)])], []⟩
theorem Z22.r4 (x0 : List TEntry) (R : V.St → Option Bool) (v4_1 : Int) : V.loopF Z22.E Tryz.f233.ntmps [1, 0, 1, 0] [] (V.codeOf Tryz.f233) (Z22.kt x0) R (Z22.s4 x0 v4_1) = Z22.g4 x0 (fun v4_1 => R (Z22.s4 x0 v4_1)) v4_1 := by kernel_rfl
theorem Z22.e4 (x0 : List TEntry) : ∀ (n : Nat) (v4_1 : Int), V.loopN (V.loopF Z22.E Tryz.f233.ntmps [1, 0, 1, 0] [] (V.codeOf Tryz.f233) (Z22.kt x0)) n (Z22.s4 x0 v4_1) = Z22.l4 x0 n v4_1 := by
  intro n
  induction n with
  | zero => intros; rw [V.loopN_z]; rfl
  | succ n ih =>
    intro v4_1
    rw [V.loopN_s, Z22.r4]
    simp only [ih]
    first | exact (Z22.u4 ..).symm | rfl
theorem Z22.v (x0 : List TEntry) : V.evBody Z22.E Z22.con Tryz.f233 ((x0) : List TEntry) = Z22.b x0 (fun v4_1 => V.loopN (V.loopF Z22.E Tryz.f233.ntmps [1, 0, 1, 0] [] (V.codeOf Tryz.f233) (Z22.kt x0)) V.KK (Z22.s4 x0 v4_1)) := by kernel_rfl
theorem Z22.eq (x0 : List TEntry) : V.evBody Z22.E Z22.con Tryz.f233 ((x0) : List TEntry) = Z22 x0 := by
  rw [Z22.v]
  simp only [Z22.e4]
  rfl
theorem Z22.ok : V.Valid Tryz.prog 233 Z22.con :=
  V.fo (V.tab_cons Z181.ok (V.tab_cons Z179.ok V.tab_nil)) Tryz.func233 (by kernel_rfl) (fun x y h => (show V.evBody Z22.E Z22.con Tryz.f233 x = _ from Z22.eq x).trans (V.cfl (by kernel_rfl) h))
noncomputable abbrev Z71.con : V.Con := ⟨(.cons (.sl (.cons (.int .u8) .nil)) .nil), (.cons (.sl (.cons (.int .i64) .nil)) .nil), fun (x : List Int) => Z71 x, [], [(false, 1)], [(false, 1)], [true], []⟩
noncomputable abbrev Z71.E : V.Env := V.mkE V.tys [] [(6, [0, 3, 4], [])] [] [] [] []
noncomputable abbrev Z71.kt (x0 : List Int) : V.Kt (List Int) := V.ktOf Z71.E Z71.con Tryz.f459 ((x0) : List Int)
noncomputable abbrev Z71.s6 (x0 : List Int) (v6_1 : Int) (v6_2 : List Int) : V.St := ⟨[(0, .v false [.val (.sl (.cons (.int .u8) .nil) x0)]), (3, .v false [.ref 64000038400192]), (4, .v false [.val (.int .i64 v6_1)])], [(64000038400192, .row (.cons (.int .i64) .nil) true v6_2)]⟩
theorem Z71.r6 (x0 : List Int) (R : V.St → Option (List Int)) (v6_1 : Int) (v6_2 : List Int) : V.loopF Z71.E Tryz.f459.ntmps [1, 1, 0, 1, 0] [] (V.codeOf Tryz.f459) (Z71.kt x0) R (Z71.s6 x0 v6_1 v6_2) = Z71.g6 x0 (fun v6_1 v6_2 => R (Z71.s6 x0 v6_1 v6_2)) v6_1 v6_2 := by kernel_rfl
theorem Z71.e6 (x0 : List Int) : ∀ (n : Nat) (v6_1 : Int) (v6_2 : List Int), V.loopN (V.loopF Z71.E Tryz.f459.ntmps [1, 1, 0, 1, 0] [] (V.codeOf Tryz.f459) (Z71.kt x0)) n (Z71.s6 x0 v6_1 v6_2) = Z71.l6 x0 n v6_1 v6_2 := by
  intro n
  induction n with
  | zero => intros; rw [V.loopN_z]; rfl
  | succ n ih =>
    intro v6_1 v6_2
    rw [V.loopN_s, Z71.r6]
    simp only [ih]
    first | exact (Z71.u6 ..).symm | rfl
theorem Z71.v (x0 : List Int) : V.evBody Z71.E Z71.con Tryz.f459 ((x0) : List Int) = Z71.b x0 (fun v6_1 v6_2 => V.loopN (V.loopF Z71.E Tryz.f459.ntmps [1, 1, 0, 1, 0] [] (V.codeOf Tryz.f459) (Z71.kt x0)) V.KK (Z71.s6 x0 v6_1 v6_2)) := by kernel_rfl
theorem Z71.eq (x0 : List Int) : V.evBody Z71.E Z71.con Tryz.f459 ((x0) : List Int) = Z71 x0 := by
  rw [Z71.v]
  simp only [Z71.e6]
  rfl
theorem Z71.ok : V.Valid Tryz.prog 459 Z71.con :=
  V.fo V.tab_nil Tryz.func459 (by kernel_rfl) (fun x y h => (show V.evBody Z71.E Z71.con Tryz.f459 x = _ from Z71.eq x).trans (V.cfl (by kernel_rfl) h))
noncomputable abbrev Z143.con : V.Con := ⟨(.cons .str .nil), (.cons (.sl (.cons (.int .i64) .nil)) .nil), fun (x : ByteArray) => Z143 x, [], [(false, 1)], [(false, 1)], [true], []⟩
noncomputable abbrev Z143.E : V.Env := V.mkE V.tys [(459, Z71.con)] [] [] [] [] []
theorem Z143.eq (x0 : ByteArray) : V.evBody Z143.E Z143.con Tryz.f456 ((x0) : ByteArray) = Z143 x0 := by kernel_rfl
theorem Z143.ok : V.Valid Tryz.prog 456 Z143.con :=
  V.fo (V.tab_cons Z71.ok V.tab_nil) Tryz.func456 (by kernel_rfl) (fun x y h => (show V.evBody Z143.E Z143.con Tryz.f456 x = _ from Z143.eq x).trans (V.cfl (by kernel_rfl) h))
noncomputable abbrev Z72.con : V.Con := ⟨V.eEntry, (.cons (.sl (.cons (.int .i64) .nil)) .nil), fun (x : ByteArray × Int × Int × List ByteArray) => Z72 x, [], [(true, 4)], [(false, 1)], [true], []⟩
noncomputable abbrev Z72.E : V.Env := V.mkE V.tys [(456, Z143.con)] [(6, [1, 3, 4], [])] [(1, 11)] [] [] []
noncomputable abbrev Z72.kt (x0 : TEntry) : V.Kt (List Int) := V.ktOf Z72.E Z72.con Tryz.f444 ((x0.1, x0.2.1, x0.2.2.1, x0.2.2.2) : ByteArray × Int × Int × List ByteArray)
noncomputable abbrev Z72.s6 (x0 : TEntry) (v6_0 : Int) (v6_5 : List Int) : V.St := ⟨[(1, .v false [.ptr 64000 0]), (3, .v false [.ref 64000038400192]), (4, .v false [.val (.int .i64 v6_0)])], [(64000, .box [.val (.str x0.1), .val (.int .i64 x0.2.1), .val (.int .i64 x0.2.2.1), .val (.sl (.cons .str .nil) x0.2.2.2)]), (64000038400192, .row (.cons (.int .i64) .nil) true v6_5)]⟩
theorem Z72.r6 (x0 : TEntry) (R : V.St → Option (List Int)) (v6_0 : Int) (v6_5 : List Int) : V.loopF Z72.E Tryz.f444.ntmps [1, 1, 0, 1, 0] [] (V.codeOf Tryz.f444) (Z72.kt x0) R (Z72.s6 x0 v6_0 v6_5) = Z72.g6 x0 (fun v6_0 v6_5 => R (Z72.s6 x0 v6_0 v6_5)) v6_0 v6_5 := by kernel_rfl
theorem Z72.e6 (x0 : TEntry) : ∀ (n : Nat) (v6_0 : Int) (v6_5 : List Int), V.loopN (V.loopF Z72.E Tryz.f444.ntmps [1, 1, 0, 1, 0] [] (V.codeOf Tryz.f444) (Z72.kt x0)) n (Z72.s6 x0 v6_0 v6_5) = Z72.l6 x0 n v6_0 v6_5 := by
  intro n
  induction n with
  | zero => intros; rw [V.loopN_z]; rfl
  | succ n ih =>
    intro v6_0 v6_5
    rw [V.loopN_s, Z72.r6]
    simp only [ih]
    first | exact (Z72.u6 ..).symm | rfl
theorem Z72.v (x0 : TEntry) : V.evBody Z72.E Z72.con Tryz.f444 ((x0.1, x0.2.1, x0.2.2.1, x0.2.2.2) : ByteArray × Int × Int × List ByteArray) = Z72.b x0 (fun v6_0 v6_5 => V.loopN (V.loopF Z72.E Tryz.f444.ntmps [1, 1, 0, 1, 0] [] (V.codeOf Tryz.f444) (Z72.kt x0)) V.KK (Z72.s6 x0 v6_0 v6_5)) := by kernel_rfl
theorem Z72.eq (x0 : TEntry) : V.evBody Z72.E Z72.con Tryz.f444 ((x0.1, x0.2.1, x0.2.2.1, x0.2.2.2) : ByteArray × Int × Int × List ByteArray) = Z72 x0 := by
  rw [Z72.v]
  simp only [Z72.e6]
  rfl
theorem Z72.ok : V.Valid Tryz.prog 444 Z72.con :=
  V.fo (V.tab_cons Z143.ok V.tab_nil) Tryz.func444 (by kernel_rfl) (fun x y h => (show V.evBody Z72.E Z72.con Tryz.f444 x = _ from Z72.eq x).trans (V.cfl (by kernel_rfl) h))
noncomputable abbrev Z154.con : V.Con := ⟨V.eEntry, (.cons (.int .i64) .nil), fun (x : ByteArray × Int × Int × List ByteArray) => Z154 x, [], [(true, 4)], [(false, 1)], [false], []⟩
noncomputable abbrev Z154.E : V.Env := V.mkE V.tys [(337, Z9.con), (444, Z72.con)] [] [] [] [] []
theorem Z154.eq (x0 : TEntry) : V.evBody Z154.E Z154.con Tryz.f412 ((x0.1, x0.2.1, x0.2.2.1, x0.2.2.2) : ByteArray × Int × Int × List ByteArray) = Z154 x0 := by kernel_rfl
theorem Z154.ok : V.Valid Tryz.prog 412 Z154.con :=
  V.fo (V.tab_cons Z9.ok (V.tab_cons Z72.ok V.tab_nil)) Tryz.func412 (by kernel_rfl) (fun x y h => (show V.evBody Z154.E Z154.con Tryz.f412 x = _ from Z154.eq x).trans (V.cfl (by kernel_rfl) h))
noncomputable abbrev Z73.con : V.Con := ⟨(.cons (.sl V.eEntry) .nil), (.cons (.sl (.cons (.int .i64) .nil)) .nil), fun (x : List TEntry) => Z73 x, [], [(false, 1)], [(false, 1)], [true], []⟩
noncomputable abbrev Z73.E : V.Env := V.mkE V.tys [(412, Z154.con)] [(6, [0, 3, 4], [(64000038400192, (.cons (.int .i64) .nil), true)])] [] [] [] []
noncomputable abbrev Z73.kt (x0 : List TEntry) : V.Kt (List Int) := V.ktOf Z73.E Z73.con Tryz.f352 ((x0) : List TEntry)
noncomputable abbrev Z73.s6 (x0 : List TEntry) (v6_1 : Int) (v6_2 : List Int) : V.St := ⟨[(0, .v false [.val (.sl V.eEntry x0)]), (3, .v false [.ref 64000038400192]), (4, .v false [.val (.int .i64 v6_1)])], [(64000038400192, .row (.cons (.int .i64) .nil) true v6_2)]⟩
theorem Z73.r6 (x0 : List TEntry) (R : V.St → Option (List Int)) (v6_1 : Int) (v6_2 : List Int) : V.loopF Z73.E Tryz.f352.ntmps [1, 1, 0, 1, 0] [] (V.codeOf Tryz.f352) (Z73.kt x0) R (Z73.s6 x0 v6_1 v6_2) = Z73.g6 x0 (fun v6_1 v6_2 => R (Z73.s6 x0 v6_1 v6_2)) v6_1 v6_2 := by kernel_rfl
theorem Z73.e6 (x0 : List TEntry) : ∀ (n : Nat) (v6_1 : Int) (v6_2 : List Int), V.loopN (V.loopF Z73.E Tryz.f352.ntmps [1, 1, 0, 1, 0] [] (V.codeOf Tryz.f352) (Z73.kt x0)) n (Z73.s6 x0 v6_1 v6_2) = Z73.l6 x0 n v6_1 v6_2 := by
  intro n
  induction n with
  | zero => intros; rw [V.loopN_z]; rfl
  | succ n ih =>
    intro v6_1 v6_2
    rw [V.loopN_s, Z73.r6]
    simp only [ih]
    first | exact (Z73.u6 ..).symm | rfl
theorem Z73.v (x0 : List TEntry) : V.evBody Z73.E Z73.con Tryz.f352 ((x0) : List TEntry) = Z73.b x0 (fun v6_1 v6_2 => V.loopN (V.loopF Z73.E Tryz.f352.ntmps [1, 1, 0, 1, 0] [] (V.codeOf Tryz.f352) (Z73.kt x0)) V.KK (Z73.s6 x0 v6_1 v6_2)) := by kernel_rfl
theorem Z73.eq (x0 : List TEntry) : V.evBody Z73.E Z73.con Tryz.f352 ((x0) : List TEntry) = Z73 x0 := by
  rw [Z73.v]
  simp only [Z73.e6]
  rfl
theorem Z73.ok : V.Valid Tryz.prog 352 Z73.con :=
  V.fo (V.tab_cons Z154.ok V.tab_nil) Tryz.func352 (by kernel_rfl) (fun x y h => (show V.evBody Z73.E Z73.con Tryz.f352 x = _ from Z73.eq x).trans (V.cfl (by kernel_rfl) h))
noncomputable abbrev Z185.con : V.Con := ⟨(.cons (.int .i64) (.cons (.int .i64) .nil)), (.cons (.int .i64) .nil), fun (x : Int × Int) => Z185 x.1 x.2, [], [(false, 1), (false, 1)], [(false, 1)], [false], []⟩
noncomputable abbrev Z185.E : V.Env := V.mkE V.tys [(337, Z9.con)] [] [] [] [] []
theorem Z185.eq (x0 : Int) (x1 : Int) : V.evBody Z185.E Z185.con Tryz.f443 ((x0, x1) : Int × Int) = Z185 x0 x1 := by kernel_rfl
theorem Z185.ok : V.Valid Tryz.prog 443 Z185.con :=
  V.fo (V.tab_cons Z9.ok V.tab_nil) Tryz.func443 (by kernel_rfl) (fun x y h => (show V.evBody Z185.E Z185.con Tryz.f443 x = _ from Z185.eq x.1 x.2).trans (V.cfl (by kernel_rfl) h))
noncomputable abbrev Z57.con : V.Con := ⟨(.cons (.sl (.cons (.int .i64) .nil)) .nil), (.cons (.sl (.cons (.int .i64) .nil)) .nil), fun (x : List Int) => Z57 x, [], [(false, 1)], [(false, 1)], [true], []⟩
noncomputable abbrev Z57.E : V.Env := V.mkE V.tys [(443, Z185.con)] [(6, [0, 3, 4], [(64000038400192, (.cons (.int .i64) .nil), true)])] [(6, 12)] [] [] []
noncomputable abbrev Z57.kt (x0 : List Int) : V.Kt (List Int) := V.ktOf Z57.E Z57.con Tryz.f411 ((x0) : List Int)
noncomputable abbrev Z57.s6 (x0 : List Int) (v6_1 : Int) (v6_2 : List Int) : V.St := ⟨[(0, .v false [.val (.sl (.cons (.int .i64) .nil) x0)]), (3, .v false [.ref 64000038400192]), (4, .v false [.val (.int .i64 v6_1)])], [(64000038400192, .row (.cons (.int .i64) .nil) true v6_2)]⟩
theorem Z57.r6 (x0 : List Int) (R : V.St → Option (List Int)) (v6_1 : Int) (v6_2 : List Int) : V.loopF Z57.E Tryz.f411.ntmps [1, 1, 0, 1, 0] [] (V.codeOf Tryz.f411) (Z57.kt x0) R (Z57.s6 x0 v6_1 v6_2) = Z57.g6 x0 (fun v6_1 v6_2 => R (Z57.s6 x0 v6_1 v6_2)) v6_1 v6_2 := by kernel_rfl
theorem Z57.e6 (x0 : List Int) : ∀ (n : Nat) (v6_1 : Int) (v6_2 : List Int), V.loopN (V.loopF Z57.E Tryz.f411.ntmps [1, 1, 0, 1, 0] [] (V.codeOf Tryz.f411) (Z57.kt x0)) n (Z57.s6 x0 v6_1 v6_2) = Z57.l6 x0 n v6_1 v6_2 := by
  intro n
  induction n with
  | zero => intros; rw [V.loopN_z]; rfl
  | succ n ih =>
    intro v6_1 v6_2
    rw [V.loopN_s, Z57.r6]
    simp only [ih]
    first | exact (Z57.u6 ..).symm | rfl
theorem Z57.v (x0 : List Int) : V.evBody Z57.E Z57.con Tryz.f411 ((x0) : List Int) = Z57.b x0 (fun v6_1 v6_2 => V.loopN (V.loopF Z57.E Tryz.f411.ntmps [1, 1, 0, 1, 0] [] (V.codeOf Tryz.f411) (Z57.kt x0)) V.KK (Z57.s6 x0 v6_1 v6_2)) := by kernel_rfl
theorem Z57.eq (x0 : List Int) : V.evBody Z57.E Z57.con Tryz.f411 ((x0) : List Int) = Z57 x0 := by
  rw [Z57.v]
  simp only [Z57.e6]
  rfl
theorem Z57.ok : V.Valid Tryz.prog 411 Z57.con :=
  V.fo (V.tab_cons Z185.ok V.tab_nil) Tryz.func411 (by kernel_rfl) (fun x y h => (show V.evBody Z57.E Z57.con Tryz.f411 x = _ from Z57.eq x).trans (V.cfl (by kernel_rfl) h))
noncomputable abbrev Z56.con : V.Con := ⟨(.cons (.sl (.cons (.int .i64) .nil)) .nil), (.cons (.int .i64) .nil), fun (x : List Int) => Z56 x, [], [(false, 1)], [(false, 1)], [false], []⟩
noncomputable abbrev Z56.E : V.Env := V.mkE V.tys [(337, Z9.con), (411, Z57.con)] [(8, [3], [(3, (.cons (.int .i64) .nil), false)])] [] [] [] []
noncomputable abbrev Z56.kt (x0 : List Int) : V.Kt Int := V.ktOf Z56.E Z56.con Tryz.f351 ((x0) : List Int)
noncomputable abbrev Z56.s8 (v8_0 : List Int) : V.St := ⟨[(3, .v false [.val (.sl (.cons (.int .i64) .nil) v8_0)])], []⟩
theorem Z56.r8 (x0 : List Int) (R : V.St → Option Int) (v8_0 : List Int) : V.loopF Z56.E Tryz.f351.ntmps [1, 1, 1, 0, 0] [] (V.codeOf Tryz.f351) (Z56.kt x0) R (Z56.s8 v8_0) = Z56.g8 (fun v8_0 => R (Z56.s8 v8_0)) v8_0 := by kernel_rfl
theorem Z56.e8 (x0 : List Int) : ∀ (n : Nat) (v8_0 : List Int), V.loopN (V.loopF Z56.E Tryz.f351.ntmps [1, 1, 1, 0, 0] [] (V.codeOf Tryz.f351) (Z56.kt x0)) n (Z56.s8 v8_0) = Z56.l8 n v8_0 := by
  intro n
  induction n with
  | zero => intros; rw [V.loopN_z]; rfl
  | succ n ih =>
    intro v8_0
    rw [V.loopN_s, Z56.r8]
    simp only [ih]
    first | exact (Z56.u8 ..).symm | rfl
theorem Z56.v (x0 : List Int) : V.evBody Z56.E Z56.con Tryz.f351 ((x0) : List Int) = Z56.b x0 (fun v8_0 => V.loopN (V.loopF Z56.E Tryz.f351.ntmps [1, 1, 1, 0, 0] [] (V.codeOf Tryz.f351) (Z56.kt x0)) V.KK (Z56.s8 v8_0)) := by kernel_rfl
theorem Z56.eq (x0 : List Int) : V.evBody Z56.E Z56.con Tryz.f351 ((x0) : List Int) = Z56 x0 := by
  rw [Z56.v]
  simp only [Z56.e8]
  rfl
theorem Z56.ok : V.Valid Tryz.prog 351 Z56.con :=
  V.fo (V.tab_cons Z9.ok (V.tab_cons Z57.ok V.tab_nil)) Tryz.func351 (by kernel_rfl) (fun x y h => (show V.evBody Z56.E Z56.con Tryz.f351 x = _ from Z56.eq x).trans (V.cfl (by kernel_rfl) h))
noncomputable abbrev Z193.con : V.Con := ⟨(.cons (.int .i64) (.cons (.int .i64) .nil)), (.cons (.int .i64) .nil), fun (x : Int × Int) => Z193 x.1 x.2, [], [(false, 1), (false, 1)], [(false, 1)], [false], []⟩
noncomputable abbrev Z193.E : V.Env := V.mkE V.tys [(337, Z9.con)] [] [] [] [] []
theorem Z193.eq (x0 : Int) (x1 : Int) : V.evBody Z193.E Z193.con Tryz.f350 ((x0, x1) : Int × Int) = Z193 x0 x1 := by kernel_rfl
theorem Z193.ok : V.Valid Tryz.prog 350 Z193.con :=
  V.fo (V.tab_cons Z9.ok V.tab_nil) Tryz.func350 (by kernel_rfl) (fun x y h => (show V.evBody Z193.E Z193.con Tryz.f350 x = _ from Z193.eq x.1 x.2).trans (V.cfl (by kernel_rfl) h))
noncomputable abbrev Z134.con : V.Con := ⟨(.cons (.sl V.eEntry) .nil), (.cons (.int .i64) .nil), fun (x : List TEntry) => Z134 x, [], [(false, 1)], [(false, 1)], [false], []⟩
noncomputable abbrev Z134.E : V.Env := V.mkE V.tys [(350, Z193.con), (351, Z56.con), (352, Z73.con)] [] [] [] [] []
theorem Z134.eq (x0 : List TEntry) : V.evBody Z134.E Z134.con Tryz.f234 ((x0) : List TEntry) = Z134 x0 := by kernel_rfl
theorem Z134.ok : V.Valid Tryz.prog 234 Z134.con :=
  V.fo (V.tab_cons Z193.ok (V.tab_cons Z56.ok (V.tab_cons Z73.ok V.tab_nil))) Tryz.func234 (by kernel_rfl) (fun x y h => (show V.evBody Z134.E Z134.con Tryz.f234 x = _ from Z134.eq x).trans (V.cfl (by kernel_rfl) h))
noncomputable abbrev Z51.con : V.Con := ⟨V.A7, V.eRHeadBool, fun (x : V.D7) => Z51 (V.p7_0 x) (V.p7_1 x) (V.p7_2 x) (V.p7_3 x), [], [(true, 16), (false, 1), (false, 1), (false, 1)], [(true, 16), (false, 1)], [false, false, false, false, false, false, false, false, false, false, false, false, false, false, false, false, false], []⟩
noncomputable abbrev Z51.E : V.Env := V.mkE V.tys [(232, Z31.con), (233, Z22.con), (234, Z134.con), (235, Z88.con)] [(7, [1, 8, 10, 25], [])] [] [] [] []
noncomputable abbrev Z51.kt (x0 : THead) (x1 : List TEntry) (x2 : Int) (x3 : Int) : V.Kt TRHeadBool := V.ktOf Z51.E Z51.con Tryz.f80 (V.fl7 x0 x1 x2 x3)
noncomputable abbrev Z51.s7 (x1 : List TEntry) (y1 : TRHeadBool) (v7_1 : Bool) : V.St := ⟨[(1, .v false [.val (.sl V.eEntry x1)]), (8, .v false [.ptr 64064 0]), (10, .v false [.ptr 128448 0]), (25, .v false [.val (.bool v7_1)])], [(64064, .box [.val (.int .i64 (0 : Int)), .val (.int .i64 (0 : Int)), .val (.int .i64 (0 : Int)), .val (.int .i64 (0 : Int)), .val (.int .i64 (0 : Int)), .val (.int .i64 (0 : Int)), .val (.int .i64 (0 : Int)), .val (.int .i64 (0 : Int)), .nil0, .val (.int .i64 (0 : Int)), .nil0, .val (.int .i64 (0 : Int)), .val (.int .i64 (0 : Int)), .nil0, .val (.int .i64 (0 : Int)), .val (.bool false)]), (128448, .box [.val (.int .i64 y1.1), .val (.int .i64 y1.2.1), .val (.int .i64 y1.2.2.1), .val (.int .i64 y1.2.2.2.1), .val (.int .i64 y1.2.2.2.2.1), .val (.int .i64 y1.2.2.2.2.2.1), .val (.int .i64 y1.2.2.2.2.2.2.1), .val (.int .i64 y1.2.2.2.2.2.2.2.1), .val (.sl (.cons (.int .i64) .nil) y1.2.2.2.2.2.2.2.2.1), .val (.int .i64 y1.2.2.2.2.2.2.2.2.2.1), .val (.sl (.cons (.int .i64) .nil) y1.2.2.2.2.2.2.2.2.2.2.1), .val (.int .i64 y1.2.2.2.2.2.2.2.2.2.2.2.1), .val (.int .i64 y1.2.2.2.2.2.2.2.2.2.2.2.2.1), .val (.sl (.cons (.int .i64) .nil) y1.2.2.2.2.2.2.2.2.2.2.2.2.2.1), .val (.int .i64 y1.2.2.2.2.2.2.2.2.2.2.2.2.2.2.1), .val (.bool y1.2.2.2.2.2.2.2.2.2.2.2.2.2.2.2.1)])]⟩
theorem Z51.r7 (x0 : THead) (x1 : List TEntry) (x2 : Int) (x3 : Int) (y1 : TRHeadBool) (v7_1 : Bool) : V.joinF Z51.E Tryz.f80.ntmps [1, 1, 0] [] (V.codeOf Tryz.f80) (Z51.kt x0 x1 x2 x3) (Z51.s7 x1 y1 v7_1) = Z51.g7 x1 y1 v7_1 := by kernel_rfl
theorem Z51.e7 (x0 : THead) (x1 : List TEntry) (x2 : Int) (x3 : Int) (y1 : TRHeadBool) (v7_1 : Bool) : V.jn (V.joinF Z51.E Tryz.f80.ntmps [1, 1, 0] [] (V.codeOf Tryz.f80) (Z51.kt x0 x1 x2 x3)) (Z51.s7 x1 y1 v7_1) = Z51.l7 x1 y1 v7_1 := by
  rw [V.jn_eq, Z51.r7]
  rfl
noncomputable abbrev Z51.s (x0 : THead) (x1 : List TEntry) (x2 : Int) (x3 : Int) : V.St := ⟨[(0, .v true (V.lsHead x0)), (1, .v false [.val (.sl V.eEntry x1)]), (2, .v false [.val (.int .i64 x2)]), (3, .v false [.val (.int .i64 x3)])], []⟩
theorem Z51.v0 (x0 : THead) (x1 : List TEntry) (x2 : Int) (x3 : Int) : V.evBody Z51.E Z51.con Tryz.f80 (V.fl7 x0 x1 x2 x3) = V.evC Z51.E Tryz.f80.ntmps (V.codeOf Tryz.f80) (Z51.kt x0 x1 x2 x3) (Z51.s x0 x1 x2 x3) := by kernel_rfl
theorem Z51.v (x0 : THead) (x1 : List TEntry) (x2 : Int) (x3 : Int) : V.evC Z51.E Tryz.f80.ntmps (V.codeOf Tryz.f80) (Z51.kt x0 x1 x2 x3) (Z51.s x0 x1 x2 x3) = Z51.b x0 x1 x2 x3 (fun y1 v7_1 => V.jn (V.joinF Z51.E Tryz.f80.ntmps [1, 1, 0] [] (V.codeOf Tryz.f80) (Z51.kt x0 x1 x2 x3)) (Z51.s7 x1 y1 v7_1)) := by kernel_rfl
theorem Z51.eq (x0 : THead) (x1 : List TEntry) (x2 : Int) (x3 : Int) : V.evBody Z51.E Z51.con Tryz.f80 (V.fl7 x0 x1 x2 x3) = Z51 x0 x1 x2 x3 := by
  rw [Z51.v0, Z51.v]
  simp only [Z51.e7]
  rfl
theorem Z51.ok : V.Valid Tryz.prog 80 Z51.con :=
  V.fo (V.tab_cons Z31.ok (V.tab_cons Z22.ok (V.tab_cons Z134.ok (V.tab_cons Z88.ok V.tab_nil)))) Tryz.func80 (by kernel_rfl) (fun x y h => (show V.evBody Z51.E Z51.con Tryz.f80 x = _ from Z51.eq (V.p7_0 x) (V.p7_1 x) (V.p7_2 x) (V.p7_3 x)).trans (V.cfl (by kernel_rfl) h))
noncomputable abbrev Z87.con : V.Con := ⟨V.A3, V.eSigned, fun (x : V.D3) => Z87 (V.p3_0 x), [], [(true, 17)], [(true, 17)], [false, false, false, false, false, false, false, false, true, false, true, false, false, true, false, false, true], []⟩
noncomputable abbrev Z87.E : V.Env := V.mkE V.tys [(186, Z79.con)] [] [(1, 6)] [] [] []
noncomputable abbrev Z87.kt (x0 : TSigned) : V.Kt TSigned := V.ktOf Z87.E Z87.con Tryz.f177 (V.fl3 x0)
noncomputable abbrev Z87.s (x0 : TSigned) : V.St := ⟨[(0, .v true (V.lsSigned x0))], []⟩
theorem Z87.v0 (x0 : TSigned) : V.evBody Z87.E Z87.con Tryz.f177 (V.fl3 x0) = V.evC Z87.E Tryz.f177.ntmps (V.codeOf Tryz.f177) (Z87.kt x0) (Z87.s x0) := by kernel_rfl
theorem Z87.v (x0 : TSigned) : V.evC Z87.E Tryz.f177.ntmps (V.codeOf Tryz.f177) (Z87.kt x0) (Z87.s x0) = Z87 x0 := by kernel_rfl
theorem Z87.eq (x0 : TSigned) : V.evBody Z87.E Z87.con Tryz.f177 (V.fl3 x0) = Z87 x0 := (Z87.v0 x0).trans (Z87.v x0)
theorem Z87.ok : V.Valid Tryz.prog 177 Z87.con :=
  V.fo (V.tab_cons Z79.ok V.tab_nil) Tryz.func177 (by kernel_rfl) (fun x y h => (show V.evBody Z87.E Z87.con Tryz.f177 x = _ from Z87.eq (V.p3_0 x)).trans (V.cfl (by kernel_rfl) h))
noncomputable abbrev Z28.con : V.Con := ⟨(.cons (.sl V.eSigned) .nil), (.cons (.sl V.eSigned) .nil), fun (x : List TSigned) => Z28 x, [], [(false, 1)], [(false, 1)], [true], []⟩
noncomputable abbrev Z28.E : V.Env := V.mkE V.tys [(177, Z87.con)] [(6, [0, 3, 4], [(64000038400192, V.eSigned, true)])] [] [] [] []
noncomputable abbrev Z28.kt (x0 : List TSigned) : V.Kt (List TSigned) := V.ktOf Z28.E Z28.con Tryz.f175 ((x0) : List TSigned)
noncomputable abbrev Z28.s6 (x0 : List TSigned) (v6_1 : Int) (v6_2 : List TSigned) : V.St := ⟨[(0, .v false [.val (.sl V.eSigned x0)]), (3, .v false [.ref 64000038400192]), (4, .v false [.val (.int .i64 v6_1)])], [(64000038400192, .row V.eSigned true v6_2)]⟩
theorem Z28.r6 (x0 : List TSigned) (R : V.St → Option (List TSigned)) (v6_1 : Int) (v6_2 : List TSigned) : V.loopF Z28.E Tryz.f175.ntmps [1, 1, 0, 1, 0] [] (V.codeOf Tryz.f175) (Z28.kt x0) R (Z28.s6 x0 v6_1 v6_2) = Z28.g6 x0 (fun v6_1 v6_2 => R (Z28.s6 x0 v6_1 v6_2)) v6_1 v6_2 := by kernel_rfl
theorem Z28.e6 (x0 : List TSigned) : ∀ (n : Nat) (v6_1 : Int) (v6_2 : List TSigned), V.loopN (V.loopF Z28.E Tryz.f175.ntmps [1, 1, 0, 1, 0] [] (V.codeOf Tryz.f175) (Z28.kt x0)) n (Z28.s6 x0 v6_1 v6_2) = Z28.l6 x0 n v6_1 v6_2 := by
  intro n
  induction n with
  | zero => intros; rw [V.loopN_z]; rfl
  | succ n ih =>
    intro v6_1 v6_2
    rw [V.loopN_s, Z28.r6]
    simp only [ih]
    first | exact (Z28.u6 ..).symm | rfl
theorem Z28.v (x0 : List TSigned) : V.evBody Z28.E Z28.con Tryz.f175 ((x0) : List TSigned) = Z28.b x0 (fun v6_1 v6_2 => V.loopN (V.loopF Z28.E Tryz.f175.ntmps [1, 1, 0, 1, 0] [] (V.codeOf Tryz.f175) (Z28.kt x0)) V.KK (Z28.s6 x0 v6_1 v6_2)) := by kernel_rfl
theorem Z28.eq (x0 : List TSigned) : V.evBody Z28.E Z28.con Tryz.f175 ((x0) : List TSigned) = Z28 x0 := by
  rw [Z28.v]
  simp only [Z28.e6]
  rfl
theorem Z28.ok : V.Valid Tryz.prog 175 Z28.con :=
  V.fo (V.tab_cons Z87.ok V.tab_nil) Tryz.func175 (by kernel_rfl) (fun x y h => (show V.evBody Z28.E Z28.con Tryz.f175 x = _ from Z28.eq x).trans (V.cfl (by kernel_rfl) h))
noncomputable abbrev Z187.con : V.Con := ⟨(.cons (.sl (.cons .str .nil)) .nil), (.cons (.sl (.cons .str .nil)) .nil), fun (x : List ByteArray) => Z187 x, [], [(false, 1)], [(false, 1)], [true], []⟩
noncomputable abbrev Z187.E : V.Env := V.mkE V.tys [] [] [] [] [] []
theorem Z187.eq (x0 : List ByteArray) : V.evBody Z187.E Z187.con Tryz.f370 ((x0) : List ByteArray) = Z187 x0 := by kernel_rfl
theorem Z187.ok : V.Valid Tryz.prog 370 Z187.con :=
  V.fo V.tab_nil Tryz.func370 (by kernel_rfl) (fun x y h => (show V.evBody Z187.E Z187.con Tryz.f370 x = _ from Z187.eq x).trans (V.cfl (by kernel_rfl) h))
noncomputable abbrev Z156.con : V.Con := ⟨V.eEntry, V.eEntry, fun (x : ByteArray × Int × Int × List ByteArray) => Z156 x, [], [(true, 4)], [(true, 4)], [false, false, false, true], []⟩
noncomputable abbrev Z156.E : V.Env := V.mkE V.tys [(370, Z187.con)] [] [(1, 9)] [] [] []
theorem Z156.eq (x0 : TEntry) : V.evBody Z156.E Z156.con Tryz.f277 ((x0.1, x0.2.1, x0.2.2.1, x0.2.2.2) : ByteArray × Int × Int × List ByteArray) = Z156 x0 := by kernel_rfl
theorem Z156.ok : V.Valid Tryz.prog 277 Z156.con :=
  V.fo (V.tab_cons Z187.ok V.tab_nil) Tryz.func277 (by kernel_rfl) (fun x y h => (show V.evBody Z156.E Z156.con Tryz.f277 x = _ from Z156.eq x).trans (V.cfl (by kernel_rfl) h))
noncomputable abbrev Z47.con : V.Con := ⟨(.cons (.sl V.eEntry) .nil), (.cons (.sl V.eEntry) .nil), fun (x : List TEntry) => Z47 x, [], [(false, 1)], [(false, 1)], [true], []⟩
noncomputable abbrev Z47.E : V.Env := V.mkE V.tys [(277, Z156.con)] [(6, [0, 3, 4], [(64000038400192, V.eEntry, true)])] [] [] [] []
noncomputable abbrev Z47.kt (x0 : List TEntry) : V.Kt (List TEntry) := V.ktOf Z47.E Z47.con Tryz.f255 ((x0) : List TEntry)
noncomputable abbrev Z47.s6 (x0 : List TEntry) (v6_1 : Int) (v6_2 : List TEntry) : V.St := ⟨[(0, .v false [.val (.sl V.eEntry x0)]), (3, .v false [.ref 64000038400192]), (4, .v false [.val (.int .i64 v6_1)])], [(64000038400192, .row V.eEntry true v6_2)]⟩
theorem Z47.r6 (x0 : List TEntry) (R : V.St → Option (List TEntry)) (v6_1 : Int) (v6_2 : List TEntry) : V.loopF Z47.E Tryz.f255.ntmps [1, 1, 0, 1, 0] [] (V.codeOf Tryz.f255) (Z47.kt x0) R (Z47.s6 x0 v6_1 v6_2) = Z47.g6 x0 (fun v6_1 v6_2 => R (Z47.s6 x0 v6_1 v6_2)) v6_1 v6_2 := by kernel_rfl
theorem Z47.e6 (x0 : List TEntry) : ∀ (n : Nat) (v6_1 : Int) (v6_2 : List TEntry), V.loopN (V.loopF Z47.E Tryz.f255.ntmps [1, 1, 0, 1, 0] [] (V.codeOf Tryz.f255) (Z47.kt x0)) n (Z47.s6 x0 v6_1 v6_2) = Z47.l6 x0 n v6_1 v6_2 := by
  intro n
  induction n with
  | zero => intros; rw [V.loopN_z]; rfl
  | succ n ih =>
    intro v6_1 v6_2
    rw [V.loopN_s, Z47.r6]
    simp only [ih]
    first | exact (Z47.u6 ..).symm | rfl
theorem Z47.v (x0 : List TEntry) : V.evBody Z47.E Z47.con Tryz.f255 ((x0) : List TEntry) = Z47.b x0 (fun v6_1 v6_2 => V.loopN (V.loopF Z47.E Tryz.f255.ntmps [1, 1, 0, 1, 0] [] (V.codeOf Tryz.f255) (Z47.kt x0)) V.KK (Z47.s6 x0 v6_1 v6_2)) := by kernel_rfl
theorem Z47.eq (x0 : List TEntry) : V.evBody Z47.E Z47.con Tryz.f255 ((x0) : List TEntry) = Z47 x0 := by
  rw [Z47.v]
  simp only [Z47.e6]
  rfl
theorem Z47.ok : V.Valid Tryz.prog 255 Z47.con :=
  V.fo (V.tab_cons Z156.ok V.tab_nil) Tryz.func255 (by kernel_rfl) (fun x y h => (show V.evBody Z47.E Z47.con Tryz.f255 x = _ from Z47.eq x).trans (V.cfl (by kernel_rfl) h))
noncomputable abbrev Z124.con : V.Con := ⟨(.cons (.sl V.eSigned) (.cons (.sl V.eEntry) .nil)), (.cons (.sl V.eSigned) (.cons (.sl V.eEntry) .nil)), fun (x : List TSigned × List TEntry) => Z124 x, [], [(true, 2)], [(true, 2)], [true, true], []⟩
noncomputable abbrev Z124.E : V.Env := V.mkE V.tys [(175, Z28.con), (255, Z47.con)] [] [(1, 5)] [] [] []
theorem Z124.eq (x0 : TZone) : V.evBody Z124.E Z124.con Tryz.f253 ((x0.1, x0.2) : List TSigned × List TEntry) = Z124 x0 := by kernel_rfl
theorem Z124.ok : V.Valid Tryz.prog 253 Z124.con :=
  V.fo (V.tab_cons Z28.ok (V.tab_cons Z47.ok V.tab_nil)) Tryz.func253 (by kernel_rfl) (fun x y h => (show V.evBody Z124.E Z124.con Tryz.f253 x = _ from Z124.eq x).trans (V.cfl (by kernel_rfl) h))
noncomputable abbrev Z178.con : V.Con := ⟨(.cons (.int .i64) (.cons (.sl V.eEntry) .nil)), (.cons .bool .nil), fun (x : Int × List TEntry) => Z178 x.1 x.2, [], [(false, 1), (false, 1)], [(false, 1)], [false], []⟩
noncomputable abbrev Z178.E : V.Env := V.mkE V.tys [(233, Z22.con), (234, Z134.con)] [] [] [] [] []
theorem Z178.eq (x0 : Int) (x1 : List TEntry) : V.evBody Z178.E Z178.con Tryz.f258 ((x0, x1) : Int × List TEntry) = Z178 x0 x1 := by kernel_rfl
theorem Z178.ok : V.Valid Tryz.prog 258 Z178.con :=
  V.fo (V.tab_cons Z22.ok (V.tab_cons Z134.ok V.tab_nil)) Tryz.func258 (by kernel_rfl) (fun x y h => (show V.evBody Z178.E Z178.con Tryz.f258 x = _ from Z178.eq x.1 x.2).trans (V.cfl (by kernel_rfl) h))
noncomputable abbrev Z127.con : V.Con := ⟨(.cons (.sl V.eSigned) (.cons (.sl V.eEntry) .nil)), (.cons .bool .nil), fun (x : List TSigned × List TEntry) => Z127 x, [], [(true, 2)], [(false, 1)], [false], []⟩
noncomputable abbrev Z127.E : V.Env := V.mkE V.tys [(137, Z114.con), (258, Z178.con)] [] [] [] [] []
theorem Z127.eq (x0 : TZone) : V.evBody Z127.E Z127.con Tryz.f99 ((x0.1, x0.2) : List TSigned × List TEntry) = Z127 x0 := by kernel_rfl
theorem Z127.ok : V.Valid Tryz.prog 99 Z127.con :=
  V.fo (V.tab_cons Z114.ok (V.tab_cons Z178.ok V.tab_nil)) Tryz.func99 (by kernel_rfl) (fun x y h => (show V.evBody Z127.E Z127.con Tryz.f99 x = _ from Z127.eq x).trans (V.cfl (by kernel_rfl) h))
noncomputable abbrev Z46.con : V.Con := ⟨(.cons (.sl (.cons (.int .i64) .nil)) (.cons (.int .i64) .nil)), (.cons .bool .nil), fun (x : List Int × Int) => Z46 x.1 x.2, [], [(false, 1), (false, 1)], [(false, 1)], [false], []⟩
noncomputable abbrev Z46.E : V.Env := V.mkE V.tys [] [(4, [0, 1, 5], [])] [] [] [] []
noncomputable abbrev Z46.kt (x0 : List Int) (x1 : Int) : V.Kt Bool := V.ktOf Z46.E Z46.con Tryz.f241 ((x0, x1) : List Int × Int)
noncomputable abbrev Z46.s4 (x0 : List Int) (x1 : Int) (v4_2 : Int) : V.St := ⟨[(0, .v false [.val (.sl (.cons (.int .i64) .nil) x0)]), (1, .v false [.val (.int .i64 x1)]), (5, .v false [.val (.int .i64 v4_2)])], []⟩
theorem Z46.r4 (x0 : List Int) (x1 : Int) (R : V.St → Option Bool) (v4_2 : Int) : V.loopF Z46.E Tryz.f241.ntmps [1, 0, 1, 0] [] (V.codeOf Tryz.f241) (Z46.kt x0 x1) R (Z46.s4 x0 x1 v4_2) = Z46.g4 x0 x1 (fun v4_2 => R (Z46.s4 x0 x1 v4_2)) v4_2 := by kernel_rfl
theorem Z46.e4 (x0 : List Int) (x1 : Int) : ∀ (n : Nat) (v4_2 : Int), V.loopN (V.loopF Z46.E Tryz.f241.ntmps [1, 0, 1, 0] [] (V.codeOf Tryz.f241) (Z46.kt x0 x1)) n (Z46.s4 x0 x1 v4_2) = Z46.l4 x0 x1 n v4_2 := by
  intro n
  induction n with
  | zero => intros; rw [V.loopN_z]; rfl
  | succ n ih =>
    intro v4_2
    rw [V.loopN_s, Z46.r4]
    simp only [ih]
    first | exact (Z46.u4 ..).symm | rfl
theorem Z46.v (x0 : List Int) (x1 : Int) : V.evBody Z46.E Z46.con Tryz.f241 ((x0, x1) : List Int × Int) = Z46.b x0 x1 (fun v4_2 => V.loopN (V.loopF Z46.E Tryz.f241.ntmps [1, 0, 1, 0] [] (V.codeOf Tryz.f241) (Z46.kt x0 x1)) V.KK (Z46.s4 x0 x1 v4_2)) := by kernel_rfl
theorem Z46.eq (x0 : List Int) (x1 : Int) : V.evBody Z46.E Z46.con Tryz.f241 ((x0, x1) : List Int × Int) = Z46 x0 x1 := by
  rw [Z46.v]
  simp only [Z46.e4]
  rfl
theorem Z46.ok : V.Valid Tryz.prog 241 Z46.con :=
  V.fo V.tab_nil Tryz.func241 (by kernel_rfl) (fun x y h => (show V.evBody Z46.E Z46.con Tryz.f241 x = _ from Z46.eq x.1 x.2).trans (V.cfl (by kernel_rfl) h))
noncomputable abbrev Z45.con : V.Con := ⟨(.cons (.sl (.cons (.int .i64) .nil)) (.cons (.sl (.cons (.int .i64) .nil)) (.cons (.int .i64) (.cons (.sl (.cons (.int .i64) .nil)) .nil)))), (.cons (.sl (.cons (.int .i64) (.cons (.int .i64) .nil))) .nil), fun (x : List Int × List Int × Int × List Int) => Z45 x.1 (x.2.1, x.2.2.1) x.2.2.2, [], [(false, 1), (true, 2), (false, 1)], [(false, 1)], [true], []⟩
noncomputable abbrev Z45.E : V.Env := V.mkE V.tys [(202, Z135.con), (241, Z46.con)] [(6, [0, 2, 4, 7, 8], [(64000038400448, (.cons (.int .i64) (.cons (.int .i64) .nil)), true)])] [(6, 15)] [] [] []
noncomputable abbrev Z45.kt (x0 : List Int) (x1 : TKeys) (x2 : List Int) : V.Kt (List TSig) := V.ktOf Z45.E Z45.con Tryz.f332 ((x0, x1.1, x1.2, x2) : List Int × List Int × Int × List Int)
noncomputable abbrev Z45.s6 (x0 : List Int) (x1 : TKeys) (x2 : List Int) (v6_2 : Int) (v6_5 : List TSig) : V.St := ⟨[(0, .v false [.val (.sl (.cons (.int .i64) .nil) x0)]), (2, .v false [.val (.sl (.cons (.int .i64) .nil) x2)]), (4, .v false [.ptr 64000 0]), (7, .v false [.ref 64000038400448]), (8, .v false [.val (.int .i64 v6_2)])], [(64000, .box [.val (.sl (.cons (.int .i64) .nil) x1.1), .val (.int .i64 x1.2)]), (64000038400448, .row (.cons (.int .i64) (.cons (.int .i64) .nil)) true v6_5)]⟩
theorem Z45.r6 (x0 : List Int) (x1 : TKeys) (x2 : List Int) (R : V.St → Option (List TSig)) (v6_2 : Int) (v6_5 : List TSig) : V.loopF Z45.E Tryz.f332.ntmps [1, 1, 0, 1, 0] [] (V.codeOf Tryz.f332) (Z45.kt x0 x1 x2) R (Z45.s6 x0 x1 x2 v6_2 v6_5) = Z45.g6 x0 x1 x2 (fun v6_2 v6_5 => R (Z45.s6 x0 x1 x2 v6_2 v6_5)) v6_2 v6_5 := by kernel_rfl
theorem Z45.e6 (x0 : List Int) (x1 : TKeys) (x2 : List Int) : ∀ (n : Nat) (v6_2 : Int) (v6_5 : List TSig), V.loopN (V.loopF Z45.E Tryz.f332.ntmps [1, 1, 0, 1, 0] [] (V.codeOf Tryz.f332) (Z45.kt x0 x1 x2)) n (Z45.s6 x0 x1 x2 v6_2 v6_5) = Z45.l6 x0 x1 x2 n v6_2 v6_5 := by
  intro n
  induction n with
  | zero => intros; rw [V.loopN_z]; rfl
  | succ n ih =>
    intro v6_2 v6_5
    rw [V.loopN_s, Z45.r6]
    simp only [ih]
    first | exact (Z45.u6 ..).symm | rfl
theorem Z45.v (x0 : List Int) (x1 : TKeys) (x2 : List Int) : V.evBody Z45.E Z45.con Tryz.f332 ((x0, x1.1, x1.2, x2) : List Int × List Int × Int × List Int) = Z45.b x0 x1 x2 (fun v6_2 v6_5 => V.loopN (V.loopF Z45.E Tryz.f332.ntmps [1, 1, 0, 1, 0] [] (V.codeOf Tryz.f332) (Z45.kt x0 x1 x2)) V.KK (Z45.s6 x0 x1 x2 v6_2 v6_5)) := by kernel_rfl
theorem Z45.eq (x0 : List Int) (x1 : TKeys) (x2 : List Int) : V.evBody Z45.E Z45.con Tryz.f332 ((x0, x1.1, x1.2, x2) : List Int × List Int × Int × List Int) = Z45 x0 x1 x2 := by
  rw [Z45.v]
  simp only [Z45.e6]
  rfl
theorem Z45.ok : V.Valid Tryz.prog 332 Z45.con :=
  V.fo (V.tab_cons Z135.ok (V.tab_cons Z46.ok V.tab_nil)) Tryz.func332 (by kernel_rfl) (fun x y h => (show V.evBody Z45.E Z45.con Tryz.f332 x = _ from Z45.eq x.1 (x.2.1, x.2.2.1) x.2.2.2).trans (V.cfl (by kernel_rfl) h))
noncomputable abbrev Z92.con : V.Con := ⟨V.A8, V.eSigned, fun (x : V.D8) => Z92 (V.p8_0 x) (V.p8_1 x) (V.p8_2 x), [], [(false, 1), (true, 2), (true, 16)], [(true, 17)], [false, false, false, false, false, false, false, false, true, false, true, false, false, true, false, false, true], []⟩
noncomputable abbrev Z92.E : V.Env := V.mkE V.tys [(125, Z82.con), (186, Z79.con), (332, Z45.con)] [] [(1, 6)] [] [] []
noncomputable abbrev Z92.kt (x0 : List Int) (x1 : TKeys) (x2 : THead) : V.Kt TSigned := V.ktOf Z92.E Z92.con Tryz.f304 (V.fl8 x0 x1 x2)
noncomputable abbrev Z92.s (x0 : List Int) (x1 : TKeys) (x2 : THead) : V.St := ⟨[(0, .v false [.val (.sl (.cons (.int .i64) .nil) x0)]), (1, .v true [.val (.sl (.cons (.int .i64) .nil) x1.1), .val (.int .i64 x1.2)]), (2, .v true (V.lsHead x2))], []⟩
theorem Z92.v0 (x0 : List Int) (x1 : TKeys) (x2 : THead) : V.evBody Z92.E Z92.con Tryz.f304 (V.fl8 x0 x1 x2) = V.evC Z92.E Tryz.f304.ntmps (V.codeOf Tryz.f304) (Z92.kt x0 x1 x2) (Z92.s x0 x1 x2) := by kernel_rfl
theorem Z92.v (x0 : List Int) (x1 : TKeys) (x2 : THead) : V.evC Z92.E Tryz.f304.ntmps (V.codeOf Tryz.f304) (Z92.kt x0 x1 x2) (Z92.s x0 x1 x2) = Z92 x0 x1 x2 := by kernel_rfl
theorem Z92.eq (x0 : List Int) (x1 : TKeys) (x2 : THead) : V.evBody Z92.E Z92.con Tryz.f304 (V.fl8 x0 x1 x2) = Z92 x0 x1 x2 := (Z92.v0 x0 x1 x2).trans (Z92.v x0 x1 x2)
theorem Z92.ok : V.Valid Tryz.prog 304 Z92.con :=
  V.fo (V.tab_cons Z82.ok (V.tab_cons Z79.ok (V.tab_cons Z45.ok V.tab_nil))) Tryz.func304 (by kernel_rfl) (fun x y h => (show V.evBody Z92.E Z92.con Tryz.f304 x = _ from Z92.eq (V.p8_0 x) (V.p8_1 x) (V.p8_2 x)).trans (V.cfl (by kernel_rfl) h))
noncomputable abbrev Z109.con : V.Con := ⟨V.A9, V.eSigned, fun (x : V.D9) => Z109 (V.p9_0 x) (V.p9_1 x) (V.p9_2 x), [], [(true, 16), (true, 16), (false, 1)], [(true, 17)], [false, false, false, false, false, false, false, false, true, false, true, false, false, true, false, false, true], []⟩
noncomputable abbrev Z109.E : V.Env := V.mkE V.tys [(304, Z92.con)] [] [] [] [] []
noncomputable abbrev Z109.kt (x0 : THead) (x1 : THead) (x2 : List Int) : V.Kt TSigned := V.ktOf Z109.E Z109.con Tryz.f254 (V.fl9 x0 x1 x2)
noncomputable abbrev Z109.s (x0 : THead) (x1 : THead) (x2 : List Int) : V.St := ⟨[(0, .v true (V.lsHead x0)), (1, .v true (V.lsHead x1)), (2, .v false [.val (.sl (.cons (.int .i64) .nil) x2)])], []⟩
theorem Z109.v0 (x0 : THead) (x1 : THead) (x2 : List Int) : V.evBody Z109.E Z109.con Tryz.f254 (V.fl9 x0 x1 x2) = V.evC Z109.E Tryz.f254.ntmps (V.codeOf Tryz.f254) (Z109.kt x0 x1 x2) (Z109.s x0 x1 x2) := by kernel_rfl
theorem Z109.v (x0 : THead) (x1 : THead) (x2 : List Int) : V.evC Z109.E Tryz.f254.ntmps (V.codeOf Tryz.f254) (Z109.kt x0 x1 x2) (Z109.s x0 x1 x2) = Z109 x0 x1 x2 := by kernel_rfl
theorem Z109.eq (x0 : THead) (x1 : THead) (x2 : List Int) : V.evBody Z109.E Z109.con Tryz.f254 (V.fl9 x0 x1 x2) = Z109 x0 x1 x2 := (Z109.v0 x0 x1 x2).trans (Z109.v x0 x1 x2)
theorem Z109.ok : V.Valid Tryz.prog 254 Z109.con :=
  V.fo (V.tab_cons Z92.ok V.tab_nil) Tryz.func254 (by kernel_rfl) (fun x y h => (show V.evBody Z109.E Z109.con Tryz.f254 x = _ from Z109.eq (V.p9_0 x) (V.p9_1 x) (V.p9_2 x)).trans (V.cfl (by kernel_rfl) h))
noncomputable abbrev Z52.con : V.Con := ⟨V.A10, (.cons (.sl V.eSigned) (.cons (.int .i64) .nil)), fun (x : V.D10) => Z52 (V.p10_0 x) (V.p10_1 x), [], [(false, 1), (true, 17)], [(false, 1), (false, 1)], [true, false], []⟩
noncomputable abbrev Z52.E : V.Env := V.mkE V.tys [(137, Z114.con), (175, Z28.con), (176, Z3.con), (177, Z87.con)] [(7, [0, 3, 6, 20], [])] [(7, 3)] [] [] []
noncomputable abbrev Z52.kt (x0 : List TSigned) (x1 : TSigned) : V.Kt (List TSigned × Int) := V.ktOf Z52.E Z52.con Tryz.f36 (V.fl10 x0 x1)
noncomputable abbrev Z52.s7 (x0 : List TSigned) (x1 : TSigned) (y1 : TRHeadBool) (v7_1 : Bool) : V.St := ⟨[(0, .v false [.val (.sl V.eSigned x0)]), (3, .v false [.ptr 64000 0]), (6, .v false [.ptr 128320 0]), (20, .v false [.val (.bool v7_1)])], [(64000, .box (V.lsSigned x1)), (128320, .box [.val (.int .i64 y1.1), .val (.int .i64 y1.2.1), .val (.int .i64 y1.2.2.1), .val (.int .i64 y1.2.2.2.1), .val (.int .i64 y1.2.2.2.2.1), .val (.int .i64 y1.2.2.2.2.2.1), .val (.int .i64 y1.2.2.2.2.2.2.1), .val (.int .i64 y1.2.2.2.2.2.2.2.1), .ref 64000000000008212488, .val (.int .i64 y1.2.2.2.2.2.2.2.2.2.1), .ref 64000000000008212490, .val (.int .i64 y1.2.2.2.2.2.2.2.2.2.2.2.1), .val (.int .i64 y1.2.2.2.2.2.2.2.2.2.2.2.2.1), .ref 64000000000008212493, .val (.int .i64 y1.2.2.2.2.2.2.2.2.2.2.2.2.2.2.1), .val (.bool y1.2.2.2.2.2.2.2.2.2.2.2.2.2.2.2.1)]), (64000000000008212488, .row (.cons (.int .i64) .nil) true y1.2.2.2.2.2.2.2.2.1), (64000000000008212490, .row (.cons (.int .i64) .nil) true y1.2.2.2.2.2.2.2.2.2.2.1), (64000000000008212493, .row (.cons (.int .i64) .nil) true y1.2.2.2.2.2.2.2.2.2.2.2.2.2.1)]⟩
theorem Z52.r7 (x0 : List TSigned) (x1 : TSigned) (y1 : TRHeadBool) (v7_1 : Bool) : V.joinF Z52.E Tryz.f36.ntmps [1, 1, 0] [] (V.codeOf Tryz.f36) (Z52.kt x0 x1) (Z52.s7 x0 x1 y1 v7_1) = Z52.g7 x0 x1 y1 v7_1 := by kernel_rfl
theorem Z52.e7 (x0 : List TSigned) (x1 : TSigned) (y1 : TRHeadBool) (v7_1 : Bool) : V.jn (V.joinF Z52.E Tryz.f36.ntmps [1, 1, 0] [] (V.codeOf Tryz.f36) (Z52.kt x0 x1)) (Z52.s7 x0 x1 y1 v7_1) = Z52.l7 x0 x1 y1 v7_1 := by
  rw [V.jn_eq, Z52.r7]
  rfl
noncomputable abbrev Z52.s (x0 : List TSigned) (x1 : TSigned) : V.St := ⟨[(0, .v false [.val (.sl V.eSigned x0)]), (1, .v true (V.lsSigned x1))], []⟩
theorem Z52.v0 (x0 : List TSigned) (x1 : TSigned) : V.evBody Z52.E Z52.con Tryz.f36 (V.fl10 x0 x1) = V.evC Z52.E Tryz.f36.ntmps (V.codeOf Tryz.f36) (Z52.kt x0 x1) (Z52.s x0 x1) := by kernel_rfl
theorem Z52.v (x0 : List TSigned) (x1 : TSigned) : V.evC Z52.E Tryz.f36.ntmps (V.codeOf Tryz.f36) (Z52.kt x0 x1) (Z52.s x0 x1) = Z52.b x0 x1 (fun y1 v7_1 => V.jn (V.joinF Z52.E Tryz.f36.ntmps [1, 1, 0] [] (V.codeOf Tryz.f36) (Z52.kt x0 x1)) (Z52.s7 x0 x1 y1 v7_1)) := by kernel_rfl
theorem Z52.eq (x0 : List TSigned) (x1 : TSigned) : V.evBody Z52.E Z52.con Tryz.f36 (V.fl10 x0 x1) = Z52 x0 x1 := by
  rw [Z52.v0, Z52.v]
  simp only [Z52.e7]
  rfl
theorem Z52.ok : V.Valid Tryz.prog 36 Z52.con :=
  V.fo (V.tab_cons Z114.ok (V.tab_cons Z28.ok (V.tab_cons Z3.ok (V.tab_cons Z87.ok V.tab_nil)))) Tryz.func36 (by kernel_rfl) (fun x y h => (show V.evBody Z52.E Z52.con Tryz.f36 x = _ from Z52.eq (V.p10_0 x) (V.p10_1 x)).trans (V.cfl (by kernel_rfl) h))
noncomputable abbrev Z108.con : V.Con := ⟨V.A11, (.cons (.sl V.eSigned) (.cons (.sl V.eEntry) (.cons (.int .i64) .nil))), fun (x : V.D11) => Z108 (V.p11_0 x) (V.p11_1 x) (V.p11_2 x) (V.p11_3 x), [], [(true, 2), (false, 1), (true, 16), (false, 1)], [(true, 2), (false, 1)], [true, true, false], []⟩
noncomputable abbrev Z108.E : V.Env := V.mkE V.tys [(36, Z52.con), (99, Z127.con), (137, Z114.con), (253, Z124.con), (254, Z109.con), (255, Z47.con)] [] [(4, 10)] [] [] []
noncomputable abbrev Z108.kt (x0 : TZone) (x1 : List Int) (x2 : THead) (x3 : List TEntry) : V.Kt TRZoneInt := V.ktOf Z108.E Z108.con Tryz.f96 (V.fl11 x0 x1 x2 x3)
noncomputable abbrev Z108.s (x0 : TZone) (x1 : List Int) (x2 : THead) (x3 : List TEntry) : V.St := ⟨[(0, .v true [.val (.sl V.eSigned x0.1), .val (.sl V.eEntry x0.2)]), (1, .v false [.val (.sl (.cons (.int .i64) .nil) x1)]), (2, .v true (V.lsHead x2)), (3, .v false [.val (.sl V.eEntry x3)])], []⟩
theorem Z108.v0 (x0 : TZone) (x1 : List Int) (x2 : THead) (x3 : List TEntry) : V.evBody Z108.E Z108.con Tryz.f96 (V.fl11 x0 x1 x2 x3) = V.evC Z108.E Tryz.f96.ntmps (V.codeOf Tryz.f96) (Z108.kt x0 x1 x2 x3) (Z108.s x0 x1 x2 x3) := by kernel_rfl
theorem Z108.v (x0 : TZone) (x1 : List Int) (x2 : THead) (x3 : List TEntry) : V.evC Z108.E Tryz.f96.ntmps (V.codeOf Tryz.f96) (Z108.kt x0 x1 x2 x3) (Z108.s x0 x1 x2 x3) = Z108 x0 x1 x2 x3 := by kernel_rfl
theorem Z108.eq (x0 : TZone) (x1 : List Int) (x2 : THead) (x3 : List TEntry) : V.evBody Z108.E Z108.con Tryz.f96 (V.fl11 x0 x1 x2 x3) = Z108 x0 x1 x2 x3 := (Z108.v0 x0 x1 x2 x3).trans (Z108.v x0 x1 x2 x3)
theorem Z108.ok : V.Valid Tryz.prog 96 Z108.con :=
  V.fo (V.tab_cons Z52.ok (V.tab_cons Z127.ok (V.tab_cons Z114.ok (V.tab_cons Z124.ok (V.tab_cons Z109.ok (V.tab_cons Z47.ok V.tab_nil)))))) Tryz.func96 (by kernel_rfl) (fun x y h => (show V.evBody Z108.E Z108.con Tryz.f96 x = _ from Z108.eq (V.p11_0 x) (V.p11_1 x) (V.p11_2 x) (V.p11_3 x)).trans (V.cfl (by kernel_rfl) h))
noncomputable abbrev Z78.con : V.Con := ⟨V.eRZoneListListIntInt, (.cons (.sl V.eSigned) (.cons (.sl V.eEntry) (.cons (.int .i64) .nil))), fun (x : List TSigned × List TEntry × List Int × List TEntry × Int × Int) => Z78 (x.1, x.2.1) x.2.2.1 x.2.2.2.1 x.2.2.2.2.1 x.2.2.2.2.2, [], [(true, 2), (false, 1), (false, 1), (false, 1), (false, 1)], [(true, 2), (false, 1)], [true, true, false], []⟩
noncomputable abbrev Z78.E : V.Env := V.mkE V.tys [(80, Z51.con), (96, Z108.con), (99, Z127.con), (137, Z114.con), (253, Z124.con)] [(9, [1, 2, 5, 10, 14, 36], [])] [] [] [] []
noncomputable abbrev Z78.kt (x0 : TZone) (x1 : List Int) (x2 : List TEntry) (x3 : Int) (x4 : Int) : V.Kt TRZoneInt := V.ktOf Z78.E Z78.con Tryz.f106 ((x0.1, x0.2, x1, x2, x3, x4) : List TSigned × List TEntry × List Int × List TEntry × Int × Int)
noncomputable abbrev Z78.s9 (x0 : TZone) (x1 : List Int) (x2 : List TEntry) (y2 : TRHeadBool) (v9_2 : Bool) : V.St := ⟨[(1, .v false [.val (.sl (.cons (.int .i64) .nil) x1)]), (2, .v false [.val (.sl V.eEntry x2)]), (5, .v false [.ptr 64000 0]), (10, .v false [.ptr 64064 0]), (14, .v false [.ptr 192512 0]), (36, .v false [.val (.bool v9_2)])], [(64000, .box [.val (.sl V.eSigned x0.1), .val (.sl V.eEntry x0.2)]), (64064, .box [.nil0, .nil0]), (192512, .box [.val (.int .i64 y2.1), .val (.int .i64 y2.2.1), .val (.int .i64 y2.2.2.1), .val (.int .i64 y2.2.2.2.1), .val (.int .i64 y2.2.2.2.2.1), .val (.int .i64 y2.2.2.2.2.2.1), .val (.int .i64 y2.2.2.2.2.2.2.1), .val (.int .i64 y2.2.2.2.2.2.2.2.1), .val (.sl (.cons (.int .i64) .nil) y2.2.2.2.2.2.2.2.2.1), .val (.int .i64 y2.2.2.2.2.2.2.2.2.2.1), .val (.sl (.cons (.int .i64) .nil) y2.2.2.2.2.2.2.2.2.2.2.1), .val (.int .i64 y2.2.2.2.2.2.2.2.2.2.2.2.1), .val (.int .i64 y2.2.2.2.2.2.2.2.2.2.2.2.2.1), .val (.sl (.cons (.int .i64) .nil) y2.2.2.2.2.2.2.2.2.2.2.2.2.2.1), .val (.int .i64 y2.2.2.2.2.2.2.2.2.2.2.2.2.2.2.1), .val (.bool y2.2.2.2.2.2.2.2.2.2.2.2.2.2.2.2.1)])]⟩
theorem Z78.r9 (x0 : TZone) (x1 : List Int) (x2 : List TEntry) (x3 : Int) (x4 : Int) (y2 : TRHeadBool) (v9_2 : Bool) : V.joinF Z78.E Tryz.f106.ntmps [1, 1, 1, 0] [] (V.codeOf Tryz.f106) (Z78.kt x0 x1 x2 x3 x4) (Z78.s9 x0 x1 x2 y2 v9_2) = Z78.g9 x0 x1 x2 y2 v9_2 := by kernel_rfl
theorem Z78.e9 (x0 : TZone) (x1 : List Int) (x2 : List TEntry) (x3 : Int) (x4 : Int) (y2 : TRHeadBool) (v9_2 : Bool) : V.jn (V.joinF Z78.E Tryz.f106.ntmps [1, 1, 1, 0] [] (V.codeOf Tryz.f106) (Z78.kt x0 x1 x2 x3 x4)) (Z78.s9 x0 x1 x2 y2 v9_2) = Z78.l9 x0 x1 x2 y2 v9_2 := by
  rw [V.jn_eq, Z78.r9]
  rfl
theorem Z78.v (x0 : TZone) (x1 : List Int) (x2 : List TEntry) (x3 : Int) (x4 : Int) : V.evBody Z78.E Z78.con Tryz.f106 ((x0.1, x0.2, x1, x2, x3, x4) : List TSigned × List TEntry × List Int × List TEntry × Int × Int) = Z78.b x0 x1 x2 x3 x4 (fun y2 v9_2 => V.jn (V.joinF Z78.E Tryz.f106.ntmps [1, 1, 1, 0] [] (V.codeOf Tryz.f106) (Z78.kt x0 x1 x2 x3 x4)) (Z78.s9 x0 x1 x2 y2 v9_2)) := by kernel_rfl
theorem Z78.eq (x0 : TZone) (x1 : List Int) (x2 : List TEntry) (x3 : Int) (x4 : Int) : V.evBody Z78.E Z78.con Tryz.f106 ((x0.1, x0.2, x1, x2, x3, x4) : List TSigned × List TEntry × List Int × List TEntry × Int × Int) = Z78 x0 x1 x2 x3 x4 := by
  rw [Z78.v]
  simp only [Z78.e9]
  rfl
theorem Z78.ok : V.Valid Tryz.prog 106 Z78.con :=
  V.fo (V.tab_cons Z51.ok (V.tab_cons Z108.ok (V.tab_cons Z127.ok (V.tab_cons Z114.ok (V.tab_cons Z124.ok V.tab_nil))))) Tryz.func106 (by kernel_rfl) (fun x y h => (show V.evBody Z78.E Z78.con Tryz.f106 x = _ from Z78.eq (x.1, x.2.1) x.2.2.1 x.2.2.2.1 x.2.2.2.2.1 x.2.2.2.2.2).trans (V.cfl (by kernel_rfl) h))
noncomputable abbrev Z155.con : V.Con := ⟨(.cons (.sl V.eSigned) (.cons (.sl V.eEntry) (.cons (.sl (.cons (.int .i64) .nil)) (.cons (.int .i64) (.cons (.int .i64) .nil))))), (.cons (.sl V.eSigned) (.cons (.sl V.eEntry) (.cons (.int .i64) .nil))), fun (x : List TSigned × List TEntry × List Int × Int × Int) => Z155 (x.1, x.2.1) x.2.2.1 x.2.2.2.1 x.2.2.2.2, [], [(true, 2), (false, 1), (false, 1), (false, 1)], [(true, 2), (false, 1)], [true, true, false], []⟩
noncomputable abbrev Z155.E : V.Env := V.mkE V.tys [(106, Z78.con)] [] [] [] [] []
theorem Z155.eq (x0 : TZone) (x1 : List Int) (x2 : Int) (x3 : Int) : V.evBody Z155.E Z155.con Tryz.f120 ((x0.1, x0.2, x1, x2, x3) : List TSigned × List TEntry × List Int × Int × Int) = Z155 x0 x1 x2 x3 := by kernel_rfl
theorem Z155.ok : V.Valid Tryz.prog 120 Z155.con :=
  V.fo (V.tab_cons Z78.ok V.tab_nil) Tryz.func120 (by kernel_rfl) (fun x y h => (show V.evBody Z155.E Z155.con Tryz.f120 x = _ from Z155.eq (x.1, x.2.1) x.2.2.1 x.2.2.2.1 x.2.2.2.2).trans (V.cfl (by kernel_rfl) h))
noncomputable abbrev Z60.con : V.Con := ⟨(.cons (.int .i64) (.cons (.int .i64) (.cons (.int .i64) .nil))), (.cons .bool .nil), fun (x : Int × Int × Int) => Z60 x.1 x.2.1 x.2.2, [], [(false, 1), (false, 1), (false, 1)], [(false, 1)], [false], []⟩
noncomputable abbrev Z60.E : V.Env := V.mkE V.tys [] [] [] [] [] []
theorem Z60.eq (x0 : Int) (x1 : Int) (x2 : Int) : V.evBody Z60.E Z60.con Tryz.f178 ((x0, x1, x2) : Int × Int × Int) = Z60 x0 x1 x2 := by kernel_rfl
theorem Z60.ok : V.Valid Tryz.prog 178 Z60.con :=
  V.fo V.tab_nil Tryz.func178 (by kernel_rfl) (fun x y h => (show V.evBody Z60.E Z60.con Tryz.f178 x = _ from Z60.eq x.1 x.2.1 x.2.2).trans (V.cfl (by kernel_rfl) h))
noncomputable abbrev Z118.con : V.Con := ⟨(.cons (.int .i64) .nil), (.cons .bool .nil), fun (x : Int) => Z118 x, [], [(false, 1)], [(false, 1)], [false], []⟩
noncomputable abbrev Z118.E : V.Env := V.mkE V.tys [(178, Z60.con)] [] [] [] [] []
theorem Z118.eq (x0 : Int) : V.evBody Z118.E Z118.con Tryz.f206 ((x0) : Int) = Z118 x0 := by kernel_rfl
theorem Z118.ok : V.Valid Tryz.prog 206 Z118.con :=
  V.fo (V.tab_cons Z60.ok V.tab_nil) Tryz.func206 (by kernel_rfl) (fun x y h => (show V.evBody Z118.E Z118.con Tryz.f206 x = _ from Z118.eq x).trans (V.cfl (by kernel_rfl) h))
noncomputable abbrev Z111.con : V.Con := ⟨V.A2, (.cons .bool .nil), fun (x : V.D2) => Z111 (V.p2_0 x), [], [(true, 16)], [(false, 1)], [false], []⟩
noncomputable abbrev Z111.E : V.Env := V.mkE V.tys [] [] [] [] [] []
noncomputable abbrev Z111.kt (x0 : THead) : V.Kt Bool := V.ktOf Z111.E Z111.con Tryz.f393 (V.fl2 x0)
noncomputable abbrev Z111.s (x0 : THead) : V.St := ⟨[(0, .v true (V.lsHead x0))], []⟩
theorem Z111.v0 (x0 : THead) : V.evBody Z111.E Z111.con Tryz.f393 (V.fl2 x0) = V.evC Z111.E Tryz.f393.ntmps (V.codeOf Tryz.f393) (Z111.kt x0) (Z111.s x0) := by kernel_rfl
theorem Z111.v (x0 : THead) : V.evC Z111.E Tryz.f393.ntmps (V.codeOf Tryz.f393) (Z111.kt x0) (Z111.s x0) = Z111 x0 := by kernel_rfl
theorem Z111.eq (x0 : THead) : V.evBody Z111.E Z111.con Tryz.f393 (V.fl2 x0) = Z111 x0 := (Z111.v0 x0).trans (Z111.v x0)
theorem Z111.ok : V.Valid Tryz.prog 393 Z111.con :=
  V.fo V.tab_nil Tryz.func393 (by kernel_rfl) (fun x y h => (show V.evBody Z111.E Z111.con Tryz.f393 x = _ from Z111.eq (V.p2_0 x)).trans (V.cfl (by kernel_rfl) h))
noncomputable abbrev Z34.con : V.Con := ⟨(.cons (.sl (.cons (.int .i64) .nil)) .nil), (.cons .bool .nil), fun (x : List Int) => Z34 x, [], [(false, 1)], [(false, 1)], [false], []⟩
noncomputable abbrev Z34.E : V.Env := V.mkE V.tys [] [(4, [0, 5, 6], [])] [(4, 12)] [] [] []
noncomputable abbrev Z34.kt (x0 : List Int) : V.Kt Bool := V.ktOf Z34.E Z34.con Tryz.f330 ((x0) : List Int)
noncomputable abbrev Z34.s4 (x0 : List Int) (v4_1 : Int) (v4_2 : Int) : V.St := ⟨[(0, .v false [.val (.sl (.cons (.int .i64) .nil) x0)]), (5, .v false [.val (.int .i64 v4_1)]), (6, .v false [.val (.int .i64 v4_2)])], []⟩
theorem Z34.r4 (x0 : List Int) (R : V.St → Option Bool) (v4_1 : Int) (v4_2 : Int) : V.loopF Z34.E Tryz.f330.ntmps [1, 0, 1, 0] [] (V.codeOf Tryz.f330) (Z34.kt x0) R (Z34.s4 x0 v4_1 v4_2) = Z34.g4 x0 (fun v4_1 v4_2 => R (Z34.s4 x0 v4_1 v4_2)) v4_1 v4_2 := by kernel_rfl
theorem Z34.e4 (x0 : List Int) : ∀ (n : Nat) (v4_1 : Int) (v4_2 : Int), V.loopN (V.loopF Z34.E Tryz.f330.ntmps [1, 0, 1, 0] [] (V.codeOf Tryz.f330) (Z34.kt x0)) n (Z34.s4 x0 v4_1 v4_2) = Z34.l4 x0 n v4_1 v4_2 := by
  intro n
  induction n with
  | zero => intros; rw [V.loopN_z]; rfl
  | succ n ih =>
    intro v4_1 v4_2
    rw [V.loopN_s, Z34.r4]
    simp only [ih]
    first | exact (Z34.u4 ..).symm | rfl
theorem Z34.v (x0 : List Int) : V.evBody Z34.E Z34.con Tryz.f330 ((x0) : List Int) = Z34.b x0 (fun v4_1 v4_2 => V.loopN (V.loopF Z34.E Tryz.f330.ntmps [1, 0, 1, 0] [] (V.codeOf Tryz.f330) (Z34.kt x0)) V.KK (Z34.s4 x0 v4_1 v4_2)) := by kernel_rfl
theorem Z34.eq (x0 : List Int) : V.evBody Z34.E Z34.con Tryz.f330 ((x0) : List Int) = Z34 x0 := by
  rw [Z34.v]
  simp only [Z34.e4]
  rfl
theorem Z34.ok : V.Valid Tryz.prog 330 Z34.con :=
  V.fo V.tab_nil Tryz.func330 (by kernel_rfl) (fun x y h => (show V.evBody Z34.E Z34.con Tryz.f330 x = _ from Z34.eq x).trans (V.cfl (by kernel_rfl) h))
noncomputable abbrev Z126.con : V.Con := ⟨(.cons (.int .i64) .nil), (.cons .bool .nil), fun (x : Int) => Z126 x, [], [(false, 1)], [(false, 1)], [false], []⟩
noncomputable abbrev Z126.E : V.Env := V.mkE V.tys [(178, Z60.con)] [] [] [] [] []
theorem Z126.eq (x0 : Int) : V.evBody Z126.E Z126.con Tryz.f207 ((x0) : Int) = Z126 x0 := by kernel_rfl
theorem Z126.ok : V.Valid Tryz.prog 207 Z126.con :=
  V.fo (V.tab_cons Z60.ok V.tab_nil) Tryz.func207 (by kernel_rfl) (fun x y h => (show V.evBody Z126.E Z126.con Tryz.f207 x = _ from Z126.eq x).trans (V.cfl (by kernel_rfl) h))
noncomputable abbrev Z117.con : V.Con := ⟨(.cons (.sl (.cons (.int .i64) .nil)) (.cons (.int .i64) .nil)), (.cons .bool .nil), fun (x : List Int × Int) => Z117 x, [], [(true, 2)], [(false, 1)], [false], []⟩
noncomputable abbrev Z117.E : V.Env := V.mkE V.tys [(178, Z60.con), (207, Z126.con), (330, Z34.con)] [] [] [] [] []
theorem Z117.eq (x0 : TKeys) : V.evBody Z117.E Z117.con Tryz.f208 ((x0.1, x0.2) : List Int × Int) = Z117 x0 := by kernel_rfl
theorem Z117.ok : V.Valid Tryz.prog 208 Z117.con :=
  V.fo (V.tab_cons Z60.ok (V.tab_cons Z126.ok (V.tab_cons Z34.ok V.tab_nil))) Tryz.func208 (by kernel_rfl) (fun x y h => (show V.evBody Z117.E Z117.con Tryz.f208 x = _ from Z117.eq x).trans (V.cfl (by kernel_rfl) h))
noncomputable abbrev Z112.con : V.Con := ⟨(.cons (.sl (.cons (.int .i64) .nil)) (.cons (.int .i64) .nil)), (.cons .bool .nil), fun (x : List Int × Int) => Z112 x, [], [(true, 2)], [(false, 1)], [false], []⟩
noncomputable abbrev Z112.E : V.Env := V.mkE V.tys [] [] [] [] [] []
theorem Z112.eq (x0 : TKeys) : V.evBody Z112.E Z112.con Tryz.f226 ((x0.1, x0.2) : List Int × Int) = Z112 x0 := by kernel_rfl
theorem Z112.ok : V.Valid Tryz.prog 226 Z112.con :=
  V.fo V.tab_nil Tryz.func226 (by kernel_rfl) (fun x y h => (show V.evBody Z112.E Z112.con Tryz.f226 x = _ from Z112.eq x).trans (V.cfl (by kernel_rfl) h))
noncomputable abbrev Z167.con : V.Con := ⟨(.cons (.sl (.cons (.int .i64) .nil)) (.cons (.int .i64) .nil)), (.cons .bool .nil), fun (x : List Int × Int) => Z167 x, [], [(true, 2)], [(false, 1)], [false], []⟩
noncomputable abbrev Z167.E : V.Env := V.mkE V.tys [(208, Z117.con), (226, Z112.con)] [] [] [] [] []
theorem Z167.eq (x0 : TKeys) : V.evBody Z167.E Z167.con Tryz.f394 ((x0.1, x0.2) : List Int × Int) = Z167 x0 := by kernel_rfl
theorem Z167.ok : V.Valid Tryz.prog 394 Z167.con :=
  V.fo (V.tab_cons Z117.ok (V.tab_cons Z112.ok V.tab_nil)) Tryz.func394 (by kernel_rfl) (fun x y h => (show V.evBody Z167.E Z167.con Tryz.f394 x = _ from Z167.eq x).trans (V.cfl (by kernel_rfl) h))
noncomputable abbrev Z191.con : V.Con := ⟨(.cons (.int .i64) (.cons (.sl (.cons (.int .i64) .nil)) (.cons (.int .i64) .nil))), (.cons .bool .nil), fun (x : Int × List Int × Int) => Z191 x.1 x.2, [], [(false, 1), (true, 2)], [(false, 1)], [false], []⟩
noncomputable abbrev Z191.E : V.Env := V.mkE V.tys [(178, Z60.con), (226, Z112.con)] [] [] [] [] []
theorem Z191.eq (x0 : Int) (x1 : TKeys) : V.evBody Z191.E Z191.con Tryz.f395 ((x0, x1.1, x1.2) : Int × List Int × Int) = Z191 x0 x1 := by kernel_rfl
theorem Z191.ok : V.Valid Tryz.prog 395 Z191.con :=
  V.fo (V.tab_cons Z60.ok (V.tab_cons Z112.ok V.tab_nil)) Tryz.func395 (by kernel_rfl) (fun x y h => (show V.evBody Z191.E Z191.con Tryz.f395 x = _ from Z191.eq x.1 x.2).trans (V.cfl (by kernel_rfl) h))
noncomputable abbrev Z80.con : V.Con := ⟨V.A2, (.cons .bool .nil), fun (x : V.D2) => Z80 (V.p2_0 x), [], [(true, 16)], [(false, 1)], [false], []⟩
noncomputable abbrev Z80.E : V.Env := V.mkE V.tys [(178, Z60.con), (206, Z118.con), (208, Z117.con), (226, Z112.con), (393, Z111.con), (394, Z167.con), (395, Z191.con)] [] [] [] [] []
noncomputable abbrev Z80.kt (x0 : THead) : V.Kt Bool := V.ktOf Z80.E Z80.con Tryz.f306 (V.fl2 x0)
noncomputable abbrev Z80.s (x0 : THead) : V.St := ⟨[(0, .v true (V.lsHead x0))], []⟩
theorem Z80.v0 (x0 : THead) : V.evBody Z80.E Z80.con Tryz.f306 (V.fl2 x0) = V.evC Z80.E Tryz.f306.ntmps (V.codeOf Tryz.f306) (Z80.kt x0) (Z80.s x0) := by kernel_rfl
theorem Z80.v (x0 : THead) : V.evC Z80.E Tryz.f306.ntmps (V.codeOf Tryz.f306) (Z80.kt x0) (Z80.s x0) = Z80 x0 := by kernel_rfl
theorem Z80.eq (x0 : THead) : V.evBody Z80.E Z80.con Tryz.f306 (V.fl2 x0) = Z80 x0 := (Z80.v0 x0).trans (Z80.v x0)
theorem Z80.ok : V.Valid Tryz.prog 306 Z80.con :=
  V.fo (V.tab_cons Z60.ok (V.tab_cons Z118.ok (V.tab_cons Z117.ok (V.tab_cons Z112.ok (V.tab_cons Z111.ok (V.tab_cons Z167.ok (V.tab_cons Z191.ok V.tab_nil))))))) Tryz.func306 (by kernel_rfl) (fun x y h => (show V.evBody Z80.E Z80.con Tryz.f306 x = _ from Z80.eq (V.p2_0 x)).trans (V.cfl (by kernel_rfl) h))
noncomputable abbrev Z115.con : V.Con := ⟨(.cons (.sl (.cons (.int .i64) .nil)) (.cons (.int .i64) .nil)), (.cons (.sl (.cons (.int .i64) .nil)) .nil), fun (x : List Int × Int) => Z115 x, [], [(true, 2)], [(false, 1)], [true], []⟩
noncomputable abbrev Z115.E : V.Env := V.mkE V.tys [] [] [] [] [] []
theorem Z115.eq (x0 : TKeys) : V.evBody Z115.E Z115.con Tryz.f263 ((x0.1, x0.2) : List Int × Int) = Z115 x0 := by kernel_rfl
theorem Z115.ok : V.Valid Tryz.prog 263 Z115.con :=
  V.fo V.tab_nil Tryz.func263 (by kernel_rfl) (fun x y h => (show V.evBody Z115.E Z115.con Tryz.f263 x = _ from Z115.eq x).trans (V.cfl (by kernel_rfl) h))
noncomputable abbrev Z137.con : V.Con := ⟨(.cons (.int .i64) (.cons (.int .i64) .nil)), (.cons (.int .i64) .nil), fun (x : Int × Int) => Z137 x.1 x.2, [], [(false, 1), (false, 1)], [(false, 1)], [false], []⟩
noncomputable abbrev Z137.E : V.Env := V.mkE V.tys [(178, Z60.con)] [] [] [] [] []
theorem Z137.eq (x0 : Int) (x1 : Int) : V.evBody Z137.E Z137.con Tryz.f364 ((x0, x1) : Int × Int) = Z137 x0 x1 := by kernel_rfl
theorem Z137.ok : V.Valid Tryz.prog 364 Z137.con :=
  V.fo (V.tab_cons Z60.ok V.tab_nil) Tryz.func364 (by kernel_rfl) (fun x y h => (show V.evBody Z137.E Z137.con Tryz.f364 x = _ from Z137.eq x.1 x.2).trans (V.cfl (by kernel_rfl) h))
noncomputable abbrev Z10.con : V.Con := ⟨(.cons (.sl (.cons (.int .i64) .nil)) .nil), (.cons (.int .i64) .nil), fun (x : List Int) => Z10 x, [], [(false, 1)], [(false, 1)], [false], []⟩
noncomputable abbrev Z10.E : V.Env := V.mkE V.tys [(364, Z137.con)] [(6, [3, 6, 7, 8], [])] [] [] [] []
noncomputable abbrev Z10.kt (x0 : List Int) : V.Kt Int := V.ktOf Z10.E Z10.con Tryz.f262 ((x0) : List Int)
noncomputable abbrev Z10.s6 (x0 : List Int) (v6_0 : Int) (v6_2 : Int) (v6_3 : Int) : V.St := ⟨[(3, .v false [.val (.int .i64 v6_0)]), (6, .v false [.val (.sl (.cons (.int .i64) .nil) x0)]), (7, .v false [.val (.int .i64 v6_2)]), (8, .v false [.val (.int .i64 v6_3)])], []⟩
theorem Z10.r6 (x0 : List Int) (R : V.St → Option Int) (v6_0 : Int) (v6_2 : Int) (v6_3 : Int) : V.loopF Z10.E Tryz.f262.ntmps [1, 1, 0, 1, 0] [] (V.codeOf Tryz.f262) (Z10.kt x0) R (Z10.s6 x0 v6_0 v6_2 v6_3) = Z10.g6 x0 (fun v6_0 v6_2 v6_3 => R (Z10.s6 x0 v6_0 v6_2 v6_3)) v6_0 v6_2 v6_3 := by kernel_rfl
theorem Z10.e6 (x0 : List Int) : ∀ (n : Nat) (v6_0 : Int) (v6_2 : Int) (v6_3 : Int), V.loopN (V.loopF Z10.E Tryz.f262.ntmps [1, 1, 0, 1, 0] [] (V.codeOf Tryz.f262) (Z10.kt x0)) n (Z10.s6 x0 v6_0 v6_2 v6_3) = Z10.l6 x0 n v6_0 v6_2 v6_3 := by
  intro n
  induction n with
  | zero => intros; rw [V.loopN_z]; rfl
  | succ n ih =>
    intro v6_0 v6_2 v6_3
    rw [V.loopN_s, Z10.r6]
    simp only [ih]
    first | exact (Z10.u6 ..).symm | rfl
theorem Z10.v (x0 : List Int) : V.evBody Z10.E Z10.con Tryz.f262 ((x0) : List Int) = Z10.b x0 (fun v6_0 v6_2 v6_3 => V.loopN (V.loopF Z10.E Tryz.f262.ntmps [1, 1, 0, 1, 0] [] (V.codeOf Tryz.f262) (Z10.kt x0)) V.KK (Z10.s6 x0 v6_0 v6_2 v6_3)) := by kernel_rfl
theorem Z10.eq (x0 : List Int) : V.evBody Z10.E Z10.con Tryz.f262 ((x0) : List Int) = Z10 x0 := by
  rw [Z10.v]
  simp only [Z10.e6]
  rfl
theorem Z10.ok : V.Valid Tryz.prog 262 Z10.con :=
  V.fo (V.tab_cons Z137.ok V.tab_nil) Tryz.func262 (by kernel_rfl) (fun x y h => (show V.evBody Z10.E Z10.con Tryz.f262 x = _ from Z10.eq x).trans (V.cfl (by kernel_rfl) h))
noncomputable abbrev Z166.con : V.Con := ⟨(.cons (.sl (.cons (.int .i64) .nil)) (.cons (.int .i64) (.cons (.int .i64) .nil))), (.cons (.int .i64) .nil), fun (x : List Int × Int × Int) => Z166 (x.1, x.2.1) x.2.2, [], [(true, 2), (false, 1)], [(false, 1)], [false], []⟩
noncomputable abbrev Z166.E : V.Env := V.mkE V.tys [(262, Z10.con), (263, Z115.con)] [] [] [] [] []
theorem Z166.eq (x0 : TKeys) (x1 : Int) : V.evBody Z166.E Z166.con Tryz.f109 ((x0.1, x0.2, x1) : List Int × Int × Int) = Z166 x0 x1 := by kernel_rfl
theorem Z166.ok : V.Valid Tryz.prog 109 Z166.con :=
  V.fo (V.tab_cons Z10.ok (V.tab_cons Z115.ok V.tab_nil)) Tryz.func109 (by kernel_rfl) (fun x y h => (show V.evBody Z166.E Z166.con Tryz.f109 x = _ from Z166.eq (x.1, x.2.1) x.2.2).trans (V.cfl (by kernel_rfl) h))
noncomputable abbrev Z146.con : V.Con := ⟨(.cons .bool .nil), (.cons (.int .i64) .nil), fun (x : Bool) => Z146 x, [], [(false, 1)], [(false, 1)], [false], []⟩
noncomputable abbrev Z146.E : V.Env := V.mkE V.tys [] [] [] [] [] []
theorem Z146.eq (x0 : Bool) : V.evBody Z146.E Z146.con Tryz.f322 ((x0) : Bool) = Z146 x0 := by kernel_rfl
theorem Z146.ok : V.Valid Tryz.prog 322 Z146.con :=
  V.fo V.tab_nil Tryz.func322 (by kernel_rfl) (fun x y h => (show V.evBody Z146.E Z146.con Tryz.f322 x = _ from Z146.eq x).trans (V.cfl (by kernel_rfl) h))
noncomputable abbrev Z77.con : V.Con := ⟨(.cons (.sl (.cons (.int .i64) .nil)) (.cons (.int .i64) .nil)), (.cons (.sl (.cons (.int .i64) .nil)) .nil), fun (x : List Int × Int) => Z77 x.1 x.2, [], [(false, 1), (false, 1)], [(false, 1)], [true], [0]⟩
noncomputable abbrev Z77.E : V.Env := V.mkE V.tys [] [(7, [0, 1], [])] [] [] [] []
noncomputable abbrev Z77.kt (x0 : List Int) (x1 : Int) : V.Kt (List Int) := V.ktOf Z77.E Z77.con Tryz.f400 ((x0, x1) : List Int × Int)
noncomputable abbrev Z77.s7 (x1 : Int) : V.St := ⟨[(0, .v false [.nil0]), (1, .v false [.val (.int .i64 x1)])], []⟩
theorem Z77.r7 (x0 : List Int) (x1 : Int) : V.joinF Z77.E Tryz.f400.ntmps [1] [] (V.codeOf Tryz.f400) (Z77.kt x0 x1) (Z77.s7 x1) = Z77.g7 x1 := by kernel_rfl
theorem Z77.e7 (x0 : List Int) (x1 : Int) : V.jn (V.joinF Z77.E Tryz.f400.ntmps [1] [] (V.codeOf Tryz.f400) (Z77.kt x0 x1)) (Z77.s7 x1) = Z77.l7 x1 := by
  rw [V.jn_eq, Z77.r7]
  rfl
theorem Z77.v (x0 : List Int) (x1 : Int) : V.evBody Z77.E Z77.con Tryz.f400 ((x0, x1) : List Int × Int) = Z77.b x0 x1 (V.jn (V.joinF Z77.E Tryz.f400.ntmps [1] [] (V.codeOf Tryz.f400) (Z77.kt x0 x1)) (Z77.s7 x1)) := by kernel_rfl
theorem Z77.eq (x0 : List Int) (x1 : Int) : V.evBody Z77.E Z77.con Tryz.f400 ((x0, x1) : List Int × Int) = Z77 x0 x1 := by
  rw [Z77.v]
  simp only [Z77.e7]
  rfl
theorem Z77.ok : V.Valid Tryz.prog 400 Z77.con :=
  V.fo V.tab_nil Tryz.func400 (by kernel_rfl) (fun x y h => (show V.evBody Z77.E Z77.con Tryz.f400 x = _ from Z77.eq x.1 x.2).trans (V.cfl (by kernel_rfl) h))
noncomputable abbrev Z4.con : V.Con := ⟨(.cons (.sl (.cons (.sl (.cons (.int .i64) .nil)) .nil)) .nil), (.cons (.sl (.cons (.int .i64) .nil)) .nil), fun (x : List (List Int)) => Z4 x, [], [(false, 1)], [(false, 1)], [true], []⟩
noncomputable abbrev Z4.E : V.Env := V.mkE V.tys [(400, Z77.con)] [(6, [0, 3, 9, 10, 11], []), (22, [6, 25, 26, 27], [])] [] [] [] []
noncomputable abbrev Z4.kt (x0 : List (List Int)) : V.Kt (List Int) := V.ktOf Z4.E Z4.con Tryz.f321 ((x0) : List (List Int))
noncomputable abbrev Z4.s22 (x0 : List (List Int)) (v22_1 : Int) (v22_2 : Int) (v22_3 : List Int) : V.St := ⟨[(6, .v false [.ref 64000140800384]), (25, .v false [.val (.sl (.cons (.sl (.cons (.int .i64) .nil)) .nil) x0)]), (26, .v false [.val (.int .i64 v22_1)]), (27, .v false [.val (.int .i64 v22_2)])], [(64000140800384, .row (.cons (.int .i64) .nil) true v22_3)]⟩
noncomputable abbrev Z4.s6 (x0 : List (List Int)) (v6_1 : Int) (v6_3 : Int) (v6_4 : Int) : V.St := ⟨[(0, .v false [.val (.sl (.cons (.sl (.cons (.int .i64) .nil)) .nil) x0)]), (3, .v false [.val (.int .i64 v6_1)]), (9, .v false [.val (.sl (.cons (.sl (.cons (.int .i64) .nil)) .nil) x0)]), (10, .v false [.val (.int .i64 v6_3)]), (11, .v false [.val (.int .i64 v6_4)])], []⟩
theorem Z4.r22 (x0 : List (List Int)) (R : V.St → Option (List Int)) (v22_1 : Int) (v22_2 : Int) (v22_3 : List Int) : V.loopF Z4.E Tryz.f321.ntmps [1, 1, 1, 1, 0, 1, 0] [] (V.codeOf Tryz.f321) (Z4.kt x0) R (Z4.s22 x0 v22_1 v22_2 v22_3) = Z4.g22 x0 (fun v22_1 v22_2 v22_3 => R (Z4.s22 x0 v22_1 v22_2 v22_3)) v22_1 v22_2 v22_3 := by kernel_rfl
theorem Z4.e22 (x0 : List (List Int)) : ∀ (n : Nat) (v22_1 : Int) (v22_2 : Int) (v22_3 : List Int), V.loopN (V.loopF Z4.E Tryz.f321.ntmps [1, 1, 1, 1, 0, 1, 0] [] (V.codeOf Tryz.f321) (Z4.kt x0)) n (Z4.s22 x0 v22_1 v22_2 v22_3) = Z4.l22 x0 n v22_1 v22_2 v22_3 := by
  intro n
  induction n with
  | zero => intros; rw [V.loopN_z]; rfl
  | succ n ih =>
    intro v22_1 v22_2 v22_3
    rw [V.loopN_s, Z4.r22]
    simp only [ih]
    first | exact (Z4.u22 ..).symm | rfl
theorem Z4.r6 (x0 : List (List Int)) (R : V.St → Option (List Int)) (v6_1 : Int) (v6_3 : Int) (v6_4 : Int) : V.loopF Z4.E Tryz.f321.ntmps [1, 1, 0, 1, 0] [] (V.codeOf Tryz.f321) (Z4.kt x0) R (Z4.s6 x0 v6_1 v6_3 v6_4) = Z4.g6 x0 (fun v6_1 v6_3 v6_4 => R (Z4.s6 x0 v6_1 v6_3 v6_4)) (fun v22_1 v22_2 v22_3 => V.loopN (V.loopF Z4.E Tryz.f321.ntmps [1, 1, 1, 1, 0, 1, 0] [] (V.codeOf Tryz.f321) (Z4.kt x0)) V.KK (Z4.s22 x0 v22_1 v22_2 v22_3)) v6_1 v6_3 v6_4 := by kernel_rfl
theorem Z4.e6 (x0 : List (List Int)) : ∀ (n : Nat) (v6_1 : Int) (v6_3 : Int) (v6_4 : Int), V.loopN (V.loopF Z4.E Tryz.f321.ntmps [1, 1, 0, 1, 0] [] (V.codeOf Tryz.f321) (Z4.kt x0)) n (Z4.s6 x0 v6_1 v6_3 v6_4) = Z4.l6 x0 n v6_1 v6_3 v6_4 := by
  intro n
  induction n with
  | zero => intros; rw [V.loopN_z]; rfl
  | succ n ih =>
    intro v6_1 v6_3 v6_4
    rw [V.loopN_s, Z4.r6]
    simp only [Z4.e22, ih]
    first | exact (Z4.u6 ..).symm | rfl
theorem Z4.v (x0 : List (List Int)) : V.evBody Z4.E Z4.con Tryz.f321 ((x0) : List (List Int)) = Z4.b x0 (fun v6_1 v6_3 v6_4 => V.loopN (V.loopF Z4.E Tryz.f321.ntmps [1, 1, 0, 1, 0] [] (V.codeOf Tryz.f321) (Z4.kt x0)) V.KK (Z4.s6 x0 v6_1 v6_3 v6_4)) := by kernel_rfl
theorem Z4.eq (x0 : List (List Int)) : V.evBody Z4.E Z4.con Tryz.f321 ((x0) : List (List Int)) = Z4 x0 := by
  rw [Z4.v]
  simp only [Z4.e6]
  rfl
theorem Z4.ok : V.Valid Tryz.prog 321 Z4.con :=
  V.fo (V.tab_cons Z77.ok V.tab_nil) Tryz.func321 (by kernel_rfl) (fun x y h => (show V.evBody Z4.E Z4.con Tryz.f321 x = _ from Z4.eq x).trans (V.cfl (by kernel_rfl) h))
noncomputable abbrev Z84.con : V.Con := ⟨V.A2, (.cons (.sl (.cons (.int .i64) .nil)) .nil), fun (x : V.D2) => Z84 (V.p2_0 x), [], [(true, 16)], [(false, 1)], [true], []⟩
noncomputable abbrev Z84.E : V.Env := V.mkE V.tys [(263, Z115.con), (321, Z4.con), (322, Z146.con)] [] [(1, 33)] [] [] []
noncomputable abbrev Z84.kt (x0 : THead) : V.Kt (List Int) := V.ktOf Z84.E Z84.con Tryz.f188 (V.fl2 x0)
noncomputable abbrev Z84.s (x0 : THead) : V.St := ⟨[(0, .v true (V.lsHead x0))], []⟩
theorem Z84.v0 (x0 : THead) : V.evBody Z84.E Z84.con Tryz.f188 (V.fl2 x0) = V.evC Z84.E Tryz.f188.ntmps (V.codeOf Tryz.f188) (Z84.kt x0) (Z84.s x0) := by kernel_rfl
theorem Z84.v (x0 : THead) : V.evC Z84.E Tryz.f188.ntmps (V.codeOf Tryz.f188) (Z84.kt x0) (Z84.s x0) = Z84 x0 := by kernel_rfl
theorem Z84.eq (x0 : THead) : V.evBody Z84.E Z84.con Tryz.f188 (V.fl2 x0) = Z84 x0 := (Z84.v0 x0).trans (Z84.v x0)
theorem Z84.ok : V.Valid Tryz.prog 188 Z84.con :=
  V.fo (V.tab_cons Z115.ok (V.tab_cons Z4.ok (V.tab_cons Z146.ok V.tab_nil))) Tryz.func188 (by kernel_rfl) (fun x y h => (show V.evBody Z84.E Z84.con Tryz.f188 x = _ from Z84.eq (V.p2_0 x)).trans (V.cfl (by kernel_rfl) h))
noncomputable abbrev Z164.con : V.Con := ⟨(.cons (.int .i64) (.cons (.sl (.cons (.int .i64) .nil)) .nil)), (.cons (.int .i64) .nil), fun (x : Int × List Int) => Z164 x.1 x.2, [], [(false, 1), (false, 1)], [(false, 1)], [false], []⟩
noncomputable abbrev Z164.E : V.Env := V.mkE V.tys [(262, Z10.con), (321, Z4.con)] [] [] [128320] [] []
theorem Z164.eq (x0 : Int) (x1 : List Int) : V.evBody Z164.E Z164.con Tryz.f327 ((x0, x1) : Int × List Int) = Z164 x0 x1 := by kernel_rfl
theorem Z164.ok : V.Valid Tryz.prog 327 Z164.con :=
  V.fo (V.tab_cons Z10.ok (V.tab_cons Z4.ok V.tab_nil)) Tryz.func327 (by kernel_rfl) (fun x y h => (show V.evBody Z164.E Z164.con Tryz.f327 x = _ from Z164.eq x.1 x.2).trans (V.cfl (by kernel_rfl) h))
noncomputable abbrev Z130.con : V.Con := ⟨(.cons (.int .i64) (.cons (.sl (.cons (.int .i64) .nil)) .nil)), (.cons (.int .i64) .nil), fun (x : Int × List Int) => Z130 x.1 x.2, [], [(false, 1), (false, 1)], [(false, 1)], [false], []⟩
noncomputable abbrev Z130.E : V.Env := V.mkE V.tys [(327, Z164.con)] [] [] [] [] []
theorem Z130.eq (x0 : Int) (x1 : List Int) : V.evBody Z130.E Z130.con Tryz.f197 ((x0, x1) : Int × List Int) = Z130 x0 x1 := by kernel_rfl
theorem Z130.ok : V.Valid Tryz.prog 197 Z130.con :=
  V.fo (V.tab_cons Z164.ok V.tab_nil) Tryz.func197 (by kernel_rfl) (fun x y h => (show V.evBody Z130.E Z130.con Tryz.f197 x = _ from Z130.eq x.1 x.2).trans (V.cfl (by kernel_rfl) h))
noncomputable abbrev Z162.con : V.Con := ⟨(.cons (.int .i64) (.cons (.int .i64) (.cons (.sl (.cons (.int .i64) .nil)) .nil))), (.cons .bool .nil), fun (x : Int × Int × List Int) => Z162 (x.1, x.2.1) x.2.2, [], [(true, 2), (false, 1)], [(false, 1)], [false], []⟩
noncomputable abbrev Z162.E : V.Env := V.mkE V.tys [(197, Z130.con), (207, Z126.con)] [] [(1, 10)] [] [] []
theorem Z162.eq (x0 : TSig) (x1 : List Int) : V.evBody Z162.E Z162.con Tryz.f270 ((x0.1, x0.2, x1) : Int × Int × List Int) = Z162 x0 x1 := by kernel_rfl
theorem Z162.ok : V.Valid Tryz.prog 270 Z162.con :=
  V.fo (V.tab_cons Z130.ok (V.tab_cons Z126.ok V.tab_nil)) Tryz.func270 (by kernel_rfl) (fun x y h => (show V.evBody Z162.E Z162.con Tryz.f270 x = _ from Z162.eq (x.1, x.2.1) x.2.2).trans (V.cfl (by kernel_rfl) h))
noncomputable abbrev Z189.con : V.Con := ⟨(.cons (.int .i64) (.cons (.int .i64) (.cons (.ptr (.cons (.int .i64) .nil)) (.cons (.ptr (.cons (.sl (.cons (.int .i64) .nil)) .nil)) .nil)))), (.cons .bool .nil), fun (x : Int × Int × Int × List Int) => Z189 (x.1, x.2.1) x.2.2.1 x.2.2.2, [], [(true, 2), (false, 1), (false, 1)], [(false, 1)], [false], []⟩
noncomputable abbrev Z189.E : V.Env := V.mkE V.tys [(270, Z162.con)] [] [] [] [] []
theorem Z189.eq (x0 : TSig) (x1 : Int) (x2 : List Int) : V.evBody Z189.E Z189.con Tryz.f335 ((x0.1, x0.2, x1, x2) : Int × Int × Int × List Int) = Z189 x0 x1 x2 := by kernel_rfl
theorem Z189.ok : V.Valid Tryz.prog 335 Z189.con :=
  V.fo (V.tab_cons Z162.ok V.tab_nil) Tryz.func335 (by kernel_rfl) (fun x y h => (show V.evBody Z189.E Z189.con Tryz.f335 x = _ from Z189.eq (x.1, x.2.1) x.2.2.1 x.2.2.2).trans (V.cfl (by kernel_rfl) h))
noncomputable abbrev Z25.con : V.Con := ⟨(.cons (.sl (.cons (.int .i64) (.cons (.int .i64) .nil))) (.cons (.fn 335 false .nil (.cons (.ptr (.cons (.int .i64) .nil)) (.cons (.ptr (.cons (.sl (.cons (.int .i64) .nil)) .nil)) .nil))) .nil)), (.cons (.int .i64) .nil), fun (x : List TSig × (Unit) × (Int × List Int)) => Z25 x.1 x.2, [], [(false, 1), (false, 1)], [(false, 1)], [false], []⟩
noncomputable abbrev Z25.E : V.Env := V.mkE V.tys [(335, Z189.con)] [(4, [0, 1, 7, 8], [])] [] [] [] []
noncomputable abbrev Z25.kt (x0 : List TSig) (x1 : (Unit) × (Int × List Int)) : V.Kt Int := V.ktOf Z25.E Z25.con Tryz.f402 ((x0, x1) : List TSig × (Unit) × (Int × List Int))
noncomputable abbrev Z25.s4 (x0 : List TSig) (x1 : (Unit) × (Int × List Int)) (v4_2 : Int) (v4_3 : Int) : V.St := ⟨[(0, .v false [.val (.sl (.cons (.int .i64) (.cons (.int .i64) .nil)) x0)]), (1, .v false [.val (.fn 335 false .nil (.cons (.ptr (.cons (.int .i64) .nil)) (.cons (.ptr (.cons (.sl (.cons (.int .i64) .nil)) .nil)) .nil)) () x1.2)]), (7, .v false [.val (.int .i64 v4_2)]), (8, .v false [.val (.int .i64 v4_3)])], []⟩
theorem Z25.r4 (x0 : List TSig) (x1 : (Unit) × (Int × List Int)) (R : V.St → Option Int) (v4_2 : Int) (v4_3 : Int) : V.loopF Z25.E Tryz.f402.ntmps [1, 0, 1, 0] [] (V.codeOf Tryz.f402) (Z25.kt x0 x1) R (Z25.s4 x0 x1 v4_2 v4_3) = Z25.g4 x0 x1 (fun v4_2 v4_3 => R (Z25.s4 x0 x1 v4_2 v4_3)) v4_2 v4_3 := by kernel_rfl
theorem Z25.e4 (x0 : List TSig) (x1 : (Unit) × (Int × List Int)) : ∀ (n : Nat) (v4_2 : Int) (v4_3 : Int), V.loopN (V.loopF Z25.E Tryz.f402.ntmps [1, 0, 1, 0] [] (V.codeOf Tryz.f402) (Z25.kt x0 x1)) n (Z25.s4 x0 x1 v4_2 v4_3) = Z25.l4 x0 x1 n v4_2 v4_3 := by
  intro n
  induction n with
  | zero => intros; rw [V.loopN_z]; rfl
  | succ n ih =>
    intro v4_2 v4_3
    rw [V.loopN_s, Z25.r4]
    simp only [ih]
    first | exact (Z25.u4 ..).symm | rfl
theorem Z25.v (x0 : List TSig) (x1 : (Unit) × (Int × List Int)) : V.evBody Z25.E Z25.con Tryz.f402 ((x0, x1) : List TSig × (Unit) × (Int × List Int)) = Z25.b x0 x1 (fun v4_2 v4_3 => V.loopN (V.loopF Z25.E Tryz.f402.ntmps [1, 0, 1, 0] [] (V.codeOf Tryz.f402) (Z25.kt x0 x1)) V.KK (Z25.s4 x0 x1 v4_2 v4_3)) := by kernel_rfl
theorem Z25.eq (x0 : List TSig) (x1 : (Unit) × (Int × List Int)) : V.evBody Z25.E Z25.con Tryz.f402 ((x0, x1) : List TSig × (Unit) × (Int × List Int)) = Z25 x0 x1 := by
  rw [Z25.v]
  simp only [Z25.e4]
  rfl
theorem Z25.ok : V.Valid Tryz.prog 402 Z25.con :=
  V.fo (V.tab_cons Z189.ok V.tab_nil) Tryz.func402 (by kernel_rfl) (fun x y h => (show V.evBody Z25.E Z25.con Tryz.f402 x = _ from Z25.eq x.1 x.2).trans (V.cfl (by kernel_rfl) h))
noncomputable abbrev Z175.con : V.Con := ⟨(.cons (.sl (.cons (.int .i64) (.cons (.int .i64) .nil))) (.cons (.fn 335 false .nil (.cons (.ptr (.cons (.int .i64) .nil)) (.cons (.ptr (.cons (.sl (.cons (.int .i64) .nil)) .nil)) .nil))) .nil)), (.cons .bool .nil), fun (x : List TSig × (Unit) × (Int × List Int)) => Z175 x.1 x.2, [], [(false, 1), (false, 1)], [(false, 1)], [false], []⟩
noncomputable abbrev Z175.E : V.Env := V.mkE V.tys [(402, Z25.con)] [] [] [] [] []
theorem Z175.eq (x0 : List TSig) (x1 : (Unit) × (Int × List Int)) : V.evBody Z175.E Z175.con Tryz.f334 ((x0, x1) : List TSig × (Unit) × (Int × List Int)) = Z175 x0 x1 := by kernel_rfl
theorem Z175.ok : V.Valid Tryz.prog 334 Z175.con :=
  V.fo (V.tab_cons Z25.ok V.tab_nil) Tryz.func334 (by kernel_rfl) (fun x y h => (show V.evBody Z175.E Z175.con Tryz.f334 x = _ from Z175.eq x.1 x.2).trans (V.cfl (by kernel_rfl) h))
noncomputable abbrev Z32.con : V.Con := ⟨(.cons (.sl (.cons (.int .i64) .nil)) (.cons (.int .i64) (.cons (.sl (.cons (.int .i64) .nil)) (.cons (.sl (.cons (.int .i64) (.cons (.int .i64) .nil))) .nil)))), (.cons (.int .i64) .nil), fun (x : List Int × Int × List Int × List TSig) => Z32 (x.1, x.2.1) x.2.2.1 x.2.2.2, [], [(true, 2), (false, 1), (false, 1)], [(false, 1)], [false], []⟩
noncomputable abbrev Z32.E : V.Env := V.mkE V.tys [(334, Z175.con)] [(6, [2, 4, 7, 11, 12, 13], [])] [] [] [] []
noncomputable abbrev Z32.kt (x0 : TKeys) (x1 : List Int) (x2 : List TSig) : V.Kt Int := V.ktOf Z32.E Z32.con Tryz.f212 ((x0.1, x0.2, x1, x2) : List Int × Int × List Int × List TSig)
noncomputable abbrev Z32.s6 (x0 : TKeys) (x1 : List Int) (x2 : List TSig) (v6_1 : Int) (v6_3 : Int) (v6_4 : Int) : V.St := ⟨[(2, .v false [.val (.sl (.cons (.int .i64) (.cons (.int .i64) .nil)) x2)]), (4, .v false [.ptr 64064 0]), (7, .v false [.val (.int .i64 v6_1)]), (11, .v false [.val (.sl (.cons (.int .i64) .nil) x0.1)]), (12, .v false [.val (.int .i64 v6_3)]), (13, .v false [.val (.int .i64 v6_4)])], [(64064, .box [.val (.sl (.cons (.int .i64) .nil) x1)])]⟩
theorem Z32.r6 (x0 : TKeys) (x1 : List Int) (x2 : List TSig) (R : V.St → Option Int) (v6_1 : Int) (v6_3 : Int) (v6_4 : Int) : V.loopF Z32.E Tryz.f212.ntmps [1, 1, 0, 1, 0] [] (V.codeOf Tryz.f212) (Z32.kt x0 x1 x2) R (Z32.s6 x0 x1 x2 v6_1 v6_3 v6_4) = Z32.g6 x0 x1 x2 (fun v6_1 v6_3 v6_4 => R (Z32.s6 x0 x1 x2 v6_1 v6_3 v6_4)) v6_1 v6_3 v6_4 := by kernel_rfl
theorem Z32.e6 (x0 : TKeys) (x1 : List Int) (x2 : List TSig) : ∀ (n : Nat) (v6_1 : Int) (v6_3 : Int) (v6_4 : Int), V.loopN (V.loopF Z32.E Tryz.f212.ntmps [1, 1, 0, 1, 0] [] (V.codeOf Tryz.f212) (Z32.kt x0 x1 x2)) n (Z32.s6 x0 x1 x2 v6_1 v6_3 v6_4) = Z32.l6 x0 x1 x2 n v6_1 v6_3 v6_4 := by
  intro n
  induction n with
  | zero => intros; rw [V.loopN_z]; rfl
  | succ n ih =>
    intro v6_1 v6_3 v6_4
    rw [V.loopN_s, Z32.r6]
    simp only [ih]
    first | exact (Z32.u6 ..).symm | rfl
theorem Z32.v (x0 : TKeys) (x1 : List Int) (x2 : List TSig) : V.evBody Z32.E Z32.con Tryz.f212 ((x0.1, x0.2, x1, x2) : List Int × Int × List Int × List TSig) = Z32.b x0 x1 x2 (fun v6_1 v6_3 v6_4 => V.loopN (V.loopF Z32.E Tryz.f212.ntmps [1, 1, 0, 1, 0] [] (V.codeOf Tryz.f212) (Z32.kt x0 x1 x2)) V.KK (Z32.s6 x0 x1 x2 v6_1 v6_3 v6_4)) := by kernel_rfl
theorem Z32.eq (x0 : TKeys) (x1 : List Int) (x2 : List TSig) : V.evBody Z32.E Z32.con Tryz.f212 ((x0.1, x0.2, x1, x2) : List Int × Int × List Int × List TSig) = Z32 x0 x1 x2 := by
  rw [Z32.v]
  simp only [Z32.e6]
  rfl
theorem Z32.ok : V.Valid Tryz.prog 212 Z32.con :=
  V.fo (V.tab_cons Z175.ok V.tab_nil) Tryz.func212 (by kernel_rfl) (fun x y h => (show V.evBody Z32.E Z32.con Tryz.f212 x = _ from Z32.eq (x.1, x.2.1) x.2.2.1 x.2.2.2).trans (V.cfl (by kernel_rfl) h))
noncomputable abbrev Z163.con : V.Con := ⟨(.cons (.sl (.cons (.int .i64) .nil)) (.cons (.int .i64) (.cons (.sl (.cons (.int .i64) .nil)) (.cons (.sl (.cons (.int .i64) (.cons (.int .i64) .nil))) .nil)))), (.cons .bool .nil), fun (x : List Int × Int × List Int × List TSig) => Z163 (x.1, x.2.1) x.2.2.1 x.2.2.2, [], [(true, 2), (false, 1), (false, 1)], [(false, 1)], [false], []⟩
noncomputable abbrev Z163.E : V.Env := V.mkE V.tys [(208, Z117.con), (212, Z32.con)] [] [(1, 9)] [] [] []
theorem Z163.eq (x0 : TKeys) (x1 : List Int) (x2 : List TSig) : V.evBody Z163.E Z163.con Tryz.f399 ((x0.1, x0.2, x1, x2) : List Int × Int × List Int × List TSig) = Z163 x0 x1 x2 := by kernel_rfl
theorem Z163.ok : V.Valid Tryz.prog 399 Z163.con :=
  V.fo (V.tab_cons Z117.ok (V.tab_cons Z32.ok V.tab_nil)) Tryz.func399 (by kernel_rfl) (fun x y h => (show V.evBody Z163.E Z163.con Tryz.f399 x = _ from Z163.eq (x.1, x.2.1) x.2.2.1 x.2.2.2).trans (V.cfl (by kernel_rfl) h))
noncomputable abbrev Z81.con : V.Con := ⟨V.A12, (.cons .bool .nil), fun (x : V.D12) => Z81 (V.p12_0 x) (V.p12_1 x), [], [(true, 17), (true, 2)], [(false, 1)], [false], []⟩
noncomputable abbrev Z81.E : V.Env := V.mkE V.tys [(188, Z84.con), (399, Z163.con)] [] [(1, 6)] [] [] []
noncomputable abbrev Z81.kt (x0 : TSigned) (x1 : TKeys) : V.Kt Bool := V.ktOf Z81.E Z81.con Tryz.f317 (V.fl12 x0 x1)
noncomputable abbrev Z81.s (x0 : TSigned) (x1 : TKeys) : V.St := ⟨[(0, .v true (V.lsSigned x0)), (1, .v true [.val (.sl (.cons (.int .i64) .nil) x1.1), .val (.int .i64 x1.2)])], []⟩
theorem Z81.v0 (x0 : TSigned) (x1 : TKeys) : V.evBody Z81.E Z81.con Tryz.f317 (V.fl12 x0 x1) = V.evC Z81.E Tryz.f317.ntmps (V.codeOf Tryz.f317) (Z81.kt x0 x1) (Z81.s x0 x1) := by kernel_rfl
theorem Z81.v (x0 : TSigned) (x1 : TKeys) : V.evC Z81.E Tryz.f317.ntmps (V.codeOf Tryz.f317) (Z81.kt x0 x1) (Z81.s x0 x1) = Z81 x0 x1 := by kernel_rfl
theorem Z81.eq (x0 : TSigned) (x1 : TKeys) : V.evBody Z81.E Z81.con Tryz.f317 (V.fl12 x0 x1) = Z81 x0 x1 := (Z81.v0 x0 x1).trans (Z81.v x0 x1)
theorem Z81.ok : V.Valid Tryz.prog 317 Z81.con :=
  V.fo (V.tab_cons Z84.ok (V.tab_cons Z163.ok V.tab_nil)) Tryz.func317 (by kernel_rfl) (fun x y h => (show V.evBody Z81.E Z81.con Tryz.f317 x = _ from Z81.eq (V.p12_0 x) (V.p12_1 x)).trans (V.cfl (by kernel_rfl) h))
noncomputable abbrev Z97.con : V.Con := ⟨V.A3, (.cons .bool .nil), fun (x : V.D3) => Z97 (V.p3_0 x), [], [(true, 17)], [(false, 1)], [false], []⟩
noncomputable abbrev Z97.E : V.Env := V.mkE V.tys [(109, Z166.con), (306, Z80.con), (317, Z81.con)] [] [(2, 31)] [] [] []
noncomputable abbrev Z97.kt (x0 : TSigned) : V.Kt Bool := V.ktOf Z97.E Z97.con Tryz.f180 (V.fl3 x0)
noncomputable abbrev Z97.s (x0 : TSigned) : V.St := ⟨[(0, .v true (V.lsSigned x0))], []⟩
theorem Z97.v0 (x0 : TSigned) : V.evBody Z97.E Z97.con Tryz.f180 (V.fl3 x0) = V.evC Z97.E Tryz.f180.ntmps (V.codeOf Tryz.f180) (Z97.kt x0) (Z97.s x0) := by kernel_rfl
theorem Z97.v (x0 : TSigned) : V.evC Z97.E Tryz.f180.ntmps (V.codeOf Tryz.f180) (Z97.kt x0) (Z97.s x0) = Z97 x0 := by kernel_rfl
theorem Z97.eq (x0 : TSigned) : V.evBody Z97.E Z97.con Tryz.f180 (V.fl3 x0) = Z97 x0 := (Z97.v0 x0).trans (Z97.v x0)
theorem Z97.ok : V.Valid Tryz.prog 180 Z97.con :=
  V.fo (V.tab_cons Z166.ok (V.tab_cons Z80.ok (V.tab_cons Z81.ok V.tab_nil))) Tryz.func180 (by kernel_rfl) (fun x y h => (show V.evBody Z97.E Z97.con Tryz.f180 x = _ from Z97.eq (V.p3_0 x)).trans (V.cfl (by kernel_rfl) h))
noncomputable abbrev Z89.con : V.Con := ⟨V.A2, (.cons (.int .i64) .nil), fun (x : V.D2) => Z89 (V.p2_0 x), [], [(true, 16)], [(false, 1)], [false], []⟩
noncomputable abbrev Z89.E : V.Env := V.mkE V.tys [(188, Z84.con), (262, Z10.con)] [] [] [] [] []
noncomputable abbrev Z89.kt (x0 : THead) : V.Kt Int := V.ktOf Z89.E Z89.con Tryz.f215 (V.fl2 x0)
noncomputable abbrev Z89.s (x0 : THead) : V.St := ⟨[(0, .v true (V.lsHead x0))], []⟩
theorem Z89.v0 (x0 : THead) : V.evBody Z89.E Z89.con Tryz.f215 (V.fl2 x0) = V.evC Z89.E Tryz.f215.ntmps (V.codeOf Tryz.f215) (Z89.kt x0) (Z89.s x0) := by kernel_rfl
theorem Z89.v (x0 : THead) : V.evC Z89.E Tryz.f215.ntmps (V.codeOf Tryz.f215) (Z89.kt x0) (Z89.s x0) = Z89 x0 := by kernel_rfl
theorem Z89.eq (x0 : THead) : V.evBody Z89.E Z89.con Tryz.f215 (V.fl2 x0) = Z89 x0 := (Z89.v0 x0).trans (Z89.v x0)
theorem Z89.ok : V.Valid Tryz.prog 215 Z89.con :=
  V.fo (V.tab_cons Z84.ok (V.tab_cons Z10.ok V.tab_nil)) Tryz.func215 (by kernel_rfl) (fun x y h => (show V.evBody Z89.E Z89.con Tryz.f215 x = _ from Z89.eq (V.p2_0 x)).trans (V.cfl (by kernel_rfl) h))
noncomputable abbrev Z101.con : V.Con := ⟨V.A4, (.cons .bool .nil), fun (x : V.D4) => Z101 (V.p4_0 x) (V.p4_1 x), [], [(true, 16), (true, 16)], [(false, 1)], [false], []⟩
noncomputable abbrev Z101.E : V.Env := V.mkE V.tys [(215, Z89.con)] [] [(1, 25)] [] [] []
noncomputable abbrev Z101.kt (x0 : THead) (x1 : THead) : V.Kt Bool := V.ktOf Z101.E Z101.con Tryz.f307 (V.fl4 x0 x1)
noncomputable abbrev Z101.s (x0 : THead) (x1 : THead) : V.St := ⟨[(0, .v true (V.lsHead x0)), (1, .v true (V.lsHead x1))], []⟩
theorem Z101.v0 (x0 : THead) (x1 : THead) : V.evBody Z101.E Z101.con Tryz.f307 (V.fl4 x0 x1) = V.evC Z101.E Tryz.f307.ntmps (V.codeOf Tryz.f307) (Z101.kt x0 x1) (Z101.s x0 x1) := by kernel_rfl
theorem Z101.v (x0 : THead) (x1 : THead) : V.evC Z101.E Tryz.f307.ntmps (V.codeOf Tryz.f307) (Z101.kt x0 x1) (Z101.s x0 x1) = Z101 x0 x1 := by kernel_rfl
theorem Z101.eq (x0 : THead) (x1 : THead) : V.evBody Z101.E Z101.con Tryz.f307 (V.fl4 x0 x1) = Z101 x0 x1 := (Z101.v0 x0 x1).trans (Z101.v x0 x1)
theorem Z101.ok : V.Valid Tryz.prog 307 Z101.con :=
  V.fo (V.tab_cons Z89.ok V.tab_nil) Tryz.func307 (by kernel_rfl) (fun x y h => (show V.evBody Z101.E Z101.con Tryz.f307 x = _ from Z101.eq (V.p4_0 x) (V.p4_1 x)).trans (V.cfl (by kernel_rfl) h))
noncomputable abbrev Z102.con : V.Con := ⟨V.A5, (.cons (.int .i64) .nil), fun (x : V.D5) => Z102 (V.p5_0 x) (V.p5_1 x), [], [(true, 16), (true, 17)], [(false, 1)], [false], []⟩
noncomputable abbrev Z102.E : V.Env := V.mkE V.tys [(317, Z81.con)] [] [] [] [] []
noncomputable abbrev Z102.kt (x0 : THead) (x1 : TSigned) : V.Kt Int := V.ktOf Z102.E Z102.con Tryz.f308 (V.fl5 x0 x1)
noncomputable abbrev Z102.s (x0 : THead) (x1 : TSigned) : V.St := ⟨[(0, .v true (V.lsHead x0)), (1, .v true (V.lsSigned x1))], []⟩
theorem Z102.v0 (x0 : THead) (x1 : TSigned) : V.evBody Z102.E Z102.con Tryz.f308 (V.fl5 x0 x1) = V.evC Z102.E Tryz.f308.ntmps (V.codeOf Tryz.f308) (Z102.kt x0 x1) (Z102.s x0 x1) := by kernel_rfl
theorem Z102.v (x0 : THead) (x1 : TSigned) : V.evC Z102.E Tryz.f308.ntmps (V.codeOf Tryz.f308) (Z102.kt x0 x1) (Z102.s x0 x1) = Z102 x0 x1 := by kernel_rfl
theorem Z102.eq (x0 : THead) (x1 : TSigned) : V.evBody Z102.E Z102.con Tryz.f308 (V.fl5 x0 x1) = Z102 x0 x1 := (Z102.v0 x0 x1).trans (Z102.v x0 x1)
theorem Z102.ok : V.Valid Tryz.prog 308 Z102.con :=
  V.fo (V.tab_cons Z81.ok V.tab_nil) Tryz.func308 (by kernel_rfl) (fun x y h => (show V.evBody Z102.E Z102.con Tryz.f308 x = _ from Z102.eq (V.p5_0 x) (V.p5_1 x)).trans (V.cfl (by kernel_rfl) h))
noncomputable abbrev Z21.con : V.Con := ⟨(.cons (.sl (.cons (.int .i64) .nil)) (.cons (.sl (.cons (.int .i64) .nil)) .nil)), (.cons .bool .nil), fun (x : List Int × List Int) => Z21 x.1 x.2, [], [(false, 1), (false, 1)], [(false, 1)], [false], []⟩
noncomputable abbrev Z21.E : V.Env := V.mkE V.tys [] [(8, [0, 1, 12, 13], [])] [(6, 8)] [] [] []
noncomputable abbrev Z21.kt (x0 : List Int) (x1 : List Int) : V.Kt Bool := V.ktOf Z21.E Z21.con Tryz.f187 ((x0, x1) : List Int × List Int)
noncomputable abbrev Z21.s8 (x0 : List Int) (x1 : List Int) (v8_2 : Int) (v8_3 : Int) : V.St := ⟨[(0, .v false [.val (.sl (.cons (.int .i64) .nil) x0)]), (1, .v false [.val (.sl (.cons (.int .i64) .nil) x1)]), (12, .v false [.val (.int .i64 v8_2)]), (13, .v false [.val (.int .i64 v8_3)])], []⟩
theorem Z21.r8 (x0 : List Int) (x1 : List Int) (R : V.St → Option Bool) (v8_2 : Int) (v8_3 : Int) : V.loopF Z21.E Tryz.f187.ntmps [1, 1, 0, 1, 0] [] (V.codeOf Tryz.f187) (Z21.kt x0 x1) R (Z21.s8 x0 x1 v8_2 v8_3) = Z21.g8 x0 x1 (fun v8_2 v8_3 => R (Z21.s8 x0 x1 v8_2 v8_3)) v8_2 v8_3 := by kernel_rfl
theorem Z21.e8 (x0 : List Int) (x1 : List Int) : ∀ (n : Nat) (v8_2 : Int) (v8_3 : Int), V.loopN (V.loopF Z21.E Tryz.f187.ntmps [1, 1, 0, 1, 0] [] (V.codeOf Tryz.f187) (Z21.kt x0 x1)) n (Z21.s8 x0 x1 v8_2 v8_3) = Z21.l8 x0 x1 n v8_2 v8_3 := by
  intro n
  induction n with
  | zero => intros; rw [V.loopN_z]; rfl
  | succ n ih =>
    intro v8_2 v8_3
    rw [V.loopN_s, Z21.r8]
    simp only [ih]
    first | exact (Z21.u8 ..).symm | rfl
theorem Z21.v (x0 : List Int) (x1 : List Int) : V.evBody Z21.E Z21.con Tryz.f187 ((x0, x1) : List Int × List Int) = Z21.b x0 x1 (fun v8_2 v8_3 => V.loopN (V.loopF Z21.E Tryz.f187.ntmps [1, 1, 0, 1, 0] [] (V.codeOf Tryz.f187) (Z21.kt x0 x1)) V.KK (Z21.s8 x0 x1 v8_2 v8_3)) := by kernel_rfl
theorem Z21.eq (x0 : List Int) (x1 : List Int) : V.evBody Z21.E Z21.con Tryz.f187 ((x0, x1) : List Int × List Int) = Z21 x0 x1 := by
  rw [Z21.v]
  simp only [Z21.e8]
  rfl
theorem Z21.ok : V.Valid Tryz.prog 187 Z21.con :=
  V.fo V.tab_nil Tryz.func187 (by kernel_rfl) (fun x y h => (show V.evBody Z21.E Z21.con Tryz.f187 x = _ from Z21.eq x.1 x.2).trans (V.cfl (by kernel_rfl) h))
noncomputable abbrev Z121.con : V.Con := ⟨(.cons (.sl (.cons (.int .i64) .nil)) (.cons (.int .i64) (.cons (.sl (.cons (.int .i64) .nil)) (.cons (.int .i64) .nil)))), (.cons .bool .nil), fun (x : List Int × Int × List Int × Int) => Z121 (x.1, x.2.1) x.2.2, [], [(true, 2), (true, 2)], [(false, 1)], [false], []⟩
noncomputable abbrev Z121.E : V.Env := V.mkE V.tys [(187, Z21.con)] [] [] [] [] []
theorem Z121.eq (x0 : TKeys) (x1 : TKeys) : V.evBody Z121.E Z121.con Tryz.f48 ((x0.1, x0.2, x1.1, x1.2) : List Int × Int × List Int × Int) = Z121 x0 x1 := by kernel_rfl
theorem Z121.ok : V.Valid Tryz.prog 48 Z121.con :=
  V.fo (V.tab_cons Z21.ok V.tab_nil) Tryz.func48 (by kernel_rfl) (fun x y h => (show V.evBody Z121.E Z121.con Tryz.f48 x = _ from Z121.eq (x.1, x.2.1) x.2.2).trans (V.cfl (by kernel_rfl) h))
noncomputable abbrev Z90.con : V.Con := ⟨V.A4, (.cons .bool .nil), fun (x : V.D4) => Z90 (V.p4_0 x) (V.p4_1 x), [], [(true, 16), (true, 16)], [(false, 1)], [false], []⟩
noncomputable abbrev Z90.E : V.Env := V.mkE V.tys [] [] [] [] [] []
noncomputable abbrev Z90.kt (x0 : THead) (x1 : THead) : V.Kt Bool := V.ktOf Z90.E Z90.con Tryz.f396 (V.fl4 x0 x1)
noncomputable abbrev Z90.s (x0 : THead) (x1 : THead) : V.St := ⟨[(0, .v true (V.lsHead x0)), (1, .v true (V.lsHead x1))], []⟩
theorem Z90.v0 (x0 : THead) (x1 : THead) : V.evBody Z90.E Z90.con Tryz.f396 (V.fl4 x0 x1) = V.evC Z90.E Tryz.f396.ntmps (V.codeOf Tryz.f396) (Z90.kt x0 x1) (Z90.s x0 x1) := by kernel_rfl
theorem Z90.v (x0 : THead) (x1 : THead) : V.evC Z90.E Tryz.f396.ntmps (V.codeOf Tryz.f396) (Z90.kt x0 x1) (Z90.s x0 x1) = Z90 x0 x1 := by kernel_rfl
theorem Z90.eq (x0 : THead) (x1 : THead) : V.evBody Z90.E Z90.con Tryz.f396 (V.fl4 x0 x1) = Z90 x0 x1 := (Z90.v0 x0 x1).trans (Z90.v x0 x1)
theorem Z90.ok : V.Valid Tryz.prog 396 Z90.con :=
  V.fo V.tab_nil Tryz.func396 (by kernel_rfl) (fun x y h => (show V.evBody Z90.E Z90.con Tryz.f396 x = _ from Z90.eq (V.p4_0 x) (V.p4_1 x)).trans (V.cfl (by kernel_rfl) h))
noncomputable abbrev Z7.con : V.Con := ⟨V.A5, (.cons (.int .i64) .nil), fun (x : V.D5) => Z7 (V.p5_0 x) (V.p5_1 x), [], [(true, 16), (true, 17)], [(false, 1)], [false], []⟩
noncomputable abbrev Z7.E : V.Env := V.mkE V.tys [(48, Z121.con), (226, Z112.con), (317, Z81.con), (396, Z90.con)] [(11, [2, 3, 5, 11], []), (15, [2, 3, 25], [])] [] [] [] []
noncomputable abbrev Z7.kt (x0 : THead) (x1 : TSigned) : V.Kt Int := V.ktOf Z7.E Z7.con Tryz.f309 (V.fl5 x0 x1)
noncomputable abbrev Z7.s15 (x0 : THead) (x1 : TSigned) (v15_0 : Bool) : V.St := ⟨[(2, .v false [.ptr 64000 0]), (3, .v false [.ptr 64064 0]), (25, .v false [.val (.bool v15_0)])], [(64000, .box (V.lsHead x0)), (64064, .box (V.lsSigned x1))]⟩
noncomputable abbrev Z7.s11 (x0 : THead) (x1 : TSigned) (v11_0 : Bool) : V.St := ⟨[(2, .v false [.ptr 64000 0]), (3, .v false [.ptr 64064 0]), (5, .v false [.ptr 128128 0]), (11, .v false [.val (.bool v11_0)])], [(64000, .box (V.lsHead x0)), (64064, .box (V.lsSigned x1)), (128128, .box [.val (.int .i64 x1.1), .val (.int .i64 x1.2.1), .val (.int .i64 x1.2.2.1), .val (.int .i64 x1.2.2.2.1), .val (.int .i64 x1.2.2.2.2.1), .val (.int .i64 x1.2.2.2.2.2.1), .val (.int .i64 x1.2.2.2.2.2.2.1), .val (.int .i64 x1.2.2.2.2.2.2.2.1), .val (.sl (.cons (.int .i64) .nil) x1.2.2.2.2.2.2.2.2.1), .val (.int .i64 x1.2.2.2.2.2.2.2.2.2.1), .val (.sl (.cons (.int .i64) .nil) x1.2.2.2.2.2.2.2.2.2.2.1), .val (.int .i64 x1.2.2.2.2.2.2.2.2.2.2.2.1), .val (.int .i64 x1.2.2.2.2.2.2.2.2.2.2.2.2.1), .val (.sl (.cons (.int .i64) .nil) x1.2.2.2.2.2.2.2.2.2.2.2.2.2.1), .val (.int .i64 x1.2.2.2.2.2.2.2.2.2.2.2.2.2.2.1), .val (.bool x1.2.2.2.2.2.2.2.2.2.2.2.2.2.2.2.1)])]⟩
theorem Z7.r15 (x0 : THead) (x1 : TSigned) (v15_0 : Bool) : V.joinF Z7.E Tryz.f309.ntmps [1, 1, 0, 0, 1, 1, 1, 1] [] (V.codeOf Tryz.f309) (Z7.kt x0 x1) (Z7.s15 x0 x1 v15_0) = Z7.g15 x0 x1 v15_0 := by kernel_rfl
theorem Z7.e15 (x0 : THead) (x1 : TSigned) (v15_0 : Bool) : V.jn (V.joinF Z7.E Tryz.f309.ntmps [1, 1, 0, 0, 1, 1, 1, 1] [] (V.codeOf Tryz.f309) (Z7.kt x0 x1)) (Z7.s15 x0 x1 v15_0) = Z7.l15 x0 x1 v15_0 := by
  rw [V.jn_eq, Z7.r15]
  rfl
theorem Z7.r11 (x0 : THead) (x1 : TSigned) (v11_0 : Bool) : V.joinF Z7.E Tryz.f309.ntmps [1, 1, 0, 0, 1, 1] [] (V.codeOf Tryz.f309) (Z7.kt x0 x1) (Z7.s11 x0 x1 v11_0) = Z7.g11 x0 x1 (fun v15_0 => V.jn (V.joinF Z7.E Tryz.f309.ntmps [1, 1, 0, 0, 1, 1, 1, 1] [] (V.codeOf Tryz.f309) (Z7.kt x0 x1)) (Z7.s15 x0 x1 v15_0)) v11_0 := by kernel_rfl
theorem Z7.e11 (x0 : THead) (x1 : TSigned) (v11_0 : Bool) : V.jn (V.joinF Z7.E Tryz.f309.ntmps [1, 1, 0, 0, 1, 1] [] (V.codeOf Tryz.f309) (Z7.kt x0 x1)) (Z7.s11 x0 x1 v11_0) = Z7.l11 x0 x1 v11_0 := by
  rw [V.jn_eq, Z7.r11]
  simp only [Z7.e15]
  rfl
noncomputable abbrev Z7.s (x0 : THead) (x1 : TSigned) : V.St := ⟨[(0, .v true (V.lsHead x0)), (1, .v true (V.lsSigned x1))], []⟩
theorem Z7.v0 (x0 : THead) (x1 : TSigned) : V.evBody Z7.E Z7.con Tryz.f309 (V.fl5 x0 x1) = V.evC Z7.E Tryz.f309.ntmps (V.codeOf Tryz.f309) (Z7.kt x0 x1) (Z7.s x0 x1) := by kernel_rfl
theorem Z7.v (x0 : THead) (x1 : TSigned) : V.evC Z7.E Tryz.f309.ntmps (V.codeOf Tryz.f309) (Z7.kt x0 x1) (Z7.s x0 x1) = Z7.b x0 x1 (fun v11_0 => V.jn (V.joinF Z7.E Tryz.f309.ntmps [1, 1, 0, 0, 1, 1] [] (V.codeOf Tryz.f309) (Z7.kt x0 x1)) (Z7.s11 x0 x1 v11_0)) := by kernel_rfl
theorem Z7.eq (x0 : THead) (x1 : TSigned) : V.evBody Z7.E Z7.con Tryz.f309 (V.fl5 x0 x1) = Z7 x0 x1 := by
  rw [Z7.v0, Z7.v]
  simp only [Z7.e11]
  rfl
theorem Z7.ok : V.Valid Tryz.prog 309 Z7.con :=
  V.fo (V.tab_cons Z121.ok (V.tab_cons Z112.ok (V.tab_cons Z81.ok (V.tab_cons Z90.ok V.tab_nil)))) Tryz.func309 (by kernel_rfl) (fun x y h => (show V.evBody Z7.E Z7.con Tryz.f309 x = _ from Z7.eq (V.p5_0 x) (V.p5_1 x)).trans (V.cfl (by kernel_rfl) h))
noncomputable abbrev Z8.con : V.Con := ⟨V.A5, (.cons (.int .i64) .nil), fun (x : V.D5) => Z8 (V.p5_0 x) (V.p5_1 x), [], [(true, 16), (true, 17)], [(false, 1)], [false], []⟩
noncomputable abbrev Z8.E : V.Env := V.mkE V.tys [(48, Z121.con), (226, Z112.con), (317, Z81.con), (396, Z90.con)] [(7, [2, 3, 5, 6], []), (13, [2, 3, 37], [])] [] [] [] []
noncomputable abbrev Z8.kt (x0 : THead) (x1 : TSigned) : V.Kt Int := V.ktOf Z8.E Z8.con Tryz.f310 (V.fl5 x0 x1)
noncomputable abbrev Z8.s13 (x0 : THead) (x1 : TSigned) (v13_0 : Bool) : V.St := ⟨[(2, .v false [.ptr 64000 0]), (3, .v false [.ptr 64064 0]), (37, .v false [.val (.bool v13_0)])], [(64000, .box (V.lsHead x0)), (64064, .box (V.lsSigned x1))]⟩
noncomputable abbrev Z8.s7 (x0 : THead) (x1 : TSigned) (v7_0 : Bool) : V.St := ⟨[(2, .v false [.ptr 64000 0]), (3, .v false [.ptr 64064 0]), (5, .v false [.ptr 128128 0]), (6, .v false [.val (.bool v7_0)])], [(64000, .box (V.lsHead x0)), (64064, .box (V.lsSigned x1)), (128128, .box [.val (.int .i64 x1.1), .val (.int .i64 x1.2.1), .val (.int .i64 x1.2.2.1), .val (.int .i64 x1.2.2.2.1), .val (.int .i64 x1.2.2.2.2.1), .val (.int .i64 x1.2.2.2.2.2.1), .val (.int .i64 x1.2.2.2.2.2.2.1), .val (.int .i64 x1.2.2.2.2.2.2.2.1), .val (.sl (.cons (.int .i64) .nil) x1.2.2.2.2.2.2.2.2.1), .val (.int .i64 x1.2.2.2.2.2.2.2.2.2.1), .val (.sl (.cons (.int .i64) .nil) x1.2.2.2.2.2.2.2.2.2.2.1), .val (.int .i64 x1.2.2.2.2.2.2.2.2.2.2.2.1), .val (.int .i64 x1.2.2.2.2.2.2.2.2.2.2.2.2.1), .val (.sl (.cons (.int .i64) .nil) x1.2.2.2.2.2.2.2.2.2.2.2.2.2.1), .val (.int .i64 x1.2.2.2.2.2.2.2.2.2.2.2.2.2.2.1), .val (.bool x1.2.2.2.2.2.2.2.2.2.2.2.2.2.2.2.1)])]⟩
theorem Z8.r13 (x0 : THead) (x1 : TSigned) (v13_0 : Bool) : V.joinF Z8.E Tryz.f310.ntmps [1, 1, 1, 0, 0, 1, 1] [] (V.codeOf Tryz.f310) (Z8.kt x0 x1) (Z8.s13 x0 x1 v13_0) = Z8.g13 x0 x1 v13_0 := by kernel_rfl
theorem Z8.e13 (x0 : THead) (x1 : TSigned) (v13_0 : Bool) : V.jn (V.joinF Z8.E Tryz.f310.ntmps [1, 1, 1, 0, 0, 1, 1] [] (V.codeOf Tryz.f310) (Z8.kt x0 x1)) (Z8.s13 x0 x1 v13_0) = Z8.l13 x0 x1 v13_0 := by
  rw [V.jn_eq, Z8.r13]
  rfl
theorem Z8.r7 (x0 : THead) (x1 : TSigned) (v7_0 : Bool) : V.joinF Z8.E Tryz.f310.ntmps [1, 1] [] (V.codeOf Tryz.f310) (Z8.kt x0 x1) (Z8.s7 x0 x1 v7_0) = Z8.g7 x0 x1 (fun v13_0 => V.jn (V.joinF Z8.E Tryz.f310.ntmps [1, 1, 1, 0, 0, 1, 1] [] (V.codeOf Tryz.f310) (Z8.kt x0 x1)) (Z8.s13 x0 x1 v13_0)) v7_0 := by kernel_rfl
theorem Z8.e7 (x0 : THead) (x1 : TSigned) (v7_0 : Bool) : V.jn (V.joinF Z8.E Tryz.f310.ntmps [1, 1] [] (V.codeOf Tryz.f310) (Z8.kt x0 x1)) (Z8.s7 x0 x1 v7_0) = Z8.l7 x0 x1 v7_0 := by
  rw [V.jn_eq, Z8.r7]
  simp only [Z8.e13]
  rfl
noncomputable abbrev Z8.s (x0 : THead) (x1 : TSigned) : V.St := ⟨[(0, .v true (V.lsHead x0)), (1, .v true (V.lsSigned x1))], []⟩
theorem Z8.v0 (x0 : THead) (x1 : TSigned) : V.evBody Z8.E Z8.con Tryz.f310 (V.fl5 x0 x1) = V.evC Z8.E Tryz.f310.ntmps (V.codeOf Tryz.f310) (Z8.kt x0 x1) (Z8.s x0 x1) := by kernel_rfl
theorem Z8.v (x0 : THead) (x1 : TSigned) : V.evC Z8.E Tryz.f310.ntmps (V.codeOf Tryz.f310) (Z8.kt x0 x1) (Z8.s x0 x1) = Z8.b x0 x1 (fun v7_0 => V.jn (V.joinF Z8.E Tryz.f310.ntmps [1, 1] [] (V.codeOf Tryz.f310) (Z8.kt x0 x1)) (Z8.s7 x0 x1 v7_0)) := by kernel_rfl
theorem Z8.eq (x0 : THead) (x1 : TSigned) : V.evBody Z8.E Z8.con Tryz.f310 (V.fl5 x0 x1) = Z8 x0 x1 := by
  rw [Z8.v0, Z8.v]
  simp only [Z8.e7]
  rfl
theorem Z8.ok : V.Valid Tryz.prog 310 Z8.con :=
  V.fo (V.tab_cons Z121.ok (V.tab_cons Z112.ok (V.tab_cons Z81.ok (V.tab_cons Z90.ok V.tab_nil)))) Tryz.func310 (by kernel_rfl) (fun x y h => (show V.evBody Z8.E Z8.con Tryz.f310 x = _ from Z8.eq (V.p5_0 x) (V.p5_1 x)).trans (V.cfl (by kernel_rfl) h))
noncomputable abbrev Z15.con : V.Con := ⟨V.A5, (.cons (.int .i64) .nil), fun (x : V.D5) => Z15 (V.p5_0 x) (V.p5_1 x), [], [(true, 16), (true, 17)], [(false, 1)], [false], []⟩
noncomputable abbrev Z15.E : V.Env := V.mkE V.tys [(306, Z80.con), (307, Z101.con), (308, Z102.con), (309, Z7.con), (310, Z8.con)] [(5, [2, 3, 5], [])] [] [] [] []
noncomputable abbrev Z15.kt (x0 : THead) (x1 : TSigned) : V.Kt Int := V.ktOf Z15.E Z15.con Tryz.f172 (V.fl5 x0 x1)
noncomputable abbrev Z15.s5 (x0 : THead) (x1 : TSigned) (v5_0 : Bool) : V.St := ⟨[(2, .v false [.ptr 64000 0]), (3, .v false [.ptr 64064 0]), (5, .v false [.val (.bool v5_0)])], [(64000, .box (V.lsHead x0)), (64064, .box (V.lsSigned x1))]⟩
theorem Z15.r5 (x0 : THead) (x1 : TSigned) (v5_0 : Bool) : V.joinF Z15.E Tryz.f172.ntmps [1, 0, 0] [] (V.codeOf Tryz.f172) (Z15.kt x0 x1) (Z15.s5 x0 x1 v5_0) = Z15.g5 x0 x1 v5_0 := by kernel_rfl
theorem Z15.e5 (x0 : THead) (x1 : TSigned) (v5_0 : Bool) : V.jn (V.joinF Z15.E Tryz.f172.ntmps [1, 0, 0] [] (V.codeOf Tryz.f172) (Z15.kt x0 x1)) (Z15.s5 x0 x1 v5_0) = Z15.l5 x0 x1 v5_0 := by
  rw [V.jn_eq, Z15.r5]
  rfl
noncomputable abbrev Z15.s (x0 : THead) (x1 : TSigned) : V.St := ⟨[(0, .v true (V.lsHead x0)), (1, .v true (V.lsSigned x1))], []⟩
theorem Z15.v0 (x0 : THead) (x1 : TSigned) : V.evBody Z15.E Z15.con Tryz.f172 (V.fl5 x0 x1) = V.evC Z15.E Tryz.f172.ntmps (V.codeOf Tryz.f172) (Z15.kt x0 x1) (Z15.s x0 x1) := by kernel_rfl
theorem Z15.v (x0 : THead) (x1 : TSigned) : V.evC Z15.E Tryz.f172.ntmps (V.codeOf Tryz.f172) (Z15.kt x0 x1) (Z15.s x0 x1) = Z15.b x0 x1 (fun v5_0 => V.jn (V.joinF Z15.E Tryz.f172.ntmps [1, 0, 0] [] (V.codeOf Tryz.f172) (Z15.kt x0 x1)) (Z15.s5 x0 x1 v5_0)) := by kernel_rfl
theorem Z15.eq (x0 : THead) (x1 : TSigned) : V.evBody Z15.E Z15.con Tryz.f172 (V.fl5 x0 x1) = Z15 x0 x1 := by
  rw [Z15.v0, Z15.v]
  simp only [Z15.e5]
  rfl
theorem Z15.ok : V.Valid Tryz.prog 172 Z15.con :=
  V.fo (V.tab_cons Z80.ok (V.tab_cons Z101.ok (V.tab_cons Z102.ok (V.tab_cons Z7.ok (V.tab_cons Z8.ok V.tab_nil))))) Tryz.func172 (by kernel_rfl) (fun x y h => (show V.evBody Z15.E Z15.con Tryz.f172 x = _ from Z15.eq (V.p5_0 x) (V.p5_1 x)).trans (V.cfl (by kernel_rfl) h))
noncomputable abbrev Z98.con : V.Con := ⟨V.A5, (.cons .bool .nil), fun (x : V.D5) => Z98 (V.p5_0 x) (V.p5_1 x), [], [(true, 16), (true, 17)], [(false, 1)], [false], []⟩
noncomputable abbrev Z98.E : V.Env := V.mkE V.tys [(172, Z15.con)] [] [] [] [] []
noncomputable abbrev Z98.kt (x0 : THead) (x1 : TSigned) : V.Kt Bool := V.ktOf Z98.E Z98.con Tryz.f71 (V.fl5 x0 x1)
noncomputable abbrev Z98.s (x0 : THead) (x1 : TSigned) : V.St := ⟨[(0, .v true (V.lsHead x0)), (1, .v true (V.lsSigned x1))], []⟩
theorem Z98.v0 (x0 : THead) (x1 : TSigned) : V.evBody Z98.E Z98.con Tryz.f71 (V.fl5 x0 x1) = V.evC Z98.E Tryz.f71.ntmps (V.codeOf Tryz.f71) (Z98.kt x0 x1) (Z98.s x0 x1) := by kernel_rfl
theorem Z98.v (x0 : THead) (x1 : TSigned) : V.evC Z98.E Tryz.f71.ntmps (V.codeOf Tryz.f71) (Z98.kt x0 x1) (Z98.s x0 x1) = Z98 x0 x1 := by kernel_rfl
theorem Z98.eq (x0 : THead) (x1 : TSigned) : V.evBody Z98.E Z98.con Tryz.f71 (V.fl5 x0 x1) = Z98 x0 x1 := (Z98.v0 x0 x1).trans (Z98.v x0 x1)
theorem Z98.ok : V.Valid Tryz.prog 71 Z98.con :=
  V.fo (V.tab_cons Z15.ok V.tab_nil) Tryz.func71 (by kernel_rfl) (fun x y h => (show V.evBody Z98.E Z98.con Tryz.f71 x = _ from Z98.eq (V.p5_0 x) (V.p5_1 x)).trans (V.cfl (by kernel_rfl) h))
noncomputable abbrev Z29.con : V.Con := ⟨(.cons (.sl V.eSigned) .nil), (.cons (.int .i64) .nil), fun (x : List TSigned) => Z29 x, [], [(false, 1)], [(false, 1)], [false], []⟩
noncomputable abbrev Z29.E : V.Env := V.mkE V.tys [(71, Z98.con), (180, Z97.con)] [(4, [0, 5, 6, 7], [])] [(4, 18)] [] [] []
noncomputable abbrev Z29.kt (x0 : List TSigned) : V.Kt Int := V.ktOf Z29.E Z29.con Tryz.f39 ((x0) : List TSigned)
noncomputable abbrev Z29.s4 (x0 : List TSigned) (v4_2 : Int) (v4_3 : Int) : V.St := ⟨[(0, .v false [.val (.sl V.eSigned x0)]), (5, .v false [.val (.sl V.eSigned x0)]), (6, .v false [.val (.int .i64 v4_2)]), (7, .v false [.val (.int .i64 v4_3)])], []⟩
theorem Z29.r4 (x0 : List TSigned) (R : V.St → Option Int) (v4_2 : Int) (v4_3 : Int) : V.loopF Z29.E Tryz.f39.ntmps [1, 0, 1, 0] [] (V.codeOf Tryz.f39) (Z29.kt x0) R (Z29.s4 x0 v4_2 v4_3) = Z29.g4 x0 (fun v4_2 v4_3 => R (Z29.s4 x0 v4_2 v4_3)) v4_2 v4_3 := by kernel_rfl
theorem Z29.e4 (x0 : List TSigned) : ∀ (n : Nat) (v4_2 : Int) (v4_3 : Int), V.loopN (V.loopF Z29.E Tryz.f39.ntmps [1, 0, 1, 0] [] (V.codeOf Tryz.f39) (Z29.kt x0)) n (Z29.s4 x0 v4_2 v4_3) = Z29.l4 x0 n v4_2 v4_3 := by
  intro n
  induction n with
  | zero => intros; rw [V.loopN_z]; rfl
  | succ n ih =>
    intro v4_2 v4_3
    rw [V.loopN_s, Z29.r4]
    simp only [ih]
    first | exact (Z29.u4 ..).symm | rfl
theorem Z29.v (x0 : List TSigned) : V.evBody Z29.E Z29.con Tryz.f39 ((x0) : List TSigned) = Z29.b x0 (fun v4_2 v4_3 => V.loopN (V.loopF Z29.E Tryz.f39.ntmps [1, 0, 1, 0] [] (V.codeOf Tryz.f39) (Z29.kt x0)) V.KK (Z29.s4 x0 v4_2 v4_3)) := by kernel_rfl
theorem Z29.eq (x0 : List TSigned) : V.evBody Z29.E Z29.con Tryz.f39 ((x0) : List TSigned) = Z29 x0 := by
  rw [Z29.v]
  simp only [Z29.e4]
  rfl
theorem Z29.ok : V.Valid Tryz.prog 39 Z29.con :=
  V.fo (V.tab_cons Z98.ok (V.tab_cons Z97.ok V.tab_nil)) Tryz.func39 (by kernel_rfl) (fun x y h => (show V.evBody Z29.E Z29.con Tryz.f39 x = _ from Z29.eq x).trans (V.cfl (by kernel_rfl) h))
noncomputable abbrev Z128.con : V.Con := ⟨(.cons (.sl V.eSigned) .nil), (.cons .bool .nil), fun (x : List TSigned) => Z128 x, [], [(false, 1)], [(false, 1)], [false], []⟩
noncomputable abbrev Z128.E : V.Env := V.mkE V.tys [(39, Z29.con), (178, Z60.con)] [] [] [] [] []
theorem Z128.eq (x0 : List TSigned) : V.evBody Z128.E Z128.con Tryz.f37 ((x0) : List TSigned) = Z128 x0 := by kernel_rfl
theorem Z128.ok : V.Valid Tryz.prog 37 Z128.con :=
  V.fo (V.tab_cons Z29.ok (V.tab_cons Z60.ok V.tab_nil)) Tryz.func37 (by kernel_rfl) (fun x y h => (show V.evBody Z128.E Z128.con Tryz.f37 x = _ from Z128.eq x).trans (V.cfl (by kernel_rfl) h))
noncomputable abbrev Z113.con : V.Con := ⟨(.cons (.sl V.eSigned) .nil), V.eHead, fun (x : List TSigned) => Z113 x, [], [(false, 1)], [(true, 16)], [false, false, false, false, false, false, false, false, false, false, false, false, false, false, false, false], []⟩
noncomputable abbrev Z113.E : V.Env := V.mkE V.tys [] [] [] [] [] []
theorem Z113.eq (x0 : List TSigned) : V.evBody Z113.E Z113.con Tryz.f173 ((x0) : List TSigned) = Z113 x0 := by kernel_rfl
theorem Z113.ok : V.Valid Tryz.prog 173 Z113.con :=
  V.fo V.tab_nil Tryz.func173 (by kernel_rfl) (fun x y h => (show V.evBody Z113.E Z113.con Tryz.f173 x = _ from Z113.eq x).trans (V.cfl (by kernel_rfl) h))
noncomputable abbrev Z17.con : V.Con := ⟨(.cons .str .nil), (.cons .bool .nil), fun (x : ByteArray) => Z17 x, [], [(false, 1)], [(false, 1)], [false], []⟩
noncomputable abbrev Z17.E : V.Env := V.mkE V.tys [(178, Z60.con)] [(4, [0, 6, 7], [])] [] [] [] []
noncomputable abbrev Z17.kt (x0 : ByteArray) : V.Kt Bool := V.ktOf Z17.E Z17.con Tryz.f280 ((x0) : ByteArray)
noncomputable abbrev Z17.s4 (x0 : ByteArray) (v4_1 : Int) (v4_2 : Int) : V.St := ⟨[(0, .v false [.val (.str x0)]), (6, .v false [.val (.int .i64 v4_1)]), (7, .v false [.val (.int .i64 v4_2)])], []⟩
theorem Z17.r4 (x0 : ByteArray) (R : V.St → Option Bool) (v4_1 : Int) (v4_2 : Int) : V.loopF Z17.E Tryz.f280.ntmps [1, 0, 1, 0] [] (V.codeOf Tryz.f280) (Z17.kt x0) R (Z17.s4 x0 v4_1 v4_2) = Z17.g4 x0 (fun v4_1 v4_2 => R (Z17.s4 x0 v4_1 v4_2)) v4_1 v4_2 := by kernel_rfl
theorem Z17.e4 (x0 : ByteArray) : ∀ (n : Nat) (v4_1 : Int) (v4_2 : Int), V.loopN (V.loopF Z17.E Tryz.f280.ntmps [1, 0, 1, 0] [] (V.codeOf Tryz.f280) (Z17.kt x0)) n (Z17.s4 x0 v4_1 v4_2) = Z17.l4 x0 n v4_1 v4_2 := by
  intro n
  induction n with
  | zero => intros; rw [V.loopN_z]; rfl
  | succ n ih =>
    intro v4_1 v4_2
    rw [V.loopN_s, Z17.r4]
    simp only [ih]
    first | exact (Z17.u4 ..).symm | rfl
theorem Z17.v (x0 : ByteArray) : V.evBody Z17.E Z17.con Tryz.f280 ((x0) : ByteArray) = Z17.b x0 (fun v4_1 v4_2 => V.loopN (V.loopF Z17.E Tryz.f280.ntmps [1, 0, 1, 0] [] (V.codeOf Tryz.f280) (Z17.kt x0)) V.KK (Z17.s4 x0 v4_1 v4_2)) := by kernel_rfl
theorem Z17.eq (x0 : ByteArray) : V.evBody Z17.E Z17.con Tryz.f280 ((x0) : ByteArray) = Z17 x0 := by
  rw [Z17.v]
  simp only [Z17.e4]
  rfl
theorem Z17.ok : V.Valid Tryz.prog 280 Z17.con :=
  V.fo (V.tab_cons Z60.ok V.tab_nil) Tryz.func280 (by kernel_rfl) (fun x y h => (show V.evBody Z17.E Z17.con Tryz.f280 x = _ from Z17.eq x).trans (V.cfl (by kernel_rfl) h))
noncomputable abbrev Z190.con : V.Con := ⟨(.cons .str .nil), (.cons .bool .nil), fun (x : ByteArray) => Z190 x, [], [(false, 1)], [(false, 1)], [false], []⟩
noncomputable abbrev Z190.E : V.Env := V.mkE V.tys [(280, Z17.con)] [] [] [] [] []
theorem Z190.eq (x0 : ByteArray) : V.evBody Z190.E Z190.con Tryz.f439 ((x0) : ByteArray) = Z190 x0 := by kernel_rfl
theorem Z190.ok : V.Valid Tryz.prog 439 Z190.con :=
  V.fo (V.tab_cons Z17.ok V.tab_nil) Tryz.func439 (by kernel_rfl) (fun x y h => (show V.evBody Z190.E Z190.con Tryz.f439 x = _ from Z190.eq x).trans (V.cfl (by kernel_rfl) h))
noncomputable abbrev Z75.con : V.Con := ⟨(.cons (.sl (.cons .str .nil)) (.cons (.fn 439 false .nil .nil) .nil)), (.cons (.int .i64) .nil), fun (x : List ByteArray × (Unit) × (Unit)) => Z75 x.1 x.2, [], [(false, 1), (false, 1)], [(false, 1)], [false], []⟩
noncomputable abbrev Z75.E : V.Env := V.mkE V.tys [(439, Z190.con)] [(4, [0, 1, 7, 8], [])] [] [] [] []
noncomputable abbrev Z75.kt (x0 : List ByteArray) (x1 : (Unit) × (Unit)) : V.Kt Int := V.ktOf Z75.E Z75.con Tryz.f453 ((x0, x1) : List ByteArray × (Unit) × (Unit))
noncomputable abbrev Z75.s4 (x0 : List ByteArray) (v4_1 : Int) (v4_2 : Int) : V.St := ⟨[(0, .v false [.val (.sl (.cons .str .nil) x0)]), (1, .v false [.val (.fn 439 false .nil .nil () ())]), (7, .v false [.val (.int .i64 v4_1)]), (8, .v false [.val (.int .i64 v4_2)])], []⟩
theorem Z75.r4 (x0 : List ByteArray) (x1 : (Unit) × (Unit)) (R : V.St → Option Int) (v4_1 : Int) (v4_2 : Int) : V.loopF Z75.E Tryz.f453.ntmps [1, 0, 1, 0] [] (V.codeOf Tryz.f453) (Z75.kt x0 x1) R (Z75.s4 x0 v4_1 v4_2) = Z75.g4 x0 (fun v4_1 v4_2 => R (Z75.s4 x0 v4_1 v4_2)) v4_1 v4_2 := by kernel_rfl
theorem Z75.e4 (x0 : List ByteArray) (x1 : (Unit) × (Unit)) : ∀ (n : Nat) (v4_1 : Int) (v4_2 : Int), V.loopN (V.loopF Z75.E Tryz.f453.ntmps [1, 0, 1, 0] [] (V.codeOf Tryz.f453) (Z75.kt x0 x1)) n (Z75.s4 x0 v4_1 v4_2) = Z75.l4 x0 n v4_1 v4_2 := by
  intro n
  induction n with
  | zero => intros; rw [V.loopN_z]; rfl
  | succ n ih =>
    intro v4_1 v4_2
    rw [V.loopN_s, Z75.r4]
    simp only [ih]
    first | exact (Z75.u4 ..).symm | rfl
theorem Z75.v (x0 : List ByteArray) (x1 : (Unit) × (Unit)) : V.evBody Z75.E Z75.con Tryz.f453 ((x0, x1) : List ByteArray × (Unit) × (Unit)) = Z75.b x0 x1 (fun v4_1 v4_2 => V.loopN (V.loopF Z75.E Tryz.f453.ntmps [1, 0, 1, 0] [] (V.codeOf Tryz.f453) (Z75.kt x0 x1)) V.KK (Z75.s4 x0 v4_1 v4_2)) := by kernel_rfl
theorem Z75.eq (x0 : List ByteArray) (x1 : (Unit) × (Unit)) : V.evBody Z75.E Z75.con Tryz.f453 ((x0, x1) : List ByteArray × (Unit) × (Unit)) = Z75 x0 x1 := by
  rw [Z75.v]
  simp only [Z75.e4]
  rfl
theorem Z75.ok : V.Valid Tryz.prog 453 Z75.con :=
  V.fo (V.tab_cons Z190.ok V.tab_nil) Tryz.func453 (by kernel_rfl) (fun x y h => (show V.evBody Z75.E Z75.con Tryz.f453 x = _ from Z75.eq x.1 x.2).trans (V.cfl (by kernel_rfl) h))
noncomputable abbrev Z176.con : V.Con := ⟨(.cons (.sl (.cons .str .nil)) (.cons (.fn 439 false .nil .nil) .nil)), (.cons .bool .nil), fun (x : List ByteArray × (Unit) × (Unit)) => Z176 x.1 x.2, [], [(false, 1), (false, 1)], [(false, 1)], [false], []⟩
noncomputable abbrev Z176.E : V.Env := V.mkE V.tys [(453, Z75.con)] [] [] [] [] []
theorem Z176.eq (x0 : List ByteArray) (x1 : (Unit) × (Unit)) : V.evBody Z176.E Z176.con Tryz.f438 ((x0, x1) : List ByteArray × (Unit) × (Unit)) = Z176 x0 x1 := by kernel_rfl
theorem Z176.ok : V.Valid Tryz.prog 438 Z176.con :=
  V.fo (V.tab_cons Z75.ok V.tab_nil) Tryz.func438 (by kernel_rfl) (fun x y h => (show V.evBody Z176.E Z176.con Tryz.f438 x = _ from Z176.eq x.1 x.2).trans (V.cfl (by kernel_rfl) h))
noncomputable abbrev Z161.con : V.Con := ⟨(.cons (.sl (.cons .str .nil)) .nil), (.cons .bool .nil), fun (x : List ByteArray) => Z161 x, [], [(false, 1)], [(false, 1)], [false], []⟩
noncomputable abbrev Z161.E : V.Env := V.mkE V.tys [(178, Z60.con), (438, Z176.con)] [] [] [] [] []
theorem Z161.eq (x0 : List ByteArray) : V.evBody Z161.E Z161.con Tryz.f405 ((x0) : List ByteArray) = Z161 x0 := by kernel_rfl
theorem Z161.ok : V.Valid Tryz.prog 405 Z161.con :=
  V.fo (V.tab_cons Z60.ok (V.tab_cons Z176.ok V.tab_nil)) Tryz.func405 (by kernel_rfl) (fun x y h => (show V.evBody Z161.E Z161.con Tryz.f405 x = _ from Z161.eq x).trans (V.cfl (by kernel_rfl) h))
noncomputable abbrev Z160.con : V.Con := ⟨V.eEntry, (.cons .bool .nil), fun (x : ByteArray × Int × Int × List ByteArray) => Z160 x, [], [(true, 4)], [(false, 1)], [false], []⟩
noncomputable abbrev Z160.E : V.Env := V.mkE V.tys [(178, Z60.con), (206, Z118.con), (280, Z17.con), (405, Z161.con)] [] [] [] [] []
theorem Z160.eq (x0 : TEntry) : V.evBody Z160.E Z160.con Tryz.f341 ((x0.1, x0.2.1, x0.2.2.1, x0.2.2.2) : ByteArray × Int × Int × List ByteArray) = Z160 x0 := by kernel_rfl
theorem Z160.ok : V.Valid Tryz.prog 341 Z160.con :=
  V.fo (V.tab_cons Z60.ok (V.tab_cons Z118.ok (V.tab_cons Z17.ok (V.tab_cons Z161.ok V.tab_nil)))) Tryz.func341 (by kernel_rfl) (fun x y h => (show V.evBody Z160.E Z160.con Tryz.f341 x = _ from Z160.eq x).trans (V.cfl (by kernel_rfl) h))
noncomputable abbrev Z195.con : V.Con := ⟨.cons .str (.cons .str .nil), .cons (.int .i64) .nil, fun (x : ByteArray × ByteArray) => Z195 x.1 x.2, [], [(false, 1), (false, 1)], [(false, 1)], [false], []⟩
theorem Z195.ok : V.Valid Tryz.prog 440 Z195.con :=
  V.cmp_valid (ρ := ⟨fun n => bif Nat.beq n 213 then 440 else 454, fun t => bif Nat.beq t 3 then 3 else 9, fun x => x⟩) { mixed := V.mixed, f213 := by kernel_rfl, f265 := by kernel_rfl, t3 := by kernel_rfl, a3 := fun w => rfl, z3 := fun w => rfl, v3 := fun w => rfl, t9 := by kernel_rfl, a9 := fun w => rfl, z9 := fun w => rfl, v9 := fun w => rfl }
noncomputable abbrev Z194.con : V.Con := ⟨(.cons .str (.cons .str .nil)), (.cons (.int .i64) .nil), fun (x : ByteArray × ByteArray) => Z194 x.1 x.2, [], [(false, 1), (false, 1)], [(false, 1)], [false], []⟩
noncomputable abbrev Z194.E : V.Env := V.mkE V.tys [(440, Z195.con)] [] [] [] [] []
theorem Z194.eq (x0 : ByteArray) (x1 : ByteArray) : V.evBody Z194.E Z194.con Tryz.f406 ((x0, x1) : ByteArray × ByteArray) = Z194 x0 x1 := by kernel_rfl
theorem Z194.ok : V.Valid Tryz.prog 406 Z194.con :=
  V.fo (V.tab_cons Z195.ok V.tab_nil) Tryz.func406 (by kernel_rfl) (fun x y h => (show V.evBody Z194.E Z194.con Tryz.f406 x = _ from Z194.eq x.1 x.2).trans (V.cfl (by kernel_rfl) h))
noncomputable abbrev Z188.con : V.Con := ⟨(.cons .str (.cons .str .nil)), (.cons (.int .i64) .nil), fun (x : ByteArray × ByteArray) => Z188 x.1 x.2, [], [(false, 1), (false, 1)], [(false, 1)], [false], []⟩
noncomputable abbrev Z188.E : V.Env := V.mkE V.tys [(406, Z194.con)] [] [] [] [] []
theorem Z188.eq (x0 : ByteArray) (x1 : ByteArray) : V.evBody Z188.E Z188.con Tryz.f342 ((x0, x1) : ByteArray × ByteArray) = Z188 x0 x1 := by kernel_rfl
theorem Z188.ok : V.Valid Tryz.prog 342 Z188.con :=
  V.fo (V.tab_cons Z194.ok V.tab_nil) Tryz.func342 (by kernel_rfl) (fun x y h => (show V.evBody Z188.E Z188.con Tryz.f342 x = _ from Z188.eq x.1 x.2).trans (V.cfl (by kernel_rfl) h))
noncomputable abbrev Z18.con : V.Con := ⟨(.cons (.sl V.eEntry) .nil), (.cons .bool .nil), fun (x : List TEntry) => Z18 x, [], [(false, 1)], [(false, 1)], [false], []⟩
noncomputable abbrev Z18.E : V.Env := V.mkE V.tys [(341, Z160.con), (342, Z188.con)] [(4, [0, 5, 6, 7], [])] [(4, 15)] [] [] []
noncomputable abbrev Z18.kt (x0 : List TEntry) : V.Kt Bool := V.ktOf Z18.E Z18.con Tryz.f220 ((x0) : List TEntry)
noncomputable abbrev Z18.s4 (x0 : List TEntry) (v4_2 : Int) (v4_3 : Int) : V.St := ⟨[(0, .v false [.val (.sl V.eEntry x0)]), (5, .v false [.val (.sl V.eEntry x0)]), (6, .v false [.val (.int .i64 v4_2)]), (7, .v false [.val (.int .i64 v4_3)])], []⟩
theorem Z18.r4 (x0 : List TEntry) (R : V.St → Option Bool) (v4_2 : Int) (v4_3 : Int) : V.loopF Z18.E Tryz.f220.ntmps [1, 0, 1, 0] [] (V.codeOf Tryz.f220) (Z18.kt x0) R (Z18.s4 x0 v4_2 v4_3) = Z18.g4 x0 (fun v4_2 v4_3 => R (Z18.s4 x0 v4_2 v4_3)) v4_2 v4_3 := by kernel_rfl
theorem Z18.e4 (x0 : List TEntry) : ∀ (n : Nat) (v4_2 : Int) (v4_3 : Int), V.loopN (V.loopF Z18.E Tryz.f220.ntmps [1, 0, 1, 0] [] (V.codeOf Tryz.f220) (Z18.kt x0)) n (Z18.s4 x0 v4_2 v4_3) = Z18.l4 x0 n v4_2 v4_3 := by
  intro n
  induction n with
  | zero => intros; rw [V.loopN_z]; rfl
  | succ n ih =>
    intro v4_2 v4_3
    rw [V.loopN_s, Z18.r4]
    simp only [ih]
    first | exact (Z18.u4 ..).symm | rfl
theorem Z18.v (x0 : List TEntry) : V.evBody Z18.E Z18.con Tryz.f220 ((x0) : List TEntry) = Z18.b x0 (fun v4_2 v4_3 => V.loopN (V.loopF Z18.E Tryz.f220.ntmps [1, 0, 1, 0] [] (V.codeOf Tryz.f220) (Z18.kt x0)) V.KK (Z18.s4 x0 v4_2 v4_3)) := by kernel_rfl
theorem Z18.eq (x0 : List TEntry) : V.evBody Z18.E Z18.con Tryz.f220 ((x0) : List TEntry) = Z18 x0 := by
  rw [Z18.v]
  simp only [Z18.e4]
  rfl
theorem Z18.ok : V.Valid Tryz.prog 220 Z18.con :=
  V.fo (V.tab_cons Z160.ok (V.tab_cons Z188.ok V.tab_nil)) Tryz.func220 (by kernel_rfl) (fun x y h => (show V.evBody Z18.E Z18.con Tryz.f220 x = _ from Z18.eq x).trans (V.cfl (by kernel_rfl) h))
noncomputable abbrev Z58.con : V.Con := ⟨(.cons (.sl (.cons (.int .u8) .nil)) .nil), (.cons (.sl (.cons (.int .i64) .nil)) .nil), fun (x : List Int) => Z58 x, [], [(false, 1)], [(false, 1)], [true], []⟩
noncomputable abbrev Z58.E : V.Env := V.mkE V.tys [] [(6, [3, 9, 10, 11], [])] [] [] [] []
noncomputable abbrev Z58.kt (x0 : List Int) : V.Kt (List Int) := V.ktOf Z58.E Z58.con Tryz.f458 ((x0) : List Int)
noncomputable abbrev Z58.s6 (x0 : List Int) (v6_1 : Int) (v6_2 : Int) (v6_3 : List Int) : V.St := ⟨[(3, .v false [.ref 64000038400192]), (9, .v false [.val (.sl (.cons (.int .u8) .nil) x0)]), (10, .v false [.val (.int .i64 v6_1)]), (11, .v false [.val (.int .i64 v6_2)])], [(64000038400192, .row (.cons (.int .i64) .nil) true v6_3)]⟩
theorem Z58.r6 (x0 : List Int) (R : V.St → Option (List Int)) (v6_1 : Int) (v6_2 : Int) (v6_3 : List Int) : V.loopF Z58.E Tryz.f458.ntmps [1, 1, 0, 1, 0] [] (V.codeOf Tryz.f458) (Z58.kt x0) R (Z58.s6 x0 v6_1 v6_2 v6_3) = Z58.g6 x0 (fun v6_1 v6_2 v6_3 => R (Z58.s6 x0 v6_1 v6_2 v6_3)) v6_1 v6_2 v6_3 := by kernel_rfl
theorem Z58.e6 (x0 : List Int) : ∀ (n : Nat) (v6_1 : Int) (v6_2 : Int) (v6_3 : List Int), V.loopN (V.loopF Z58.E Tryz.f458.ntmps [1, 1, 0, 1, 0] [] (V.codeOf Tryz.f458) (Z58.kt x0)) n (Z58.s6 x0 v6_1 v6_2 v6_3) = Z58.l6 x0 n v6_1 v6_2 v6_3 := by
  intro n
  induction n with
  | zero => intros; rw [V.loopN_z]; rfl
  | succ n ih =>
    intro v6_1 v6_2 v6_3
    rw [V.loopN_s, Z58.r6]
    simp only [ih]
    first | exact (Z58.u6 ..).symm | rfl
theorem Z58.v (x0 : List Int) : V.evBody Z58.E Z58.con Tryz.f458 ((x0) : List Int) = Z58.b x0 (fun v6_1 v6_2 v6_3 => V.loopN (V.loopF Z58.E Tryz.f458.ntmps [1, 1, 0, 1, 0] [] (V.codeOf Tryz.f458) (Z58.kt x0)) V.KK (Z58.s6 x0 v6_1 v6_2 v6_3)) := by kernel_rfl
theorem Z58.eq (x0 : List Int) : V.evBody Z58.E Z58.con Tryz.f458 ((x0) : List Int) = Z58 x0 := by
  rw [Z58.v]
  simp only [Z58.e6]
  rfl
theorem Z58.ok : V.Valid Tryz.prog 458 Z58.con :=
  V.fo V.tab_nil Tryz.func458 (by kernel_rfl) (fun x y h => (show V.evBody Z58.E Z58.con Tryz.f458 x = _ from Z58.eq x).trans (V.cfl (by kernel_rfl) h))
noncomputable abbrev Z136.con : V.Con := ⟨(.cons .str .nil), (.cons (.sl (.cons (.int .i64) .nil)) .nil), fun (x : ByteArray) => Z136 x, [], [(false, 1)], [(false, 1)], [true], []⟩
noncomputable abbrev Z136.E : V.Env := V.mkE V.tys [(458, Z58.con)] [] [] [] [] []
theorem Z136.eq (x0 : ByteArray) : V.evBody Z136.E Z136.con Tryz.f455 ((x0) : ByteArray) = Z136 x0 := by kernel_rfl
theorem Z136.ok : V.Valid Tryz.prog 455 Z136.con :=
  V.fo (V.tab_cons Z58.ok V.tab_nil) Tryz.func455 (by kernel_rfl) (fun x y h => (show V.evBody Z136.E Z136.con Tryz.f455 x = _ from Z136.eq x).trans (V.cfl (by kernel_rfl) h))
noncomputable abbrev Z59.con : V.Con := ⟨V.eEntry, (.cons (.sl (.cons (.int .i64) .nil)) .nil), fun (x : ByteArray × Int × Int × List ByteArray) => Z59 x, [], [(true, 4)], [(false, 1)], [true], []⟩
noncomputable abbrev Z59.E : V.Env := V.mkE V.tys [(455, Z136.con)] [(6, [3, 19, 20, 21], [])] [(1, 11)] [] [] []
noncomputable abbrev Z59.kt (x0 : TEntry) : V.Kt (List Int) := V.ktOf Z59.E Z59.con Tryz.f442 ((x0.1, x0.2.1, x0.2.2.1, x0.2.2.2) : ByteArray × Int × Int × List ByteArray)
noncomputable abbrev Z59.s6 (x0 : TEntry) (v6_1 : Int) (v6_2 : Int) (v6_3 : List Int) : V.St := ⟨[(3, .v false [.ref 64000038400192]), (19, .v false [.val (.sl (.cons .str .nil) x0.2.2.2)]), (20, .v false [.val (.int .i64 v6_1)]), (21, .v false [.val (.int .i64 v6_2)])], [(64000038400192, .row (.cons (.int .i64) .nil) true v6_3)]⟩
theorem Z59.r6 (x0 : TEntry) (R : V.St → Option (List Int)) (v6_1 : Int) (v6_2 : Int) (v6_3 : List Int) : V.loopF Z59.E Tryz.f442.ntmps [1, 1, 0, 1, 0] [] (V.codeOf Tryz.f442) (Z59.kt x0) R (Z59.s6 x0 v6_1 v6_2 v6_3) = Z59.g6 x0 (fun v6_1 v6_2 v6_3 => R (Z59.s6 x0 v6_1 v6_2 v6_3)) v6_1 v6_2 v6_3 := by kernel_rfl
theorem Z59.e6 (x0 : TEntry) : ∀ (n : Nat) (v6_1 : Int) (v6_2 : Int) (v6_3 : List Int), V.loopN (V.loopF Z59.E Tryz.f442.ntmps [1, 1, 0, 1, 0] [] (V.codeOf Tryz.f442) (Z59.kt x0)) n (Z59.s6 x0 v6_1 v6_2 v6_3) = Z59.l6 x0 n v6_1 v6_2 v6_3 := by
  intro n
  induction n with
  | zero => intros; rw [V.loopN_z]; rfl
  | succ n ih =>
    intro v6_1 v6_2 v6_3
    rw [V.loopN_s, Z59.r6]
    simp only [ih]
    first | exact (Z59.u6 ..).symm | rfl
theorem Z59.v (x0 : TEntry) : V.evBody Z59.E Z59.con Tryz.f442 ((x0.1, x0.2.1, x0.2.2.1, x0.2.2.2) : ByteArray × Int × Int × List ByteArray) = Z59.b x0 (fun v6_1 v6_2 v6_3 => V.loopN (V.loopF Z59.E Tryz.f442.ntmps [1, 1, 0, 1, 0] [] (V.codeOf Tryz.f442) (Z59.kt x0)) V.KK (Z59.s6 x0 v6_1 v6_2 v6_3)) := by kernel_rfl
theorem Z59.eq (x0 : TEntry) : V.evBody Z59.E Z59.con Tryz.f442 ((x0.1, x0.2.1, x0.2.2.1, x0.2.2.2) : ByteArray × Int × Int × List ByteArray) = Z59 x0 := by
  rw [Z59.v]
  simp only [Z59.e6]
  rfl
theorem Z59.ok : V.Valid Tryz.prog 442 Z59.con :=
  V.fo (V.tab_cons Z136.ok V.tab_nil) Tryz.func442 (by kernel_rfl) (fun x y h => (show V.evBody Z59.E Z59.con Tryz.f442 x = _ from Z59.eq x).trans (V.cfl (by kernel_rfl) h))
noncomputable abbrev Z145.con : V.Con := ⟨V.eEntry, (.cons (.int .i64) .nil), fun (x : ByteArray × Int × Int × List ByteArray) => Z145 x, [], [(true, 4)], [(false, 1)], [false], []⟩
noncomputable abbrev Z145.E : V.Env := V.mkE V.tys [(262, Z10.con), (442, Z59.con)] [] [] [] [] []
theorem Z145.eq (x0 : TEntry) : V.evBody Z145.E Z145.con Tryz.f409 ((x0.1, x0.2.1, x0.2.2.1, x0.2.2.2) : ByteArray × Int × Int × List ByteArray) = Z145 x0 := by kernel_rfl
theorem Z145.ok : V.Valid Tryz.prog 409 Z145.con :=
  V.fo (V.tab_cons Z10.ok (V.tab_cons Z59.ok V.tab_nil)) Tryz.func409 (by kernel_rfl) (fun x y h => (show V.evBody Z145.E Z145.con Tryz.f409 x = _ from Z145.eq x).trans (V.cfl (by kernel_rfl) h))
noncomputable abbrev Z61.con : V.Con := ⟨(.cons (.sl V.eEntry) .nil), (.cons (.sl (.cons (.int .i64) .nil)) .nil), fun (x : List TEntry) => Z61 x, [], [(false, 1)], [(false, 1)], [true], []⟩
noncomputable abbrev Z61.E : V.Env := V.mkE V.tys [(409, Z145.con)] [(6, [3, 7, 8, 9], [(64000038400192, (.cons (.int .i64) .nil), true)])] [] [] [] []
noncomputable abbrev Z61.kt (x0 : List TEntry) : V.Kt (List Int) := V.ktOf Z61.E Z61.con Tryz.f346 ((x0) : List TEntry)
noncomputable abbrev Z61.s6 (x0 : List TEntry) (v6_1 : Int) (v6_2 : Int) (v6_3 : List Int) : V.St := ⟨[(3, .v false [.ref 64000038400192]), (7, .v false [.val (.sl V.eEntry x0)]), (8, .v false [.val (.int .i64 v6_1)]), (9, .v false [.val (.int .i64 v6_2)])], [(64000038400192, .row (.cons (.int .i64) .nil) true v6_3)]⟩
theorem Z61.r6 (x0 : List TEntry) (R : V.St → Option (List Int)) (v6_1 : Int) (v6_2 : Int) (v6_3 : List Int) : V.loopF Z61.E Tryz.f346.ntmps [1, 1, 0, 1, 0] [] (V.codeOf Tryz.f346) (Z61.kt x0) R (Z61.s6 x0 v6_1 v6_2 v6_3) = Z61.g6 x0 (fun v6_1 v6_2 v6_3 => R (Z61.s6 x0 v6_1 v6_2 v6_3)) v6_1 v6_2 v6_3 := by kernel_rfl
theorem Z61.e6 (x0 : List TEntry) : ∀ (n : Nat) (v6_1 : Int) (v6_2 : Int) (v6_3 : List Int), V.loopN (V.loopF Z61.E Tryz.f346.ntmps [1, 1, 0, 1, 0] [] (V.codeOf Tryz.f346) (Z61.kt x0)) n (Z61.s6 x0 v6_1 v6_2 v6_3) = Z61.l6 x0 n v6_1 v6_2 v6_3 := by
  intro n
  induction n with
  | zero => intros; rw [V.loopN_z]; rfl
  | succ n ih =>
    intro v6_1 v6_2 v6_3
    rw [V.loopN_s, Z61.r6]
    simp only [ih]
    first | exact (Z61.u6 ..).symm | rfl
theorem Z61.v (x0 : List TEntry) : V.evBody Z61.E Z61.con Tryz.f346 ((x0) : List TEntry) = Z61.b x0 (fun v6_1 v6_2 v6_3 => V.loopN (V.loopF Z61.E Tryz.f346.ntmps [1, 1, 0, 1, 0] [] (V.codeOf Tryz.f346) (Z61.kt x0)) V.KK (Z61.s6 x0 v6_1 v6_2 v6_3)) := by kernel_rfl
theorem Z61.eq (x0 : List TEntry) : V.evBody Z61.E Z61.con Tryz.f346 ((x0) : List TEntry) = Z61 x0 := by
  rw [Z61.v]
  simp only [Z61.e6]
  rfl
theorem Z61.ok : V.Valid Tryz.prog 346 Z61.con :=
  V.fo (V.tab_cons Z145.ok V.tab_nil) Tryz.func346 (by kernel_rfl) (fun x y h => (show V.evBody Z61.E Z61.con Tryz.f346 x = _ from Z61.eq x).trans (V.cfl (by kernel_rfl) h))
noncomputable abbrev Z122.con : V.Con := ⟨(.cons (.sl (.cons (.int .i64) .nil)) .nil), (.cons (.int .i64) .nil), fun (x : List Int) => Z122 x, [], [(false, 1)], [(false, 1)], [false], []⟩
noncomputable abbrev Z122.E : V.Env := V.mkE V.tys [(262, Z10.con)] [] [] [] [] []
theorem Z122.eq (x0 : List Int) : V.evBody Z122.E Z122.con Tryz.f407 ((x0) : List Int) = Z122 x0 := by kernel_rfl
theorem Z122.ok : V.Valid Tryz.prog 407 Z122.con :=
  V.fo (V.tab_cons Z10.ok V.tab_nil) Tryz.func407 (by kernel_rfl) (fun x y h => (show V.evBody Z122.E Z122.con Tryz.f407 x = _ from Z122.eq x).trans (V.cfl (by kernel_rfl) h))
noncomputable abbrev Z165.con : V.Con := ⟨(.cons (.int .i64) (.cons (.int .i64) .nil)), (.cons (.int .i64) .nil), fun (x : Int × Int) => Z165 x.1 x.2, [], [(false, 1), (false, 1)], [(false, 1)], [false], []⟩
noncomputable abbrev Z165.E : V.Env := V.mkE V.tys [(407, Z122.con)] [] [] [] [] []
theorem Z165.eq (x0 : Int) (x1 : Int) : V.evBody Z165.E Z165.con Tryz.f441 ((x0, x1) : Int × Int) = Z165 x0 x1 := by kernel_rfl
theorem Z165.ok : V.Valid Tryz.prog 441 Z165.con :=
  V.fo (V.tab_cons Z122.ok V.tab_nil) Tryz.func441 (by kernel_rfl) (fun x y h => (show V.evBody Z165.E Z165.con Tryz.f441 x = _ from Z165.eq x.1 x.2).trans (V.cfl (by kernel_rfl) h))
end Go.Proofs.YtmplinobompncaaGreat
