/- That the functions compute it. -/
import Derived.Test.YtbdifkeoiodalaaXEqualServersPure0
import Derived.Test.YtbdifkeoiodalaaProg
namespace Go.Proofs.Ytbdifkeoiodalaa
set_option linter.unusedVariables false
set_option maxRecDepth 100000
namespace V
abbrev eEntry : ETy := (.cons .str (.cons (.int .i64) (.cons (.int .i64) (.cons (.sl (.cons .str .nil)) .nil))))
abbrev eHead : ETy := (.cons (.int .i64) (.cons (.int .i64) (.cons (.int .i64) (.cons (.int .i64) (.cons (.int .i64) (.cons (.int .i64) (.cons (.int .i64) (.cons (.int .i64) (.cons (.sl (.cons (.int .i64) .nil)) (.cons (.int .i64) (.cons (.sl (.cons (.int .i64) .nil)) (.cons (.int .i64) (.cons (.int .i64) (.cons (.sl (.cons (.int .i64) .nil)) (.cons (.int .i64) (.cons .bool .nil))))))))))))))))
abbrev eSigned : ETy := (.cons (.int .i64) (.cons (.int .i64) (.cons (.int .i64) (.cons (.int .i64) (.cons (.int .i64) (.cons (.int .i64) (.cons (.int .i64) (.cons (.int .i64) (.cons (.sl (.cons (.int .i64) .nil)) (.cons (.int .i64) (.cons (.sl (.cons (.int .i64) .nil)) (.cons (.int .i64) (.cons (.int .i64) (.cons (.sl (.cons (.int .i64) .nil)) (.cons (.int .i64) (.cons .bool (.cons (.sl (.cons (.int .i64) (.cons (.int .i64) .nil))) .nil)))))))))))))))))
abbrev D0 : Type := Int × Int × Int × Int × Int × Int × Int × Int × List Int × Int × List Int × Int × Int × List Int × Int × Bool × Int
abbrev A0 : ETy := (.cons (.int .i64) (.cons (.int .i64) (.cons (.int .i64) (.cons (.int .i64) (.cons (.int .i64) (.cons (.int .i64) (.cons (.int .i64) (.cons (.int .i64) (.cons (.sl (.cons (.int .i64) .nil)) (.cons (.int .i64) (.cons (.sl (.cons (.int .i64) .nil)) (.cons (.int .i64) (.cons (.int .i64) (.cons (.sl (.cons (.int .i64) .nil)) (.cons (.int .i64) (.cons .bool (.cons (.int .i64) .nil)))))))))))))))))
abbrev fl0 (x0 : THead) (x1 : Int) : D0 := (x0.1, x0.2.1, x0.2.2.1, x0.2.2.2.1, x0.2.2.2.2.1, x0.2.2.2.2.2.1, x0.2.2.2.2.2.2.1, x0.2.2.2.2.2.2.2.1, x0.2.2.2.2.2.2.2.2.1, x0.2.2.2.2.2.2.2.2.2.1, x0.2.2.2.2.2.2.2.2.2.2.1, x0.2.2.2.2.2.2.2.2.2.2.2.1, x0.2.2.2.2.2.2.2.2.2.2.2.2.1, x0.2.2.2.2.2.2.2.2.2.2.2.2.2.1, x0.2.2.2.2.2.2.2.2.2.2.2.2.2.2.1, x0.2.2.2.2.2.2.2.2.2.2.2.2.2.2.2, x1)
abbrev p0_0 (x : D0) : THead := (x.1, x.2.1, x.2.2.1, x.2.2.2.1, x.2.2.2.2.1, x.2.2.2.2.2.1, x.2.2.2.2.2.2.1, x.2.2.2.2.2.2.2.1, x.2.2.2.2.2.2.2.2.1, x.2.2.2.2.2.2.2.2.2.1, x.2.2.2.2.2.2.2.2.2.2.1, x.2.2.2.2.2.2.2.2.2.2.2.1, x.2.2.2.2.2.2.2.2.2.2.2.2.1, x.2.2.2.2.2.2.2.2.2.2.2.2.2.1, x.2.2.2.2.2.2.2.2.2.2.2.2.2.2.1, x.2.2.2.2.2.2.2.2.2.2.2.2.2.2.2.1)
abbrev p0_1 (x : D0) : Int := x.2.2.2.2.2.2.2.2.2.2.2.2.2.2.2.2
abbrev D1 : Type := Int × Int × Int × Int × Int × Int × Int × Int × List Int × Int × List Int × Int × Int × List Int × Int × Bool × List TSig × Int
abbrev A1 : ETy := (.cons (.int .i64) (.cons (.int .i64) (.cons (.int .i64) (.cons (.int .i64) (.cons (.int .i64) (.cons (.int .i64) (.cons (.int .i64) (.cons (.int .i64) (.cons (.sl (.cons (.int .i64) .nil)) (.cons (.int .i64) (.cons (.sl (.cons (.int .i64) .nil)) (.cons (.int .i64) (.cons (.int .i64) (.cons (.sl (.cons (.int .i64) .nil)) (.cons (.int .i64) (.cons .bool (.cons (.sl (.cons (.int .i64) (.cons (.int .i64) .nil))) (.cons (.int .i64) .nil))))))))))))))))))
abbrev fl1 (x0 : TSigned) (x1 : Int) : D1 := (x0.1, x0.2.1, x0.2.2.1, x0.2.2.2.1, x0.2.2.2.2.1, x0.2.2.2.2.2.1, x0.2.2.2.2.2.2.1, x0.2.2.2.2.2.2.2.1, x0.2.2.2.2.2.2.2.2.1, x0.2.2.2.2.2.2.2.2.2.1, x0.2.2.2.2.2.2.2.2.2.2.1, x0.2.2.2.2.2.2.2.2.2.2.2.1, x0.2.2.2.2.2.2.2.2.2.2.2.2.1, x0.2.2.2.2.2.2.2.2.2.2.2.2.2.1, x0.2.2.2.2.2.2.2.2.2.2.2.2.2.2.1, x0.2.2.2.2.2.2.2.2.2.2.2.2.2.2.2.1, x0.2.2.2.2.2.2.2.2.2.2.2.2.2.2.2.2, x1)
abbrev p1_0 (x : D1) : TSigned := (x.1, x.2.1, x.2.2.1, x.2.2.2.1, x.2.2.2.2.1, x.2.2.2.2.2.1, x.2.2.2.2.2.2.1, x.2.2.2.2.2.2.2.1, x.2.2.2.2.2.2.2.2.1, x.2.2.2.2.2.2.2.2.2.1, x.2.2.2.2.2.2.2.2.2.2.1, x.2.2.2.2.2.2.2.2.2.2.2.1, x.2.2.2.2.2.2.2.2.2.2.2.2.1, x.2.2.2.2.2.2.2.2.2.2.2.2.2.1, x.2.2.2.2.2.2.2.2.2.2.2.2.2.2.1, x.2.2.2.2.2.2.2.2.2.2.2.2.2.2.2.1, x.2.2.2.2.2.2.2.2.2.2.2.2.2.2.2.2.1)
abbrev p1_1 (x : D1) : Int := x.2.2.2.2.2.2.2.2.2.2.2.2.2.2.2.2.2
abbrev D2 : Type := Int × Int × Int × Int × Int × Int × Int × Int × List Int × Int × List Int × Int × Int × List Int × Int × Bool
abbrev A2 : ETy := eHead
abbrev fl2 (x0 : THead) : D2 := (x0.1, x0.2.1, x0.2.2.1, x0.2.2.2.1, x0.2.2.2.2.1, x0.2.2.2.2.2.1, x0.2.2.2.2.2.2.1, x0.2.2.2.2.2.2.2.1, x0.2.2.2.2.2.2.2.2.1, x0.2.2.2.2.2.2.2.2.2.1, x0.2.2.2.2.2.2.2.2.2.2.1, x0.2.2.2.2.2.2.2.2.2.2.2.1, x0.2.2.2.2.2.2.2.2.2.2.2.2.1, x0.2.2.2.2.2.2.2.2.2.2.2.2.2.1, x0.2.2.2.2.2.2.2.2.2.2.2.2.2.2.1, x0.2.2.2.2.2.2.2.2.2.2.2.2.2.2.2)
abbrev p2_0 (x : D2) : THead := x
abbrev D3 : Type := Int × Int × Int × Int × Int × Int × Int × Int × List Int × Int × List Int × Int × Int × List Int × Int × Bool × List TSig
abbrev A3 : ETy := eSigned
abbrev fl3 (x0 : TSigned) : D3 := (x0.1, x0.2.1, x0.2.2.1, x0.2.2.2.1, x0.2.2.2.2.1, x0.2.2.2.2.2.1, x0.2.2.2.2.2.2.1, x0.2.2.2.2.2.2.2.1, x0.2.2.2.2.2.2.2.2.1, x0.2.2.2.2.2.2.2.2.2.1, x0.2.2.2.2.2.2.2.2.2.2.1, x0.2.2.2.2.2.2.2.2.2.2.2.1, x0.2.2.2.2.2.2.2.2.2.2.2.2.1, x0.2.2.2.2.2.2.2.2.2.2.2.2.2.1, x0.2.2.2.2.2.2.2.2.2.2.2.2.2.2.1, x0.2.2.2.2.2.2.2.2.2.2.2.2.2.2.2.1, x0.2.2.2.2.2.2.2.2.2.2.2.2.2.2.2.2)
abbrev p3_0 (x : D3) : TSigned := x
abbrev D4 : Type := Int × Int × Int × Int × Int × Int × Int × Int × List Int × Int × List Int × Int × Int × List Int × Int × Bool × Int × Int × Int × Int × Int × Int × Int × Int × List Int × Int × List Int × Int × Int × List Int × Int × Bool
abbrev A4 : ETy := (.cons (.int .i64) (.cons (.int .i64) (.cons (.int .i64) (.cons (.int .i64) (.cons (.int .i64) (.cons (.int .i64) (.cons (.int .i64) (.cons (.int .i64) (.cons (.sl (.cons (.int .i64) .nil)) (.cons (.int .i64) (.cons (.sl (.cons (.int .i64) .nil)) (.cons (.int .i64) (.cons (.int .i64) (.cons (.sl (.cons (.int .i64) .nil)) (.cons (.int .i64) (.cons .bool (.cons (.int .i64) (.cons (.int .i64) (.cons (.int .i64) (.cons (.int .i64) (.cons (.int .i64) (.cons (.int .i64) (.cons (.int .i64) (.cons (.int .i64) (.cons (.sl (.cons (.int .i64) .nil)) (.cons (.int .i64) (.cons (.sl (.cons (.int .i64) .nil)) (.cons (.int .i64) (.cons (.int .i64) (.cons (.sl (.cons (.int .i64) .nil)) (.cons (.int .i64) (.cons .bool .nil))))))))))))))))))))))))))))))))
abbrev fl4 (x0 : THead) (x1 : THead) : D4 := (x0.1, x0.2.1, x0.2.2.1, x0.2.2.2.1, x0.2.2.2.2.1, x0.2.2.2.2.2.1, x0.2.2.2.2.2.2.1, x0.2.2.2.2.2.2.2.1, x0.2.2.2.2.2.2.2.2.1, x0.2.2.2.2.2.2.2.2.2.1, x0.2.2.2.2.2.2.2.2.2.2.1, x0.2.2.2.2.2.2.2.2.2.2.2.1, x0.2.2.2.2.2.2.2.2.2.2.2.2.1, x0.2.2.2.2.2.2.2.2.2.2.2.2.2.1, x0.2.2.2.2.2.2.2.2.2.2.2.2.2.2.1, x0.2.2.2.2.2.2.2.2.2.2.2.2.2.2.2, x1.1, x1.2.1, x1.2.2.1, x1.2.2.2.1, x1.2.2.2.2.1, x1.2.2.2.2.2.1, x1.2.2.2.2.2.2.1, x1.2.2.2.2.2.2.2.1, x1.2.2.2.2.2.2.2.2.1, x1.2.2.2.2.2.2.2.2.2.1, x1.2.2.2.2.2.2.2.2.2.2.1, x1.2.2.2.2.2.2.2.2.2.2.2.1, x1.2.2.2.2.2.2.2.2.2.2.2.2.1, x1.2.2.2.2.2.2.2.2.2.2.2.2.2.1, x1.2.2.2.2.2.2.2.2.2.2.2.2.2.2.1, x1.2.2.2.2.2.2.2.2.2.2.2.2.2.2.2)
abbrev p4_0 (x : D4) : THead := (x.1, x.2.1, x.2.2.1, x.2.2.2.1, x.2.2.2.2.1, x.2.2.2.2.2.1, x.2.2.2.2.2.2.1, x.2.2.2.2.2.2.2.1, x.2.2.2.2.2.2.2.2.1, x.2.2.2.2.2.2.2.2.2.1, x.2.2.2.2.2.2.2.2.2.2.1, x.2.2.2.2.2.2.2.2.2.2.2.1, x.2.2.2.2.2.2.2.2.2.2.2.2.1, x.2.2.2.2.2.2.2.2.2.2.2.2.2.1, x.2.2.2.2.2.2.2.2.2.2.2.2.2.2.1, x.2.2.2.2.2.2.2.2.2.2.2.2.2.2.2.1)
abbrev p4_1 (x : D4) : THead := x.2.2.2.2.2.2.2.2.2.2.2.2.2.2.2.2
abbrev D5 : Type := Int × Int × Int × Int × Int × Int × Int × Int × List Int × Int × List Int × Int × Int × List Int × Int × Bool × List TSig × Int × Int × Int × Int × Int × Int × Int × Int × List Int × Int × List Int × Int × Int × List Int × Int × Bool × List TSig
abbrev A5 : ETy := (.cons (.int .i64) (.cons (.int .i64) (.cons (.int .i64) (.cons (.int .i64) (.cons (.int .i64) (.cons (.int .i64) (.cons (.int .i64) (.cons (.int .i64) (.cons (.sl (.cons (.int .i64) .nil)) (.cons (.int .i64) (.cons (.sl (.cons (.int .i64) .nil)) (.cons (.int .i64) (.cons (.int .i64) (.cons (.sl (.cons (.int .i64) .nil)) (.cons (.int .i64) (.cons .bool (.cons (.sl (.cons (.int .i64) (.cons (.int .i64) .nil))) (.cons (.int .i64) (.cons (.int .i64) (.cons (.int .i64) (.cons (.int .i64) (.cons (.int .i64) (.cons (.int .i64) (.cons (.int .i64) (.cons (.int .i64) (.cons (.sl (.cons (.int .i64) .nil)) (.cons (.int .i64) (.cons (.sl (.cons (.int .i64) .nil)) (.cons (.int .i64) (.cons (.int .i64) (.cons (.sl (.cons (.int .i64) .nil)) (.cons (.int .i64) (.cons .bool (.cons (.sl (.cons (.int .i64) (.cons (.int .i64) .nil))) .nil))))))))))))))))))))))))))))))))))
abbrev fl5 (x0 : TSigned) (x1 : TSigned) : D5 := (x0.1, x0.2.1, x0.2.2.1, x0.2.2.2.1, x0.2.2.2.2.1, x0.2.2.2.2.2.1, x0.2.2.2.2.2.2.1, x0.2.2.2.2.2.2.2.1, x0.2.2.2.2.2.2.2.2.1, x0.2.2.2.2.2.2.2.2.2.1, x0.2.2.2.2.2.2.2.2.2.2.1, x0.2.2.2.2.2.2.2.2.2.2.2.1, x0.2.2.2.2.2.2.2.2.2.2.2.2.1, x0.2.2.2.2.2.2.2.2.2.2.2.2.2.1, x0.2.2.2.2.2.2.2.2.2.2.2.2.2.2.1, x0.2.2.2.2.2.2.2.2.2.2.2.2.2.2.2.1, x0.2.2.2.2.2.2.2.2.2.2.2.2.2.2.2.2, x1.1, x1.2.1, x1.2.2.1, x1.2.2.2.1, x1.2.2.2.2.1, x1.2.2.2.2.2.1, x1.2.2.2.2.2.2.1, x1.2.2.2.2.2.2.2.1, x1.2.2.2.2.2.2.2.2.1, x1.2.2.2.2.2.2.2.2.2.1, x1.2.2.2.2.2.2.2.2.2.2.1, x1.2.2.2.2.2.2.2.2.2.2.2.1, x1.2.2.2.2.2.2.2.2.2.2.2.2.1, x1.2.2.2.2.2.2.2.2.2.2.2.2.2.1, x1.2.2.2.2.2.2.2.2.2.2.2.2.2.2.1, x1.2.2.2.2.2.2.2.2.2.2.2.2.2.2.2.1, x1.2.2.2.2.2.2.2.2.2.2.2.2.2.2.2.2)
abbrev p5_0 (x : D5) : TSigned := (x.1, x.2.1, x.2.2.1, x.2.2.2.1, x.2.2.2.2.1, x.2.2.2.2.2.1, x.2.2.2.2.2.2.1, x.2.2.2.2.2.2.2.1, x.2.2.2.2.2.2.2.2.1, x.2.2.2.2.2.2.2.2.2.1, x.2.2.2.2.2.2.2.2.2.2.1, x.2.2.2.2.2.2.2.2.2.2.2.1, x.2.2.2.2.2.2.2.2.2.2.2.2.1, x.2.2.2.2.2.2.2.2.2.2.2.2.2.1, x.2.2.2.2.2.2.2.2.2.2.2.2.2.2.1, x.2.2.2.2.2.2.2.2.2.2.2.2.2.2.2.1, x.2.2.2.2.2.2.2.2.2.2.2.2.2.2.2.2.1)
abbrev p5_1 (x : D5) : TSigned := x.2.2.2.2.2.2.2.2.2.2.2.2.2.2.2.2.2
abbrev tys : List (Nat × TI) := [(3, ⟨.int .i64, false, [.val (.int .i64 (0 : Int))], 8, [], (.cons (.int .i64) .nil)⟩),
  (4, ⟨.bool, false, [.val (.bool false)], 1, [], (.cons .bool .nil)⟩),
  (9, ⟨.str, false, [.val (.str (⟨#[]⟩ : ByteArray))], 16, [], (.cons .str .nil)⟩),
  (22, ⟨.sl 3, false, [.nil0], 24, [], (.cons (.sl (.cons (.int .i64) .nil)) .nil)⟩),
  (24, ⟨.st, false, [.nil0, .val (.int .i64 (0 : Int))], 32, [(0, 1, false), (1, 1, false)], (.cons (.sl (.cons (.int .i64) .nil)) (.cons (.int .i64) .nil))⟩),
  (26, ⟨.st, false, [.val (.int .i64 (0 : Int)), .val (.int .i64 (0 : Int)), .val (.int .i64 (0 : Int)), .val (.int .i64 (0 : Int)), .val (.int .i64 (0 : Int)), .val (.int .i64 (0 : Int)), .val (.int .i64 (0 : Int)), .val (.int .i64 (0 : Int)), .nil0, .val (.int .i64 (0 : Int)), .nil0, .val (.int .i64 (0 : Int)), .val (.int .i64 (0 : Int)), .nil0, .val (.int .i64 (0 : Int)), .val (.bool false)], 176, [(0, 1, false), (1, 1, false), (2, 1, false), (3, 1, false), (4, 1, false), (5, 1, false), (6, 1, false), (7, 1, false), (8, 2, true), (10, 2, true), (12, 1, false), (13, 2, true), (15, 1, false)], V.eHead⟩),
  (29, ⟨.st, false, [.nil0, .val (.int .i64 (0 : Int))], 32, [(0, 1, false), (1, 1, false)], (.cons (.sl (.cons (.int .i64) .nil)) (.cons (.int .i64) .nil))⟩),
  (31, ⟨.st, false, [.val (.int .i64 (0 : Int)), .val (.int .i64 (0 : Int)), .val (.int .i64 (0 : Int)), .val (.int .i64 (0 : Int)), .val (.int .i64 (0 : Int)), .val (.int .i64 (0 : Int)), .val (.int .i64 (0 : Int)), .val (.int .i64 (0 : Int)), .nil0, .val (.int .i64 (0 : Int)), .nil0, .val (.int .i64 (0 : Int)), .val (.int .i64 (0 : Int)), .nil0, .val (.int .i64 (0 : Int)), .val (.bool false)], 176, [(0, 1, false), (1, 1, false), (2, 1, false), (3, 1, false), (4, 1, false), (5, 1, false), (6, 1, false), (7, 1, false), (8, 2, true), (10, 2, true), (12, 1, false), (13, 2, true), (15, 1, false)], V.eHead⟩),
  (55, ⟨.sl 180, false, [.nil0], 24, [], (.cons (.sl (.cons (.sl V.eSigned) (.cons (.sl V.eEntry) .nil))) .nil)⟩),
  (57, ⟨.st, false, [.nil0, .val (.int .i64 (0 : Int))], 32, [(0, 1, false), (1, 1, false)], (.cons (.sl (.cons (.sl V.eSigned) (.cons (.sl V.eEntry) .nil))) (.cons (.int .i64) .nil))⟩),
  (60, ⟨.sl 139, false, [.nil0], 24, [], (.cons (.sl (.cons (.sl V.eSigned) (.cons (.sl V.eEntry) .nil))) .nil)⟩),
  (62, ⟨.st, false, [.nil0, .val (.int .i64 (0 : Int))], 32, [(0, 1, false), (1, 1, false)], (.cons (.sl (.cons (.sl V.eSigned) (.cons (.sl V.eEntry) .nil))) (.cons (.int .i64) .nil))⟩),
  (65, ⟨.sl 93, false, [.nil0], 24, [], (.cons (.sl V.eSigned) .nil)⟩),
  (66, ⟨.sl 9, false, [.nil0], 24, [], (.cons (.sl (.cons .str .nil)) .nil)⟩),
  (68, ⟨.st, false, [.val (.str (⟨#[]⟩ : ByteArray)), .val (.int .i64 (0 : Int)), .val (.int .i64 (0 : Int)), .nil0], 56, [(0, 1, false), (1, 1, false), (2, 1, false), (3, 1, false)], V.eEntry⟩),
  (77, ⟨.sl 100, false, [.nil0], 24, [], (.cons (.sl V.eSigned) .nil)⟩),
  (78, ⟨.st, false, [.val (.str (⟨#[]⟩ : ByteArray)), .val (.int .i64 (0 : Int)), .val (.int .i64 (0 : Int)), .nil0], 56, [(0, 1, false), (1, 1, false), (2, 1, false), (3, 1, false)], V.eEntry⟩),
  (91, ⟨.sl 201, false, [.nil0], 24, [], (.cons (.sl (.cons (.int .i64) (.cons (.int .i64) .nil))) .nil)⟩),
  (93, ⟨.st, false, [.val (.int .i64 (0 : Int)), .val (.int .i64 (0 : Int)), .val (.int .i64 (0 : Int)), .val (.int .i64 (0 : Int)), .val (.int .i64 (0 : Int)), .val (.int .i64 (0 : Int)), .val (.int .i64 (0 : Int)), .val (.int .i64 (0 : Int)), .nil0, .val (.int .i64 (0 : Int)), .nil0, .val (.int .i64 (0 : Int)), .val (.int .i64 (0 : Int)), .nil0, .val (.int .i64 (0 : Int)), .val (.bool false), .nil0], 200, [(0, 16, true), (16, 1, false)], V.eSigned⟩),
  (98, ⟨.sl 188, false, [.nil0], 24, [], (.cons (.sl (.cons (.int .i64) (.cons (.int .i64) .nil))) .nil)⟩),
  (100, ⟨.st, false, [.val (.int .i64 (0 : Int)), .val (.int .i64 (0 : Int)), .val (.int .i64 (0 : Int)), .val (.int .i64 (0 : Int)), .val (.int .i64 (0 : Int)), .val (.int .i64 (0 : Int)), .val (.int .i64 (0 : Int)), .val (.int .i64 (0 : Int)), .nil0, .val (.int .i64 (0 : Int)), .nil0, .val (.int .i64 (0 : Int)), .val (.int .i64 (0 : Int)), .nil0, .val (.int .i64 (0 : Int)), .val (.bool false), .nil0], 200, [(0, 16, true), (16, 1, false)], V.eSigned⟩),
  (137, ⟨.sl 78, false, [.nil0], 24, [], (.cons (.sl V.eEntry) .nil)⟩),
  (139, ⟨.st, false, [.nil0, .nil0], 48, [(0, 1, false), (1, 1, false)], (.cons (.sl V.eSigned) (.cons (.sl V.eEntry) .nil))⟩),
  (178, ⟨.sl 68, false, [.nil0], 24, [], (.cons (.sl V.eEntry) .nil)⟩),
  (180, ⟨.st, false, [.nil0, .nil0], 48, [(0, 1, false), (1, 1, false)], (.cons (.sl V.eSigned) (.cons (.sl V.eEntry) .nil))⟩),
  (188, ⟨.st, true, [.val (.int .i64 (0 : Int)), .val (.int .i64 (0 : Int))], 16, [(0, 1, false), (1, 1, false)], (.cons (.int .i64) (.cons (.int .i64) .nil))⟩),
  (201, ⟨.st, true, [.val (.int .i64 (0 : Int)), .val (.int .i64 (0 : Int))], 16, [(0, 1, false), (1, 1, false)], (.cons (.int .i64) (.cons (.int .i64) .nil))⟩),
  (211, ⟨.sl 22, false, [.nil0], 24, [], (.cons (.sl (.cons (.sl (.cons (.int .i64) .nil)) .nil)) .nil)⟩)]
theorem tysOk : tyAll Try.prog tys = true := by kernel_rfl
theorem mixed : Try.prog.follows .mixedOrders = true := by kernel_rfl
end V
noncomputable abbrev laws_szIntS.con : V.Con := ⟨(.cons (.sl (.cons (.int .i64) .nil)) (.cons (.int .i64) .nil)), (.cons (.int .i64) .nil), fun (x : List Int × Int) => laws_szIntS x.1 x.2, [], [(false, 1), (false, 1)], [(false, 1)], [false], []⟩
noncomputable abbrev laws_szIntS.E : V.Env := V.mkE V.tys [] [] [] [] []
noncomputable abbrev laws_szIntS.kt (x0 : List Int) (x1 : Int) : V.Kt Int := V.ktOf laws_szIntS.E laws_szIntS.con Try.f72 ((x0, x1) : List Int × Int)
theorem laws_szIntS.eq (x0 : List Int) (x1 : Int) : V.evBody laws_szIntS.E laws_szIntS.con Try.f72 ((x0, x1) : List Int × Int) = laws_szIntS x0 x1 := by kernel_rfl
theorem laws_szIntS.ok : V.Valid Try.prog 72 laws_szIntS.con :=
  V.body_ok (V.env_ok V.mixed V.tysOk V.tab_nil) Try.func72 (by kernel_rfl) (by kernel_rfl) (by kernel_rfl) (fun x y h => (show V.evBody laws_szIntS.E laws_szIntS.con Try.f72 x = _ from laws_szIntS.eq x.1 x.2).trans h)
noncomputable abbrev laws_szKeys.con : V.Con := ⟨(.cons (.sl (.cons (.int .i64) .nil)) (.cons (.int .i64) (.cons (.int .i64) .nil))), (.cons (.int .i64) .nil), fun (x : List Int × Int × Int) => laws_szKeys (x.1, x.2.1) x.2.2, [], [(true, 2), (false, 1)], [(false, 1)], [false], []⟩
noncomputable abbrev laws_szKeys.E : V.Env := V.mkE V.tys [(72, laws_szIntS.con)] [] [] [] []
noncomputable abbrev laws_szKeys.kt (x0 : TKeys) (x1 : Int) : V.Kt Int := V.ktOf laws_szKeys.E laws_szKeys.con Try.f16 ((x0.1, x0.2, x1) : List Int × Int × Int)
theorem laws_szKeys.eq (x0 : TKeys) (x1 : Int) : V.evBody laws_szKeys.E laws_szKeys.con Try.f16 ((x0.1, x0.2, x1) : List Int × Int × Int) = laws_szKeys x0 x1 := by kernel_rfl
theorem laws_szKeys.ok : V.Valid Try.prog 16 laws_szKeys.con :=
  V.body_ok (V.env_ok V.mixed V.tysOk (V.tab_cons laws_szIntS.ok V.tab_nil)) Try.func16 (by kernel_rfl) (by kernel_rfl) (by kernel_rfl) (fun x y h => (show V.evBody laws_szKeys.E laws_szKeys.con Try.f16 x = _ from laws_szKeys.eq (x.1, x.2.1) x.2.2).trans h)
noncomputable abbrev laws_szHead.con : V.Con := ⟨V.A0, (.cons (.int .i64) .nil), fun (x : V.D0) => laws_szHead (V.p0_0 x) (V.p0_1 x), [], [(true, 16), (false, 1)], [(false, 1)], [false], []⟩
noncomputable abbrev laws_szHead.E : V.Env := V.mkE V.tys [(16, laws_szKeys.con)] [] [] [] []
noncomputable abbrev laws_szHead.kt (x0 : THead) (x1 : Int) : V.Kt Int := V.ktOf laws_szHead.E laws_szHead.con Try.f15 (V.fl0 x0 x1)
theorem laws_szHead.eq (x0 : THead) (x1 : Int) : V.evBody laws_szHead.E laws_szHead.con Try.f15 (V.fl0 x0 x1) = laws_szHead x0 x1 := by kernel_rfl
theorem laws_szHead.ok : V.Valid Try.prog 15 laws_szHead.con :=
  V.body_ok (V.env_ok V.mixed V.tysOk (V.tab_cons laws_szKeys.ok V.tab_nil)) Try.func15 (by kernel_rfl) (by kernel_rfl) (by kernel_rfl) (fun x y h => (show V.evBody laws_szHead.E laws_szHead.con Try.f15 x = _ from laws_szHead.eq (V.p0_0 x) (V.p0_1 x)).trans h)
noncomputable abbrev laws_szSigS.con : V.Con := ⟨(.cons (.sl (.cons (.int .i64) (.cons (.int .i64) .nil))) (.cons (.int .i64) .nil)), (.cons (.int .i64) .nil), fun (x : List TSig × Int) => laws_szSigS x.1 x.2, [], [(false, 1), (false, 1)], [(false, 1)], [false], []⟩
noncomputable abbrev laws_szSigS.E : V.Env := V.mkE V.tys [] [] [] [] []
noncomputable abbrev laws_szSigS.kt (x0 : List TSig) (x1 : Int) : V.Kt Int := V.ktOf laws_szSigS.E laws_szSigS.con Try.f160 ((x0, x1) : List TSig × Int)
theorem laws_szSigS.eq (x0 : List TSig) (x1 : Int) : V.evBody laws_szSigS.E laws_szSigS.con Try.f160 ((x0, x1) : List TSig × Int) = laws_szSigS x0 x1 := by kernel_rfl
theorem laws_szSigS.ok : V.Valid Try.prog 160 laws_szSigS.con :=
  V.body_ok (V.env_ok V.mixed V.tysOk V.tab_nil) Try.func160 (by kernel_rfl) (by kernel_rfl) (by kernel_rfl) (fun x y h => (show V.evBody laws_szSigS.E laws_szSigS.con Try.f160 x = _ from laws_szSigS.eq x.1 x.2).trans h)
noncomputable abbrev laws_szSigned.con : V.Con := ⟨V.A1, (.cons (.int .i64) .nil), fun (x : V.D1) => laws_szSigned (V.p1_0 x) (V.p1_1 x), [], [(true, 17), (false, 1)], [(false, 1)], [false], []⟩
noncomputable abbrev laws_szSigned.E : V.Env := V.mkE V.tys [(15, laws_szHead.con), (160, laws_szSigS.con)] [] [] [] []
noncomputable abbrev laws_szSigned.kt (x0 : TSigned) (x1 : Int) : V.Kt Int := V.ktOf laws_szSigned.E laws_szSigned.con Try.f117 (V.fl1 x0 x1)
theorem laws_szSigned.eq (x0 : TSigned) (x1 : Int) : V.evBody laws_szSigned.E laws_szSigned.con Try.f117 (V.fl1 x0 x1) = laws_szSigned x0 x1 := by kernel_rfl
theorem laws_szSigned.ok : V.Valid Try.prog 117 laws_szSigned.con :=
  V.body_ok (V.env_ok V.mixed V.tysOk (V.tab_cons laws_szHead.ok (V.tab_cons laws_szSigS.ok V.tab_nil))) Try.func117 (by kernel_rfl) (by kernel_rfl) (by kernel_rfl) (fun x y h => (show V.evBody laws_szSigned.E laws_szSigned.con Try.f117 x = _ from laws_szSigned.eq (V.p1_0 x) (V.p1_1 x)).trans h)
noncomputable abbrev laws_szSignedS.con : V.Con := ⟨(.cons (.sl V.eSigned) (.cons (.int .i64) .nil)), (.cons (.int .i64) .nil), fun (x : List TSigned × Int) => laws_szSignedS x.1 x.2, [], [(false, 1), (false, 1)], [(false, 1)], [false], []⟩
noncomputable abbrev laws_szSignedS.E : V.Env := V.mkE V.tys [(117, laws_szSigned.con)] [(10, [0, 1, 5], [])] [] [] []
noncomputable abbrev laws_szSignedS.kt (x0 : List TSigned) (x1 : Int) : V.Kt Int := V.ktOf laws_szSignedS.E laws_szSignedS.con Try.f45 ((x0, x1) : List TSigned × Int)
noncomputable abbrev laws_szSignedS.s10 (x0 : List TSigned) (v10_1 : Int) (v10_2 : Int) : V.St := ⟨[(0, .v false [.val (.sl V.eSigned x0)]), (1, .v false [.val (.int .i64 v10_1)]), (5, .v false [.val (.int .i64 v10_2)])], []⟩
theorem laws_szSignedS.r10 (x0 : List TSigned) (x1 : Int) (R : V.St → Option Int) (v10_1 : Int) (v10_2 : Int) : V.loopF laws_szSignedS.E Try.f45.ntmps [1, 1, 1, 0, 1, 0] [] (V.codeOf Try.f45) (laws_szSignedS.kt x0 x1) R (laws_szSignedS.s10 x0 v10_1 v10_2) = laws_szSignedS.g10 x0 (fun v10_1 v10_2 => R (laws_szSignedS.s10 x0 v10_1 v10_2)) v10_1 v10_2 := by kernel_rfl
theorem laws_szSignedS.e10 (x0 : List TSigned) (x1 : Int) : ∀ (n : Nat) (v10_1 : Int) (v10_2 : Int), V.loopN (V.loopF laws_szSignedS.E Try.f45.ntmps [1, 1, 1, 0, 1, 0] [] (V.codeOf Try.f45) (laws_szSignedS.kt x0 x1)) n (laws_szSignedS.s10 x0 v10_1 v10_2) = laws_szSignedS.l10 x0 n v10_1 v10_2 := by
  intro n
  induction n with
  | zero => intros; rfl
  | succ n ih =>
    intro v10_1 v10_2
    show V.loopF laws_szSignedS.E Try.f45.ntmps [1, 1, 1, 0, 1, 0] [] (V.codeOf Try.f45) (laws_szSignedS.kt x0 x1) (V.loopN (V.loopF laws_szSignedS.E Try.f45.ntmps [1, 1, 1, 0, 1, 0] [] (V.codeOf Try.f45) (laws_szSignedS.kt x0 x1)) n) (laws_szSignedS.s10 x0 v10_1 v10_2) = _
    rw [laws_szSignedS.r10]
    simp only [ih]
    rfl
theorem laws_szSignedS.v (x0 : List TSigned) (x1 : Int) : V.evBody laws_szSignedS.E laws_szSignedS.con Try.f45 ((x0, x1) : List TSigned × Int) = laws_szSignedS.b x0 x1 (fun v10_1 v10_2 => V.loopN (V.loopF laws_szSignedS.E Try.f45.ntmps [1, 1, 1, 0, 1, 0] [] (V.codeOf Try.f45) (laws_szSignedS.kt x0 x1)) V.KK (laws_szSignedS.s10 x0 v10_1 v10_2)) := by kernel_rfl
theorem laws_szSignedS.eq (x0 : List TSigned) (x1 : Int) : V.evBody laws_szSignedS.E laws_szSignedS.con Try.f45 ((x0, x1) : List TSigned × Int) = laws_szSignedS x0 x1 := by
  rw [laws_szSignedS.v]
  simp only [laws_szSignedS.e10]
  rfl
theorem laws_szSignedS.ok : V.Valid Try.prog 45 laws_szSignedS.con :=
  V.body_ok (V.env_ok V.mixed V.tysOk (V.tab_cons laws_szSigned.ok V.tab_nil)) Try.func45 (by kernel_rfl) (by kernel_rfl) (by kernel_rfl) (fun x y h => (show V.evBody laws_szSignedS.E laws_szSignedS.con Try.f45 x = _ from laws_szSignedS.eq x.1 x.2).trans h)
noncomputable abbrev laws_szStringS.con : V.Con := ⟨(.cons (.sl (.cons .str .nil)) (.cons (.int .i64) .nil)), (.cons (.int .i64) .nil), fun (x : List ByteArray × Int) => laws_szStringS x.1 x.2, [], [(false, 1), (false, 1)], [(false, 1)], [false], []⟩
noncomputable abbrev laws_szStringS.E : V.Env := V.mkE V.tys [] [(10, [0, 1, 5], [])] [] [] []
noncomputable abbrev laws_szStringS.kt (x0 : List ByteArray) (x1 : Int) : V.Kt Int := V.ktOf laws_szStringS.E laws_szStringS.con Try.f156 ((x0, x1) : List ByteArray × Int)
noncomputable abbrev laws_szStringS.s10 (x0 : List ByteArray) (v10_1 : Int) (v10_2 : Int) : V.St := ⟨[(0, .v false [.val (.sl (.cons .str .nil) x0)]), (1, .v false [.val (.int .i64 v10_1)]), (5, .v false [.val (.int .i64 v10_2)])], []⟩
theorem laws_szStringS.r10 (x0 : List ByteArray) (x1 : Int) (R : V.St → Option Int) (v10_1 : Int) (v10_2 : Int) : V.loopF laws_szStringS.E Try.f156.ntmps [1, 1, 1, 0, 1, 0] [] (V.codeOf Try.f156) (laws_szStringS.kt x0 x1) R (laws_szStringS.s10 x0 v10_1 v10_2) = laws_szStringS.g10 x0 (fun v10_1 v10_2 => R (laws_szStringS.s10 x0 v10_1 v10_2)) v10_1 v10_2 := by kernel_rfl
theorem laws_szStringS.e10 (x0 : List ByteArray) (x1 : Int) : ∀ (n : Nat) (v10_1 : Int) (v10_2 : Int), V.loopN (V.loopF laws_szStringS.E Try.f156.ntmps [1, 1, 1, 0, 1, 0] [] (V.codeOf Try.f156) (laws_szStringS.kt x0 x1)) n (laws_szStringS.s10 x0 v10_1 v10_2) = laws_szStringS.l10 x0 n v10_1 v10_2 := by
  intro n
  induction n with
  | zero => intros; rfl
  | succ n ih =>
    intro v10_1 v10_2
    show V.loopF laws_szStringS.E Try.f156.ntmps [1, 1, 1, 0, 1, 0] [] (V.codeOf Try.f156) (laws_szStringS.kt x0 x1) (V.loopN (V.loopF laws_szStringS.E Try.f156.ntmps [1, 1, 1, 0, 1, 0] [] (V.codeOf Try.f156) (laws_szStringS.kt x0 x1)) n) (laws_szStringS.s10 x0 v10_1 v10_2) = _
    rw [laws_szStringS.r10]
    simp only [ih]
    rfl
theorem laws_szStringS.v (x0 : List ByteArray) (x1 : Int) : V.evBody laws_szStringS.E laws_szStringS.con Try.f156 ((x0, x1) : List ByteArray × Int) = laws_szStringS.b x0 x1 (fun v10_1 v10_2 => V.loopN (V.loopF laws_szStringS.E Try.f156.ntmps [1, 1, 1, 0, 1, 0] [] (V.codeOf Try.f156) (laws_szStringS.kt x0 x1)) V.KK (laws_szStringS.s10 x0 v10_1 v10_2)) := by kernel_rfl
theorem laws_szStringS.eq (x0 : List ByteArray) (x1 : Int) : V.evBody laws_szStringS.E laws_szStringS.con Try.f156 ((x0, x1) : List ByteArray × Int) = laws_szStringS x0 x1 := by
  rw [laws_szStringS.v]
  simp only [laws_szStringS.e10]
  rfl
theorem laws_szStringS.ok : V.Valid Try.prog 156 laws_szStringS.con :=
  V.body_ok (V.env_ok V.mixed V.tysOk V.tab_nil) Try.func156 (by kernel_rfl) (by kernel_rfl) (by kernel_rfl) (fun x y h => (show V.evBody laws_szStringS.E laws_szStringS.con Try.f156 x = _ from laws_szStringS.eq x.1 x.2).trans h)
noncomputable abbrev laws_szEntry.con : V.Con := ⟨(.cons .str (.cons (.int .i64) (.cons (.int .i64) (.cons (.sl (.cons .str .nil)) (.cons (.int .i64) .nil))))), (.cons (.int .i64) .nil), fun (x : ByteArray × Int × Int × List ByteArray × Int) => laws_szEntry (x.1, x.2.1, x.2.2.1, x.2.2.2.1) x.2.2.2.2, [], [(true, 4), (false, 1)], [(false, 1)], [false], []⟩
noncomputable abbrev laws_szEntry.E : V.Env := V.mkE V.tys [(156, laws_szStringS.con)] [] [] [] []
noncomputable abbrev laws_szEntry.kt (x0 : TEntry) (x1 : Int) : V.Kt Int := V.ktOf laws_szEntry.E laws_szEntry.con Try.f103 ((x0.1, x0.2.1, x0.2.2.1, x0.2.2.2, x1) : ByteArray × Int × Int × List ByteArray × Int)
theorem laws_szEntry.eq (x0 : TEntry) (x1 : Int) : V.evBody laws_szEntry.E laws_szEntry.con Try.f103 ((x0.1, x0.2.1, x0.2.2.1, x0.2.2.2, x1) : ByteArray × Int × Int × List ByteArray × Int) = laws_szEntry x0 x1 := by kernel_rfl
theorem laws_szEntry.ok : V.Valid Try.prog 103 laws_szEntry.con :=
  V.body_ok (V.env_ok V.mixed V.tysOk (V.tab_cons laws_szStringS.ok V.tab_nil)) Try.func103 (by kernel_rfl) (by kernel_rfl) (by kernel_rfl) (fun x y h => (show V.evBody laws_szEntry.E laws_szEntry.con Try.f103 x = _ from laws_szEntry.eq (x.1, x.2.1, x.2.2.1, x.2.2.2.1) x.2.2.2.2).trans h)
noncomputable abbrev laws_szEntryS.con : V.Con := ⟨(.cons (.sl V.eEntry) (.cons (.int .i64) .nil)), (.cons (.int .i64) .nil), fun (x : List TEntry × Int) => laws_szEntryS x.1 x.2, [], [(false, 1), (false, 1)], [(false, 1)], [false], []⟩
noncomputable abbrev laws_szEntryS.E : V.Env := V.mkE V.tys [(103, laws_szEntry.con)] [(10, [0, 1, 5], [])] [] [] []
noncomputable abbrev laws_szEntryS.kt (x0 : List TEntry) (x1 : Int) : V.Kt Int := V.ktOf laws_szEntryS.E laws_szEntryS.con Try.f186 ((x0, x1) : List TEntry × Int)
noncomputable abbrev laws_szEntryS.s10 (x0 : List TEntry) (v10_1 : Int) (v10_2 : Int) : V.St := ⟨[(0, .v false [.val (.sl V.eEntry x0)]), (1, .v false [.val (.int .i64 v10_1)]), (5, .v false [.val (.int .i64 v10_2)])], []⟩
theorem laws_szEntryS.r10 (x0 : List TEntry) (x1 : Int) (R : V.St → Option Int) (v10_1 : Int) (v10_2 : Int) : V.loopF laws_szEntryS.E Try.f186.ntmps [1, 1, 1, 0, 1, 0] [] (V.codeOf Try.f186) (laws_szEntryS.kt x0 x1) R (laws_szEntryS.s10 x0 v10_1 v10_2) = laws_szEntryS.g10 x0 (fun v10_1 v10_2 => R (laws_szEntryS.s10 x0 v10_1 v10_2)) v10_1 v10_2 := by kernel_rfl
theorem laws_szEntryS.e10 (x0 : List TEntry) (x1 : Int) : ∀ (n : Nat) (v10_1 : Int) (v10_2 : Int), V.loopN (V.loopF laws_szEntryS.E Try.f186.ntmps [1, 1, 1, 0, 1, 0] [] (V.codeOf Try.f186) (laws_szEntryS.kt x0 x1)) n (laws_szEntryS.s10 x0 v10_1 v10_2) = laws_szEntryS.l10 x0 n v10_1 v10_2 := by
  intro n
  induction n with
  | zero => intros; rfl
  | succ n ih =>
    intro v10_1 v10_2
    show V.loopF laws_szEntryS.E Try.f186.ntmps [1, 1, 1, 0, 1, 0] [] (V.codeOf Try.f186) (laws_szEntryS.kt x0 x1) (V.loopN (V.loopF laws_szEntryS.E Try.f186.ntmps [1, 1, 1, 0, 1, 0] [] (V.codeOf Try.f186) (laws_szEntryS.kt x0 x1)) n) (laws_szEntryS.s10 x0 v10_1 v10_2) = _
    rw [laws_szEntryS.r10]
    simp only [ih]
    rfl
theorem laws_szEntryS.v (x0 : List TEntry) (x1 : Int) : V.evBody laws_szEntryS.E laws_szEntryS.con Try.f186 ((x0, x1) : List TEntry × Int) = laws_szEntryS.b x0 x1 (fun v10_1 v10_2 => V.loopN (V.loopF laws_szEntryS.E Try.f186.ntmps [1, 1, 1, 0, 1, 0] [] (V.codeOf Try.f186) (laws_szEntryS.kt x0 x1)) V.KK (laws_szEntryS.s10 x0 v10_1 v10_2)) := by kernel_rfl
theorem laws_szEntryS.eq (x0 : List TEntry) (x1 : Int) : V.evBody laws_szEntryS.E laws_szEntryS.con Try.f186 ((x0, x1) : List TEntry × Int) = laws_szEntryS x0 x1 := by
  rw [laws_szEntryS.v]
  simp only [laws_szEntryS.e10]
  rfl
theorem laws_szEntryS.ok : V.Valid Try.prog 186 laws_szEntryS.con :=
  V.body_ok (V.env_ok V.mixed V.tysOk (V.tab_cons laws_szEntry.ok V.tab_nil)) Try.func186 (by kernel_rfl) (by kernel_rfl) (by kernel_rfl) (fun x y h => (show V.evBody laws_szEntryS.E laws_szEntryS.con Try.f186 x = _ from laws_szEntryS.eq x.1 x.2).trans h)
noncomputable abbrev laws_szZone.con : V.Con := ⟨(.cons (.sl V.eSigned) (.cons (.sl V.eEntry) (.cons (.int .i64) .nil))), (.cons (.int .i64) .nil), fun (x : List TSigned × List TEntry × Int) => laws_szZone (x.1, x.2.1) x.2.2, [], [(true, 2), (false, 1)], [(false, 1)], [false], []⟩
noncomputable abbrev laws_szZone.E : V.Env := V.mkE V.tys [(45, laws_szSignedS.con), (186, laws_szEntryS.con)] [] [] [] []
noncomputable abbrev laws_szZone.kt (x0 : TZone) (x1 : Int) : V.Kt Int := V.ktOf laws_szZone.E laws_szZone.con Try.f152 ((x0.1, x0.2, x1) : List TSigned × List TEntry × Int)
theorem laws_szZone.eq (x0 : TZone) (x1 : Int) : V.evBody laws_szZone.E laws_szZone.con Try.f152 ((x0.1, x0.2, x1) : List TSigned × List TEntry × Int) = laws_szZone x0 x1 := by kernel_rfl
theorem laws_szZone.ok : V.Valid Try.prog 152 laws_szZone.con :=
  V.body_ok (V.env_ok V.mixed V.tysOk (V.tab_cons laws_szSignedS.ok (V.tab_cons laws_szEntryS.ok V.tab_nil))) Try.func152 (by kernel_rfl) (by kernel_rfl) (by kernel_rfl) (fun x y h => (show V.evBody laws_szZone.E laws_szZone.con Try.f152 x = _ from laws_szZone.eq (x.1, x.2.1) x.2.2).trans h)
noncomputable abbrev laws_szZoneS.con : V.Con := ⟨(.cons (.sl (.cons (.sl V.eSigned) (.cons (.sl V.eEntry) .nil))) (.cons (.int .i64) .nil)), (.cons (.int .i64) .nil), fun (x : List TZone × Int) => laws_szZoneS x.1 x.2, [], [(false, 1), (false, 1)], [(false, 1)], [false], []⟩
noncomputable abbrev laws_szZoneS.E : V.Env := V.mkE V.tys [(152, laws_szZone.con)] [(10, [0, 1, 5], [])] [] [] []
noncomputable abbrev laws_szZoneS.kt (x0 : List TZone) (x1 : Int) : V.Kt Int := V.ktOf laws_szZoneS.E laws_szZoneS.con Try.f98 ((x0, x1) : List TZone × Int)
noncomputable abbrev laws_szZoneS.s10 (x0 : List TZone) (v10_1 : Int) (v10_2 : Int) : V.St := ⟨[(0, .v false [.val (.sl (.cons (.sl V.eSigned) (.cons (.sl V.eEntry) .nil)) x0)]), (1, .v false [.val (.int .i64 v10_1)]), (5, .v false [.val (.int .i64 v10_2)])], []⟩
theorem laws_szZoneS.r10 (x0 : List TZone) (x1 : Int) (R : V.St → Option Int) (v10_1 : Int) (v10_2 : Int) : V.loopF laws_szZoneS.E Try.f98.ntmps [1, 1, 1, 0, 1, 0] [] (V.codeOf Try.f98) (laws_szZoneS.kt x0 x1) R (laws_szZoneS.s10 x0 v10_1 v10_2) = laws_szZoneS.g10 x0 (fun v10_1 v10_2 => R (laws_szZoneS.s10 x0 v10_1 v10_2)) v10_1 v10_2 := by kernel_rfl
theorem laws_szZoneS.e10 (x0 : List TZone) (x1 : Int) : ∀ (n : Nat) (v10_1 : Int) (v10_2 : Int), V.loopN (V.loopF laws_szZoneS.E Try.f98.ntmps [1, 1, 1, 0, 1, 0] [] (V.codeOf Try.f98) (laws_szZoneS.kt x0 x1)) n (laws_szZoneS.s10 x0 v10_1 v10_2) = laws_szZoneS.l10 x0 n v10_1 v10_2 := by
  intro n
  induction n with
  | zero => intros; rfl
  | succ n ih =>
    intro v10_1 v10_2
    show V.loopF laws_szZoneS.E Try.f98.ntmps [1, 1, 1, 0, 1, 0] [] (V.codeOf Try.f98) (laws_szZoneS.kt x0 x1) (V.loopN (V.loopF laws_szZoneS.E Try.f98.ntmps [1, 1, 1, 0, 1, 0] [] (V.codeOf Try.f98) (laws_szZoneS.kt x0 x1)) n) (laws_szZoneS.s10 x0 v10_1 v10_2) = _
    rw [laws_szZoneS.r10]
    simp only [ih]
    rfl
theorem laws_szZoneS.v (x0 : List TZone) (x1 : Int) : V.evBody laws_szZoneS.E laws_szZoneS.con Try.f98 ((x0, x1) : List TZone × Int) = laws_szZoneS.b x0 x1 (fun v10_1 v10_2 => V.loopN (V.loopF laws_szZoneS.E Try.f98.ntmps [1, 1, 1, 0, 1, 0] [] (V.codeOf Try.f98) (laws_szZoneS.kt x0 x1)) V.KK (laws_szZoneS.s10 x0 v10_1 v10_2)) := by kernel_rfl
theorem laws_szZoneS.eq (x0 : List TZone) (x1 : Int) : V.evBody laws_szZoneS.E laws_szZoneS.con Try.f98 ((x0, x1) : List TZone × Int) = laws_szZoneS x0 x1 := by
  rw [laws_szZoneS.v]
  simp only [laws_szZoneS.e10]
  rfl
theorem laws_szZoneS.ok : V.Valid Try.prog 98 laws_szZoneS.con :=
  V.body_ok (V.env_ok V.mixed V.tysOk (V.tab_cons laws_szZone.ok V.tab_nil)) Try.func98 (by kernel_rfl) (by kernel_rfl) (by kernel_rfl) (fun x y h => (show V.evBody laws_szZoneS.E laws_szZoneS.con Try.f98 x = _ from laws_szZoneS.eq x.1 x.2).trans h)
noncomputable abbrev laws_szServer.con : V.Con := ⟨(.cons (.sl (.cons (.sl V.eSigned) (.cons (.sl V.eEntry) .nil))) (.cons (.int .i64) (.cons (.int .i64) .nil))), (.cons (.int .i64) .nil), fun (x : List TZone × Int × Int) => laws_szServer (x.1, x.2.1) x.2.2, [], [(true, 2), (false, 1)], [(false, 1)], [false], []⟩
noncomputable abbrev laws_szServer.E : V.Env := V.mkE V.tys [(98, laws_szZoneS.con)] [] [] [] []
noncomputable abbrev laws_szServer.kt (x0 : TServer) (x1 : Int) : V.Kt Int := V.ktOf laws_szServer.E laws_szServer.con Try.f35 ((x0.1, x0.2, x1) : List TZone × Int × Int)
theorem laws_szServer.eq (x0 : TServer) (x1 : Int) : V.evBody laws_szServer.E laws_szServer.con Try.f35 ((x0.1, x0.2, x1) : List TZone × Int × Int) = laws_szServer x0 x1 := by kernel_rfl
theorem laws_szServer.ok : V.Valid Try.prog 35 laws_szServer.con :=
  V.body_ok (V.env_ok V.mixed V.tysOk (V.tab_cons laws_szZoneS.ok V.tab_nil)) Try.func35 (by kernel_rfl) (by kernel_rfl) (by kernel_rfl) (fun x y h => (show V.evBody laws_szServer.E laws_szServer.con Try.f35 x = _ from laws_szServer.eq (x.1, x.2.1) x.2.2).trans h)
noncomputable abbrev laws_toIntS.con : V.Con := ⟨(.cons (.sl (.cons (.int .i64) .nil)) .nil), (.cons (.sl (.cons (.int .i64) .nil)) .nil), fun (x : List Int) => laws_toIntS x, [], [(false, 1)], [(false, 1)], [true], []⟩
noncomputable abbrev laws_toIntS.E : V.Env := V.mkE V.tys [] [(6, [0, 3, 4], [])] [] [] []
noncomputable abbrev laws_toIntS.kt (x0 : List Int) : V.Kt (List Int) := V.ktOf laws_toIntS.E laws_toIntS.con Try.f76 ((x0) : List Int)
noncomputable abbrev laws_toIntS.s6 (x0 : List Int) (v6_1 : Int) (v6_2 : List Int) : V.St := ⟨[(0, .v false [.val (.sl (.cons (.int .i64) .nil) x0)]), (3, .v false [.ref 64000038400192]), (4, .v false [.val (.int .i64 v6_1)])], [(64000038400192, .row (.cons (.int .i64) .nil) true v6_2)]⟩
theorem laws_toIntS.r6 (x0 : List Int) (R : V.St → Option (List Int)) (v6_1 : Int) (v6_2 : List Int) : V.loopF laws_toIntS.E Try.f76.ntmps [1, 1, 0, 1, 0] [] (V.codeOf Try.f76) (laws_toIntS.kt x0) R (laws_toIntS.s6 x0 v6_1 v6_2) = laws_toIntS.g6 x0 (fun v6_1 v6_2 => R (laws_toIntS.s6 x0 v6_1 v6_2)) v6_1 v6_2 := by kernel_rfl
theorem laws_toIntS.e6 (x0 : List Int) : ∀ (n : Nat) (v6_1 : Int) (v6_2 : List Int), V.loopN (V.loopF laws_toIntS.E Try.f76.ntmps [1, 1, 0, 1, 0] [] (V.codeOf Try.f76) (laws_toIntS.kt x0)) n (laws_toIntS.s6 x0 v6_1 v6_2) = laws_toIntS.l6 x0 n v6_1 v6_2 := by
  intro n
  induction n with
  | zero => intros; rfl
  | succ n ih =>
    intro v6_1 v6_2
    show V.loopF laws_toIntS.E Try.f76.ntmps [1, 1, 0, 1, 0] [] (V.codeOf Try.f76) (laws_toIntS.kt x0) (V.loopN (V.loopF laws_toIntS.E Try.f76.ntmps [1, 1, 0, 1, 0] [] (V.codeOf Try.f76) (laws_toIntS.kt x0)) n) (laws_toIntS.s6 x0 v6_1 v6_2) = _
    rw [laws_toIntS.r6]
    simp only [ih]
    rfl
theorem laws_toIntS.v (x0 : List Int) : V.evBody laws_toIntS.E laws_toIntS.con Try.f76 ((x0) : List Int) = laws_toIntS.b x0 (fun v6_1 v6_2 => V.loopN (V.loopF laws_toIntS.E Try.f76.ntmps [1, 1, 0, 1, 0] [] (V.codeOf Try.f76) (laws_toIntS.kt x0)) V.KK (laws_toIntS.s6 x0 v6_1 v6_2)) := by kernel_rfl
theorem laws_toIntS.eq (x0 : List Int) : V.evBody laws_toIntS.E laws_toIntS.con Try.f76 ((x0) : List Int) = laws_toIntS x0 := by
  rw [laws_toIntS.v]
  simp only [laws_toIntS.e6]
  rfl
theorem laws_toIntS.ok : V.Valid Try.prog 76 laws_toIntS.con :=
  V.body_ok (V.env_ok V.mixed V.tysOk V.tab_nil) Try.func76 (by kernel_rfl) (by kernel_rfl) (by kernel_rfl) (fun x y h => (show V.evBody laws_toIntS.E laws_toIntS.con Try.f76 x = _ from laws_toIntS.eq x).trans h)
noncomputable abbrev laws_toKeys.con : V.Con := ⟨(.cons (.sl (.cons (.int .i64) .nil)) (.cons (.int .i64) .nil)), (.cons (.sl (.cons (.int .i64) .nil)) (.cons (.int .i64) .nil)), fun (x : List Int × Int) => laws_toKeys x, [], [(true, 2)], [(true, 2)], [true, false], []⟩
noncomputable abbrev laws_toKeys.E : V.Env := V.mkE V.tys [(76, laws_toIntS.con)] [] [] [] []
noncomputable abbrev laws_toKeys.kt (x0 : TKeys) : V.Kt TKeys := V.ktOf laws_toKeys.E laws_toKeys.con Try.f19 ((x0.1, x0.2) : List Int × Int)
theorem laws_toKeys.eq (x0 : TKeys) : V.evBody laws_toKeys.E laws_toKeys.con Try.f19 ((x0.1, x0.2) : List Int × Int) = laws_toKeys x0 := by kernel_rfl
theorem laws_toKeys.ok : V.Valid Try.prog 19 laws_toKeys.con :=
  V.body_ok (V.env_ok V.mixed V.tysOk (V.tab_cons laws_toIntS.ok V.tab_nil)) Try.func19 (by kernel_rfl) (by kernel_rfl) (by kernel_rfl) (fun x y h => (show V.evBody laws_toKeys.E laws_toKeys.con Try.f19 x = _ from laws_toKeys.eq x).trans h)
noncomputable abbrev laws_toHead.con : V.Con := ⟨V.A2, V.eHead, fun (x : V.D2) => laws_toHead (V.p2_0 x), [], [(true, 16)], [(true, 16)], [false, false, false, false, false, false, false, false, true, false, true, false, false, true, false, false], []⟩
noncomputable abbrev laws_toHead.E : V.Env := V.mkE V.tys [(19, laws_toKeys.con)] [] [] [] []
noncomputable abbrev laws_toHead.kt (x0 : THead) : V.Kt THead := V.ktOf laws_toHead.E laws_toHead.con Try.f18 (V.fl2 x0)
theorem laws_toHead.eq (x0 : THead) : V.evBody laws_toHead.E laws_toHead.con Try.f18 (V.fl2 x0) = laws_toHead x0 := by kernel_rfl
theorem laws_toHead.ok : V.Valid Try.prog 18 laws_toHead.con :=
  V.body_ok (V.env_ok V.mixed V.tysOk (V.tab_cons laws_toKeys.ok V.tab_nil)) Try.func18 (by kernel_rfl) (by kernel_rfl) (by kernel_rfl) (fun x y h => (show V.evBody laws_toHead.E laws_toHead.con Try.f18 x = _ from laws_toHead.eq (V.p2_0 x)).trans h)
noncomputable abbrev laws_toSig.con : V.Con := ⟨(.cons (.int .i64) (.cons (.int .i64) .nil)), (.cons (.int .i64) (.cons (.int .i64) .nil)), fun (x : Int × Int) => laws_toSig x, [], [(true, 2)], [(true, 2)], [false, false], []⟩
noncomputable abbrev laws_toSig.E : V.Env := V.mkE V.tys [] [] [] [] []
noncomputable abbrev laws_toSig.kt (x0 : TSig) : V.Kt TSig := V.ktOf laws_toSig.E laws_toSig.con Try.f190 ((x0.1, x0.2) : Int × Int)
theorem laws_toSig.eq (x0 : TSig) : V.evBody laws_toSig.E laws_toSig.con Try.f190 ((x0.1, x0.2) : Int × Int) = laws_toSig x0 := by kernel_rfl
theorem laws_toSig.ok : V.Valid Try.prog 190 laws_toSig.con :=
  V.body_ok (V.env_ok V.mixed V.tysOk V.tab_nil) Try.func190 (by kernel_rfl) (by kernel_rfl) (by kernel_rfl) (fun x y h => (show V.evBody laws_toSig.E laws_toSig.con Try.f190 x = _ from laws_toSig.eq x).trans h)
noncomputable abbrev laws_toSigS.con : V.Con := ⟨(.cons (.sl (.cons (.int .i64) (.cons (.int .i64) .nil))) .nil), (.cons (.sl (.cons (.int .i64) (.cons (.int .i64) .nil))) .nil), fun (x : List TSig) => laws_toSigS x, [], [(false, 1)], [(false, 1)], [true], []⟩
noncomputable abbrev laws_toSigS.E : V.Env := V.mkE V.tys [(190, laws_toSig.con)] [(6, [0, 3, 4], [])] [] [] []
noncomputable abbrev laws_toSigS.kt (x0 : List TSig) : V.Kt (List TSig) := V.ktOf laws_toSigS.E laws_toSigS.con Try.f161 ((x0) : List TSig)
noncomputable abbrev laws_toSigS.s6 (x0 : List TSig) (v6_1 : Int) (v6_2 : List TSig) : V.St := ⟨[(0, .v false [.val (.sl (.cons (.int .i64) (.cons (.int .i64) .nil)) x0)]), (3, .v false [.ref 64000038400192]), (4, .v false [.val (.int .i64 v6_1)])], [(64000038400192, .row (.cons (.int .i64) (.cons (.int .i64) .nil)) true v6_2)]⟩
theorem laws_toSigS.r6 (x0 : List TSig) (R : V.St → Option (List TSig)) (v6_1 : Int) (v6_2 : List TSig) : V.loopF laws_toSigS.E Try.f161.ntmps [1, 1, 0, 1, 0] [] (V.codeOf Try.f161) (laws_toSigS.kt x0) R (laws_toSigS.s6 x0 v6_1 v6_2) = laws_toSigS.g6 x0 (fun v6_1 v6_2 => R (laws_toSigS.s6 x0 v6_1 v6_2)) v6_1 v6_2 := by kernel_rfl
theorem laws_toSigS.e6 (x0 : List TSig) : ∀ (n : Nat) (v6_1 : Int) (v6_2 : List TSig), V.loopN (V.loopF laws_toSigS.E Try.f161.ntmps [1, 1, 0, 1, 0] [] (V.codeOf Try.f161) (laws_toSigS.kt x0)) n (laws_toSigS.s6 x0 v6_1 v6_2) = laws_toSigS.l6 x0 n v6_1 v6_2 := by
  intro n
  induction n with
  | zero => intros; rfl
  | succ n ih =>
    intro v6_1 v6_2
    show V.loopF laws_toSigS.E Try.f161.ntmps [1, 1, 0, 1, 0] [] (V.codeOf Try.f161) (laws_toSigS.kt x0) (V.loopN (V.loopF laws_toSigS.E Try.f161.ntmps [1, 1, 0, 1, 0] [] (V.codeOf Try.f161) (laws_toSigS.kt x0)) n) (laws_toSigS.s6 x0 v6_1 v6_2) = _
    rw [laws_toSigS.r6]
    simp only [ih]
    rfl
theorem laws_toSigS.v (x0 : List TSig) : V.evBody laws_toSigS.E laws_toSigS.con Try.f161 ((x0) : List TSig) = laws_toSigS.b x0 (fun v6_1 v6_2 => V.loopN (V.loopF laws_toSigS.E Try.f161.ntmps [1, 1, 0, 1, 0] [] (V.codeOf Try.f161) (laws_toSigS.kt x0)) V.KK (laws_toSigS.s6 x0 v6_1 v6_2)) := by kernel_rfl
theorem laws_toSigS.eq (x0 : List TSig) : V.evBody laws_toSigS.E laws_toSigS.con Try.f161 ((x0) : List TSig) = laws_toSigS x0 := by
  rw [laws_toSigS.v]
  simp only [laws_toSigS.e6]
  rfl
theorem laws_toSigS.ok : V.Valid Try.prog 161 laws_toSigS.con :=
  V.body_ok (V.env_ok V.mixed V.tysOk (V.tab_cons laws_toSig.ok V.tab_nil)) Try.func161 (by kernel_rfl) (by kernel_rfl) (by kernel_rfl) (fun x y h => (show V.evBody laws_toSigS.E laws_toSigS.con Try.f161 x = _ from laws_toSigS.eq x).trans h)
noncomputable abbrev laws_toSigned.con : V.Con := ⟨V.A3, V.eSigned, fun (x : V.D3) => laws_toSigned (V.p3_0 x), [], [(true, 17)], [(true, 17)], [false, false, false, false, false, false, false, false, true, false, true, false, false, true, false, false, true], []⟩
noncomputable abbrev laws_toSigned.E : V.Env := V.mkE V.tys [(18, laws_toHead.con), (161, laws_toSigS.con)] [] [] [] []
noncomputable abbrev laws_toSigned.kt (x0 : TSigned) : V.Kt TSigned := V.ktOf laws_toSigned.E laws_toSigned.con Try.f120 (V.fl3 x0)
theorem laws_toSigned.eq (x0 : TSigned) : V.evBody laws_toSigned.E laws_toSigned.con Try.f120 (V.fl3 x0) = laws_toSigned x0 := by kernel_rfl
theorem laws_toSigned.ok : V.Valid Try.prog 120 laws_toSigned.con :=
  V.body_ok (V.env_ok V.mixed V.tysOk (V.tab_cons laws_toHead.ok (V.tab_cons laws_toSigS.ok V.tab_nil))) Try.func120 (by kernel_rfl) (by kernel_rfl) (by kernel_rfl) (fun x y h => (show V.evBody laws_toSigned.E laws_toSigned.con Try.f120 x = _ from laws_toSigned.eq (V.p3_0 x)).trans h)
noncomputable abbrev laws_toSignedS.con : V.Con := ⟨(.cons (.sl V.eSigned) .nil), (.cons (.sl V.eSigned) .nil), fun (x : List TSigned) => laws_toSignedS x, [], [(false, 1)], [(false, 1)], [true], []⟩
noncomputable abbrev laws_toSignedS.E : V.Env := V.mkE V.tys [(120, laws_toSigned.con)] [(6, [0, 3, 4], [])] [] [] []
noncomputable abbrev laws_toSignedS.kt (x0 : List TSigned) : V.Kt (List TSigned) := V.ktOf laws_toSignedS.E laws_toSignedS.con Try.f47 ((x0) : List TSigned)
noncomputable abbrev laws_toSignedS.s6 (x0 : List TSigned) (v6_1 : Int) (v6_2 : List TSigned) : V.St := ⟨[(0, .v false [.val (.sl V.eSigned x0)]), (3, .v false [.ref 64000038400192]), (4, .v false [.val (.int .i64 v6_1)])], [(64000038400192, .row V.eSigned true v6_2)]⟩
theorem laws_toSignedS.r6 (x0 : List TSigned) (R : V.St → Option (List TSigned)) (v6_1 : Int) (v6_2 : List TSigned) : V.loopF laws_toSignedS.E Try.f47.ntmps [1, 1, 0, 1, 0] [] (V.codeOf Try.f47) (laws_toSignedS.kt x0) R (laws_toSignedS.s6 x0 v6_1 v6_2) = laws_toSignedS.g6 x0 (fun v6_1 v6_2 => R (laws_toSignedS.s6 x0 v6_1 v6_2)) v6_1 v6_2 := by kernel_rfl
theorem laws_toSignedS.e6 (x0 : List TSigned) : ∀ (n : Nat) (v6_1 : Int) (v6_2 : List TSigned), V.loopN (V.loopF laws_toSignedS.E Try.f47.ntmps [1, 1, 0, 1, 0] [] (V.codeOf Try.f47) (laws_toSignedS.kt x0)) n (laws_toSignedS.s6 x0 v6_1 v6_2) = laws_toSignedS.l6 x0 n v6_1 v6_2 := by
  intro n
  induction n with
  | zero => intros; rfl
  | succ n ih =>
    intro v6_1 v6_2
    show V.loopF laws_toSignedS.E Try.f47.ntmps [1, 1, 0, 1, 0] [] (V.codeOf Try.f47) (laws_toSignedS.kt x0) (V.loopN (V.loopF laws_toSignedS.E Try.f47.ntmps [1, 1, 0, 1, 0] [] (V.codeOf Try.f47) (laws_toSignedS.kt x0)) n) (laws_toSignedS.s6 x0 v6_1 v6_2) = _
    rw [laws_toSignedS.r6]
    simp only [ih]
    rfl
theorem laws_toSignedS.v (x0 : List TSigned) : V.evBody laws_toSignedS.E laws_toSignedS.con Try.f47 ((x0) : List TSigned) = laws_toSignedS.b x0 (fun v6_1 v6_2 => V.loopN (V.loopF laws_toSignedS.E Try.f47.ntmps [1, 1, 0, 1, 0] [] (V.codeOf Try.f47) (laws_toSignedS.kt x0)) V.KK (laws_toSignedS.s6 x0 v6_1 v6_2)) := by kernel_rfl
theorem laws_toSignedS.eq (x0 : List TSigned) : V.evBody laws_toSignedS.E laws_toSignedS.con Try.f47 ((x0) : List TSigned) = laws_toSignedS x0 := by
  rw [laws_toSignedS.v]
  simp only [laws_toSignedS.e6]
  rfl
theorem laws_toSignedS.ok : V.Valid Try.prog 47 laws_toSignedS.con :=
  V.body_ok (V.env_ok V.mixed V.tysOk (V.tab_cons laws_toSigned.ok V.tab_nil)) Try.func47 (by kernel_rfl) (by kernel_rfl) (by kernel_rfl) (fun x y h => (show V.evBody laws_toSignedS.E laws_toSignedS.con Try.f47 x = _ from laws_toSignedS.eq x).trans h)
noncomputable abbrev laws_toStringS.con : V.Con := ⟨(.cons (.sl (.cons .str .nil)) .nil), (.cons (.sl (.cons .str .nil)) .nil), fun (x : List ByteArray) => laws_toStringS x, [], [(false, 1)], [(false, 1)], [true], []⟩
noncomputable abbrev laws_toStringS.E : V.Env := V.mkE V.tys [] [(6, [0, 3, 4], [])] [] [] []
noncomputable abbrev laws_toStringS.kt (x0 : List ByteArray) : V.Kt (List ByteArray) := V.ktOf laws_toStringS.E laws_toStringS.con Try.f158 ((x0) : List ByteArray)
noncomputable abbrev laws_toStringS.s6 (x0 : List ByteArray) (v6_1 : Int) (v6_2 : List ByteArray) : V.St := ⟨[(0, .v false [.val (.sl (.cons .str .nil) x0)]), (3, .v false [.ref 64000038400192]), (4, .v false [.val (.int .i64 v6_1)])], [(64000038400192, .row (.cons .str .nil) true v6_2)]⟩
theorem laws_toStringS.r6 (x0 : List ByteArray) (R : V.St → Option (List ByteArray)) (v6_1 : Int) (v6_2 : List ByteArray) : V.loopF laws_toStringS.E Try.f158.ntmps [1, 1, 0, 1, 0] [] (V.codeOf Try.f158) (laws_toStringS.kt x0) R (laws_toStringS.s6 x0 v6_1 v6_2) = laws_toStringS.g6 x0 (fun v6_1 v6_2 => R (laws_toStringS.s6 x0 v6_1 v6_2)) v6_1 v6_2 := by kernel_rfl
theorem laws_toStringS.e6 (x0 : List ByteArray) : ∀ (n : Nat) (v6_1 : Int) (v6_2 : List ByteArray), V.loopN (V.loopF laws_toStringS.E Try.f158.ntmps [1, 1, 0, 1, 0] [] (V.codeOf Try.f158) (laws_toStringS.kt x0)) n (laws_toStringS.s6 x0 v6_1 v6_2) = laws_toStringS.l6 x0 n v6_1 v6_2 := by
  intro n
  induction n with
  | zero => intros; rfl
  | succ n ih =>
    intro v6_1 v6_2
    show V.loopF laws_toStringS.E Try.f158.ntmps [1, 1, 0, 1, 0] [] (V.codeOf Try.f158) (laws_toStringS.kt x0) (V.loopN (V.loopF laws_toStringS.E Try.f158.ntmps [1, 1, 0, 1, 0] [] (V.codeOf Try.f158) (laws_toStringS.kt x0)) n) (laws_toStringS.s6 x0 v6_1 v6_2) = _
    rw [laws_toStringS.r6]
    simp only [ih]
    rfl
theorem laws_toStringS.v (x0 : List ByteArray) : V.evBody laws_toStringS.E laws_toStringS.con Try.f158 ((x0) : List ByteArray) = laws_toStringS.b x0 (fun v6_1 v6_2 => V.loopN (V.loopF laws_toStringS.E Try.f158.ntmps [1, 1, 0, 1, 0] [] (V.codeOf Try.f158) (laws_toStringS.kt x0)) V.KK (laws_toStringS.s6 x0 v6_1 v6_2)) := by kernel_rfl
theorem laws_toStringS.eq (x0 : List ByteArray) : V.evBody laws_toStringS.E laws_toStringS.con Try.f158 ((x0) : List ByteArray) = laws_toStringS x0 := by
  rw [laws_toStringS.v]
  simp only [laws_toStringS.e6]
  rfl
theorem laws_toStringS.ok : V.Valid Try.prog 158 laws_toStringS.con :=
  V.body_ok (V.env_ok V.mixed V.tysOk V.tab_nil) Try.func158 (by kernel_rfl) (by kernel_rfl) (by kernel_rfl) (fun x y h => (show V.evBody laws_toStringS.E laws_toStringS.con Try.f158 x = _ from laws_toStringS.eq x).trans h)
noncomputable abbrev laws_toEntry.con : V.Con := ⟨V.eEntry, V.eEntry, fun (x : ByteArray × Int × Int × List ByteArray) => laws_toEntry x, [], [(true, 4)], [(true, 4)], [false, false, false, true], []⟩
noncomputable abbrev laws_toEntry.E : V.Env := V.mkE V.tys [(158, laws_toStringS.con)] [] [] [] []
noncomputable abbrev laws_toEntry.kt (x0 : TEntry) : V.Kt TEntry := V.ktOf laws_toEntry.E laws_toEntry.con Try.f109 ((x0.1, x0.2.1, x0.2.2.1, x0.2.2.2) : ByteArray × Int × Int × List ByteArray)
theorem laws_toEntry.eq (x0 : TEntry) : V.evBody laws_toEntry.E laws_toEntry.con Try.f109 ((x0.1, x0.2.1, x0.2.2.1, x0.2.2.2) : ByteArray × Int × Int × List ByteArray) = laws_toEntry x0 := by kernel_rfl
theorem laws_toEntry.ok : V.Valid Try.prog 109 laws_toEntry.con :=
  V.body_ok (V.env_ok V.mixed V.tysOk (V.tab_cons laws_toStringS.ok V.tab_nil)) Try.func109 (by kernel_rfl) (by kernel_rfl) (by kernel_rfl) (fun x y h => (show V.evBody laws_toEntry.E laws_toEntry.con Try.f109 x = _ from laws_toEntry.eq x).trans h)
noncomputable abbrev laws_toEntryS.con : V.Con := ⟨(.cons (.sl V.eEntry) .nil), (.cons (.sl V.eEntry) .nil), fun (x : List TEntry) => laws_toEntryS x, [], [(false, 1)], [(false, 1)], [true], []⟩
noncomputable abbrev laws_toEntryS.E : V.Env := V.mkE V.tys [(109, laws_toEntry.con)] [(6, [0, 3, 4], [])] [] [] []
noncomputable abbrev laws_toEntryS.kt (x0 : List TEntry) : V.Kt (List TEntry) := V.ktOf laws_toEntryS.E laws_toEntryS.con Try.f187 ((x0) : List TEntry)
noncomputable abbrev laws_toEntryS.s6 (x0 : List TEntry) (v6_1 : Int) (v6_2 : List TEntry) : V.St := ⟨[(0, .v false [.val (.sl V.eEntry x0)]), (3, .v false [.ref 64000038400192]), (4, .v false [.val (.int .i64 v6_1)])], [(64000038400192, .row V.eEntry true v6_2)]⟩
theorem laws_toEntryS.r6 (x0 : List TEntry) (R : V.St → Option (List TEntry)) (v6_1 : Int) (v6_2 : List TEntry) : V.loopF laws_toEntryS.E Try.f187.ntmps [1, 1, 0, 1, 0] [] (V.codeOf Try.f187) (laws_toEntryS.kt x0) R (laws_toEntryS.s6 x0 v6_1 v6_2) = laws_toEntryS.g6 x0 (fun v6_1 v6_2 => R (laws_toEntryS.s6 x0 v6_1 v6_2)) v6_1 v6_2 := by kernel_rfl
theorem laws_toEntryS.e6 (x0 : List TEntry) : ∀ (n : Nat) (v6_1 : Int) (v6_2 : List TEntry), V.loopN (V.loopF laws_toEntryS.E Try.f187.ntmps [1, 1, 0, 1, 0] [] (V.codeOf Try.f187) (laws_toEntryS.kt x0)) n (laws_toEntryS.s6 x0 v6_1 v6_2) = laws_toEntryS.l6 x0 n v6_1 v6_2 := by
  intro n
  induction n with
  | zero => intros; rfl
  | succ n ih =>
    intro v6_1 v6_2
    show V.loopF laws_toEntryS.E Try.f187.ntmps [1, 1, 0, 1, 0] [] (V.codeOf Try.f187) (laws_toEntryS.kt x0) (V.loopN (V.loopF laws_toEntryS.E Try.f187.ntmps [1, 1, 0, 1, 0] [] (V.codeOf Try.f187) (laws_toEntryS.kt x0)) n) (laws_toEntryS.s6 x0 v6_1 v6_2) = _
    rw [laws_toEntryS.r6]
    simp only [ih]
    rfl
theorem laws_toEntryS.v (x0 : List TEntry) : V.evBody laws_toEntryS.E laws_toEntryS.con Try.f187 ((x0) : List TEntry) = laws_toEntryS.b x0 (fun v6_1 v6_2 => V.loopN (V.loopF laws_toEntryS.E Try.f187.ntmps [1, 1, 0, 1, 0] [] (V.codeOf Try.f187) (laws_toEntryS.kt x0)) V.KK (laws_toEntryS.s6 x0 v6_1 v6_2)) := by kernel_rfl
theorem laws_toEntryS.eq (x0 : List TEntry) : V.evBody laws_toEntryS.E laws_toEntryS.con Try.f187 ((x0) : List TEntry) = laws_toEntryS x0 := by
  rw [laws_toEntryS.v]
  simp only [laws_toEntryS.e6]
  rfl
theorem laws_toEntryS.ok : V.Valid Try.prog 187 laws_toEntryS.con :=
  V.body_ok (V.env_ok V.mixed V.tysOk (V.tab_cons laws_toEntry.ok V.tab_nil)) Try.func187 (by kernel_rfl) (by kernel_rfl) (by kernel_rfl) (fun x y h => (show V.evBody laws_toEntryS.E laws_toEntryS.con Try.f187 x = _ from laws_toEntryS.eq x).trans h)
noncomputable abbrev laws_toZone.con : V.Con := ⟨(.cons (.sl V.eSigned) (.cons (.sl V.eEntry) .nil)), (.cons (.sl V.eSigned) (.cons (.sl V.eEntry) .nil)), fun (x : List TSigned × List TEntry) => laws_toZone x, [], [(true, 2)], [(true, 2)], [true, true], []⟩
noncomputable abbrev laws_toZone.E : V.Env := V.mkE V.tys [(47, laws_toSignedS.con), (187, laws_toEntryS.con)] [] [] [] []
noncomputable abbrev laws_toZone.kt (x0 : TZone) : V.Kt TZone := V.ktOf laws_toZone.E laws_toZone.con Try.f153 ((x0.1, x0.2) : List TSigned × List TEntry)
theorem laws_toZone.eq (x0 : TZone) : V.evBody laws_toZone.E laws_toZone.con Try.f153 ((x0.1, x0.2) : List TSigned × List TEntry) = laws_toZone x0 := by kernel_rfl
theorem laws_toZone.ok : V.Valid Try.prog 153 laws_toZone.con :=
  V.body_ok (V.env_ok V.mixed V.tysOk (V.tab_cons laws_toSignedS.ok (V.tab_cons laws_toEntryS.ok V.tab_nil))) Try.func153 (by kernel_rfl) (by kernel_rfl) (by kernel_rfl) (fun x y h => (show V.evBody laws_toZone.E laws_toZone.con Try.f153 x = _ from laws_toZone.eq x).trans h)
noncomputable abbrev laws_toZoneS.con : V.Con := ⟨(.cons (.sl (.cons (.sl V.eSigned) (.cons (.sl V.eEntry) .nil))) .nil), (.cons (.sl (.cons (.sl V.eSigned) (.cons (.sl V.eEntry) .nil))) .nil), fun (x : List TZone) => laws_toZoneS x, [], [(false, 1)], [(false, 1)], [true], []⟩
noncomputable abbrev laws_toZoneS.E : V.Env := V.mkE V.tys [(153, laws_toZone.con)] [(6, [0, 3, 4], [])] [] [] []
noncomputable abbrev laws_toZoneS.kt (x0 : List TZone) : V.Kt (List TZone) := V.ktOf laws_toZoneS.E laws_toZoneS.con Try.f99 ((x0) : List TZone)
noncomputable abbrev laws_toZoneS.s6 (x0 : List TZone) (v6_1 : Int) (v6_2 : List TZone) : V.St := ⟨[(0, .v false [.val (.sl (.cons (.sl V.eSigned) (.cons (.sl V.eEntry) .nil)) x0)]), (3, .v false [.ref 64000038400192]), (4, .v false [.val (.int .i64 v6_1)])], [(64000038400192, .row (.cons (.sl V.eSigned) (.cons (.sl V.eEntry) .nil)) true v6_2)]⟩
theorem laws_toZoneS.r6 (x0 : List TZone) (R : V.St → Option (List TZone)) (v6_1 : Int) (v6_2 : List TZone) : V.loopF laws_toZoneS.E Try.f99.ntmps [1, 1, 0, 1, 0] [] (V.codeOf Try.f99) (laws_toZoneS.kt x0) R (laws_toZoneS.s6 x0 v6_1 v6_2) = laws_toZoneS.g6 x0 (fun v6_1 v6_2 => R (laws_toZoneS.s6 x0 v6_1 v6_2)) v6_1 v6_2 := by kernel_rfl
theorem laws_toZoneS.e6 (x0 : List TZone) : ∀ (n : Nat) (v6_1 : Int) (v6_2 : List TZone), V.loopN (V.loopF laws_toZoneS.E Try.f99.ntmps [1, 1, 0, 1, 0] [] (V.codeOf Try.f99) (laws_toZoneS.kt x0)) n (laws_toZoneS.s6 x0 v6_1 v6_2) = laws_toZoneS.l6 x0 n v6_1 v6_2 := by
  intro n
  induction n with
  | zero => intros; rfl
  | succ n ih =>
    intro v6_1 v6_2
    show V.loopF laws_toZoneS.E Try.f99.ntmps [1, 1, 0, 1, 0] [] (V.codeOf Try.f99) (laws_toZoneS.kt x0) (V.loopN (V.loopF laws_toZoneS.E Try.f99.ntmps [1, 1, 0, 1, 0] [] (V.codeOf Try.f99) (laws_toZoneS.kt x0)) n) (laws_toZoneS.s6 x0 v6_1 v6_2) = _
    rw [laws_toZoneS.r6]
    simp only [ih]
    rfl
theorem laws_toZoneS.v (x0 : List TZone) : V.evBody laws_toZoneS.E laws_toZoneS.con Try.f99 ((x0) : List TZone) = laws_toZoneS.b x0 (fun v6_1 v6_2 => V.loopN (V.loopF laws_toZoneS.E Try.f99.ntmps [1, 1, 0, 1, 0] [] (V.codeOf Try.f99) (laws_toZoneS.kt x0)) V.KK (laws_toZoneS.s6 x0 v6_1 v6_2)) := by kernel_rfl
theorem laws_toZoneS.eq (x0 : List TZone) : V.evBody laws_toZoneS.E laws_toZoneS.con Try.f99 ((x0) : List TZone) = laws_toZoneS x0 := by
  rw [laws_toZoneS.v]
  simp only [laws_toZoneS.e6]
  rfl
theorem laws_toZoneS.ok : V.Valid Try.prog 99 laws_toZoneS.con :=
  V.body_ok (V.env_ok V.mixed V.tysOk (V.tab_cons laws_toZone.ok V.tab_nil)) Try.func99 (by kernel_rfl) (by kernel_rfl) (by kernel_rfl) (fun x y h => (show V.evBody laws_toZoneS.E laws_toZoneS.con Try.f99 x = _ from laws_toZoneS.eq x).trans h)
noncomputable abbrev laws_toServer.con : V.Con := ⟨(.cons (.sl (.cons (.sl V.eSigned) (.cons (.sl V.eEntry) .nil))) (.cons (.int .i64) .nil)), (.cons (.sl (.cons (.sl V.eSigned) (.cons (.sl V.eEntry) .nil))) (.cons (.int .i64) .nil)), fun (x : List TZone × Int) => laws_toServer x, [], [(true, 2)], [(true, 2)], [true, false], []⟩
noncomputable abbrev laws_toServer.E : V.Env := V.mkE V.tys [(99, laws_toZoneS.con)] [] [] [] []
noncomputable abbrev laws_toServer.kt (x0 : TServer) : V.Kt TServer := V.ktOf laws_toServer.E laws_toServer.con Try.f37 ((x0.1, x0.2) : List TZone × Int)
theorem laws_toServer.eq (x0 : TServer) : V.evBody laws_toServer.E laws_toServer.con Try.f37 ((x0.1, x0.2) : List TZone × Int) = laws_toServer x0 := by kernel_rfl
theorem laws_toServer.ok : V.Valid Try.prog 37 laws_toServer.con :=
  V.body_ok (V.env_ok V.mixed V.tysOk (V.tab_cons laws_toZoneS.ok V.tab_nil)) Try.func37 (by kernel_rfl) (by kernel_rfl) (by kernel_rfl) (fun x y h => (show V.evBody laws_toServer.E laws_toServer.con Try.f37 x = _ from laws_toServer.eq x).trans h)
noncomputable abbrev spec_SamePath.con : V.Con := ⟨(.cons (.sl (.cons .str .nil)) (.cons (.sl (.cons .str .nil)) .nil)), (.cons .bool .nil), fun (x : List ByteArray × List ByteArray) => spec_SamePath x.1 x.2, [], [(false, 1), (false, 1)], [(false, 1)], [false], []⟩
noncomputable abbrev spec_SamePath.E : V.Env := V.mkE V.tys [] [(8, [0, 1, 5], [])] [(6, 8)] [] []
noncomputable abbrev spec_SamePath.kt (x0 : List ByteArray) (x1 : List ByteArray) : V.Kt Bool := V.ktOf spec_SamePath.E spec_SamePath.con Try.f157 ((x0, x1) : List ByteArray × List ByteArray)
noncomputable abbrev spec_SamePath.s8 (x0 : List ByteArray) (x1 : List ByteArray) (v8_2 : Int) : V.St := ⟨[(0, .v false [.val (.sl (.cons .str .nil) x0)]), (1, .v false [.val (.sl (.cons .str .nil) x1)]), (5, .v false [.val (.int .i64 v8_2)])], []⟩
theorem spec_SamePath.r8 (x0 : List ByteArray) (x1 : List ByteArray) (R : V.St → Option Bool) (v8_2 : Int) : V.loopF spec_SamePath.E Try.f157.ntmps [1, 1, 0, 1, 0] [] (V.codeOf Try.f157) (spec_SamePath.kt x0 x1) R (spec_SamePath.s8 x0 x1 v8_2) = spec_SamePath.g8 x0 x1 (fun v8_2 => R (spec_SamePath.s8 x0 x1 v8_2)) v8_2 := by kernel_rfl
theorem spec_SamePath.e8 (x0 : List ByteArray) (x1 : List ByteArray) : ∀ (n : Nat) (v8_2 : Int), V.loopN (V.loopF spec_SamePath.E Try.f157.ntmps [1, 1, 0, 1, 0] [] (V.codeOf Try.f157) (spec_SamePath.kt x0 x1)) n (spec_SamePath.s8 x0 x1 v8_2) = spec_SamePath.l8 x0 x1 n v8_2 := by
  intro n
  induction n with
  | zero => intros; rfl
  | succ n ih =>
    intro v8_2
    show V.loopF spec_SamePath.E Try.f157.ntmps [1, 1, 0, 1, 0] [] (V.codeOf Try.f157) (spec_SamePath.kt x0 x1) (V.loopN (V.loopF spec_SamePath.E Try.f157.ntmps [1, 1, 0, 1, 0] [] (V.codeOf Try.f157) (spec_SamePath.kt x0 x1)) n) (spec_SamePath.s8 x0 x1 v8_2) = _
    rw [spec_SamePath.r8]
    simp only [ih]
    rfl
theorem spec_SamePath.v (x0 : List ByteArray) (x1 : List ByteArray) : V.evBody spec_SamePath.E spec_SamePath.con Try.f157 ((x0, x1) : List ByteArray × List ByteArray) = spec_SamePath.b x0 x1 (fun v8_2 => V.loopN (V.loopF spec_SamePath.E Try.f157.ntmps [1, 1, 0, 1, 0] [] (V.codeOf Try.f157) (spec_SamePath.kt x0 x1)) V.KK (spec_SamePath.s8 x0 x1 v8_2)) := by kernel_rfl
theorem spec_SamePath.eq (x0 : List ByteArray) (x1 : List ByteArray) : V.evBody spec_SamePath.E spec_SamePath.con Try.f157 ((x0, x1) : List ByteArray × List ByteArray) = spec_SamePath x0 x1 := by
  rw [spec_SamePath.v]
  simp only [spec_SamePath.e8]
  rfl
theorem spec_SamePath.ok : V.Valid Try.prog 157 spec_SamePath.con :=
  V.body_ok (V.env_ok V.mixed V.tysOk V.tab_nil) Try.func157 (by kernel_rfl) (by kernel_rfl) (by kernel_rfl) (fun x y h => (show V.evBody spec_SamePath.E spec_SamePath.con Try.f157 x = _ from spec_SamePath.eq x.1 x.2).trans h)
noncomputable abbrev spec_EqualEntries.con : V.Con := ⟨(.cons .str (.cons (.int .i64) (.cons (.int .i64) (.cons (.sl (.cons .str .nil)) (.cons .str (.cons (.int .i64) (.cons (.int .i64) (.cons (.sl (.cons .str .nil)) .nil)))))))), (.cons .bool .nil), fun (x : ByteArray × Int × Int × List ByteArray × ByteArray × Int × Int × List ByteArray) => spec_EqualEntries (x.1, x.2.1, x.2.2.1, x.2.2.2.1) x.2.2.2.2, [], [(true, 4), (true, 4)], [(false, 1)], [false], []⟩
noncomputable abbrev spec_EqualEntries.E : V.Env := V.mkE V.tys [(157, spec_SamePath.con)] [] [] [] []
noncomputable abbrev spec_EqualEntries.kt (x0 : TEntry) (x1 : TEntry) : V.Kt Bool := V.ktOf spec_EqualEntries.E spec_EqualEntries.con Try.f106 ((x0.1, x0.2.1, x0.2.2.1, x0.2.2.2, x1.1, x1.2.1, x1.2.2.1, x1.2.2.2) : ByteArray × Int × Int × List ByteArray × ByteArray × Int × Int × List ByteArray)
theorem spec_EqualEntries.eq (x0 : TEntry) (x1 : TEntry) : V.evBody spec_EqualEntries.E spec_EqualEntries.con Try.f106 ((x0.1, x0.2.1, x0.2.2.1, x0.2.2.2, x1.1, x1.2.1, x1.2.2.1, x1.2.2.2) : ByteArray × Int × Int × List ByteArray × ByteArray × Int × Int × List ByteArray) = spec_EqualEntries x0 x1 := by kernel_rfl
theorem spec_EqualEntries.ok : V.Valid Try.prog 106 spec_EqualEntries.con :=
  V.body_ok (V.env_ok V.mixed V.tysOk (V.tab_cons spec_SamePath.ok V.tab_nil)) Try.func106 (by kernel_rfl) (by kernel_rfl) (by kernel_rfl) (fun x y h => (show V.evBody spec_EqualEntries.E spec_EqualEntries.con Try.f106 x = _ from spec_EqualEntries.eq (x.1, x.2.1, x.2.2.1, x.2.2.2.1) x.2.2.2.2).trans h)
noncomputable abbrev spec_SameEntries.con : V.Con := ⟨(.cons (.sl V.eEntry) (.cons (.sl V.eEntry) .nil)), (.cons .bool .nil), fun (x : List TEntry × List TEntry) => spec_SameEntries x.1 x.2, [], [(false, 1), (false, 1)], [(false, 1)], [false], []⟩
noncomputable abbrev spec_SameEntries.E : V.Env := V.mkE V.tys [(106, spec_EqualEntries.con)] [(8, [0, 1, 5], [])] [(6, 8)] [] []
noncomputable abbrev spec_SameEntries.kt (x0 : List TEntry) (x1 : List TEntry) : V.Kt Bool := V.ktOf spec_SameEntries.E spec_SameEntries.con Try.f150 ((x0, x1) : List TEntry × List TEntry)
noncomputable abbrev spec_SameEntries.s8 (x0 : List TEntry) (x1 : List TEntry) (v8_2 : Int) : V.St := ⟨[(0, .v false [.val (.sl V.eEntry x0)]), (1, .v false [.val (.sl V.eEntry x1)]), (5, .v false [.val (.int .i64 v8_2)])], []⟩
theorem spec_SameEntries.r8 (x0 : List TEntry) (x1 : List TEntry) (R : V.St → Option Bool) (v8_2 : Int) : V.loopF spec_SameEntries.E Try.f150.ntmps [1, 1, 0, 1, 0] [] (V.codeOf Try.f150) (spec_SameEntries.kt x0 x1) R (spec_SameEntries.s8 x0 x1 v8_2) = spec_SameEntries.g8 x0 x1 (fun v8_2 => R (spec_SameEntries.s8 x0 x1 v8_2)) v8_2 := by kernel_rfl
theorem spec_SameEntries.e8 (x0 : List TEntry) (x1 : List TEntry) : ∀ (n : Nat) (v8_2 : Int), V.loopN (V.loopF spec_SameEntries.E Try.f150.ntmps [1, 1, 0, 1, 0] [] (V.codeOf Try.f150) (spec_SameEntries.kt x0 x1)) n (spec_SameEntries.s8 x0 x1 v8_2) = spec_SameEntries.l8 x0 x1 n v8_2 := by
  intro n
  induction n with
  | zero => intros; rfl
  | succ n ih =>
    intro v8_2
    show V.loopF spec_SameEntries.E Try.f150.ntmps [1, 1, 0, 1, 0] [] (V.codeOf Try.f150) (spec_SameEntries.kt x0 x1) (V.loopN (V.loopF spec_SameEntries.E Try.f150.ntmps [1, 1, 0, 1, 0] [] (V.codeOf Try.f150) (spec_SameEntries.kt x0 x1)) n) (spec_SameEntries.s8 x0 x1 v8_2) = _
    rw [spec_SameEntries.r8]
    simp only [ih]
    rfl
theorem spec_SameEntries.v (x0 : List TEntry) (x1 : List TEntry) : V.evBody spec_SameEntries.E spec_SameEntries.con Try.f150 ((x0, x1) : List TEntry × List TEntry) = spec_SameEntries.b x0 x1 (fun v8_2 => V.loopN (V.loopF spec_SameEntries.E Try.f150.ntmps [1, 1, 0, 1, 0] [] (V.codeOf Try.f150) (spec_SameEntries.kt x0 x1)) V.KK (spec_SameEntries.s8 x0 x1 v8_2)) := by kernel_rfl
theorem spec_SameEntries.eq (x0 : List TEntry) (x1 : List TEntry) : V.evBody spec_SameEntries.E spec_SameEntries.con Try.f150 ((x0, x1) : List TEntry × List TEntry) = spec_SameEntries x0 x1 := by
  rw [spec_SameEntries.v]
  simp only [spec_SameEntries.e8]
  rfl
theorem spec_SameEntries.ok : V.Valid Try.prog 150 spec_SameEntries.con :=
  V.body_ok (V.env_ok V.mixed V.tysOk (V.tab_cons spec_EqualEntries.ok V.tab_nil)) Try.func150 (by kernel_rfl) (by kernel_rfl) (by kernel_rfl) (fun x y h => (show V.evBody spec_SameEntries.E spec_SameEntries.con Try.f150 x = _ from spec_SameEntries.eq x.1 x.2).trans h)
noncomputable abbrev spec_KeysInts.con : V.Con := ⟨(.cons (.sl (.cons (.int .i64) .nil)) (.cons (.int .i64) .nil)), (.cons (.sl (.cons (.int .i64) .nil)) .nil), fun (x : List Int × Int) => spec_KeysInts x, [], [(true, 2)], [(false, 1)], [true], []⟩
noncomputable abbrev spec_KeysInts.E : V.Env := V.mkE V.tys [] [] [] [] []
noncomputable abbrev spec_KeysInts.kt (x0 : TKeys) : V.Kt (List Int) := V.ktOf spec_KeysInts.E spec_KeysInts.con Try.f192 ((x0.1, x0.2) : List Int × Int)
theorem spec_KeysInts.eq (x0 : TKeys) : V.evBody spec_KeysInts.E spec_KeysInts.con Try.f192 ((x0.1, x0.2) : List Int × Int) = spec_KeysInts x0 := by kernel_rfl
theorem spec_KeysInts.ok : V.Valid Try.prog 192 spec_KeysInts.con :=
  V.body_ok (V.env_ok V.mixed V.tysOk V.tab_nil) Try.func192 (by kernel_rfl) (by kernel_rfl) (by kernel_rfl) (fun x y h => (show V.evBody spec_KeysInts.E spec_KeysInts.con Try.f192 x = _ from spec_KeysInts.eq x).trans h)
noncomputable abbrev spec_HeadInts.con : V.Con := ⟨V.A2, (.cons (.sl (.cons (.int .i64) .nil)) .nil), fun (x : V.D2) => spec_HeadInts (V.p2_0 x), [], [(true, 16)], [(false, 1)], [true], []⟩
noncomputable abbrev spec_HeadInts.E : V.Env := V.mkE V.tys [(192, spec_KeysInts.con)] [] [] [] []
noncomputable abbrev spec_HeadInts.kt (x0 : THead) : V.Kt (List Int) := V.ktOf spec_HeadInts.E spec_HeadInts.con Try.f163 (V.fl2 x0)
theorem spec_HeadInts.eq (x0 : THead) : V.evBody spec_HeadInts.E spec_HeadInts.con Try.f163 (V.fl2 x0) = spec_HeadInts x0 := by kernel_rfl
theorem spec_HeadInts.ok : V.Valid Try.prog 163 spec_HeadInts.con :=
  V.body_ok (V.env_ok V.mixed V.tysOk (V.tab_cons spec_KeysInts.ok V.tab_nil)) Try.func163 (by kernel_rfl) (by kernel_rfl) (by kernel_rfl) (fun x y h => (show V.evBody spec_HeadInts.E spec_HeadInts.con Try.f163 x = _ from spec_HeadInts.eq (V.p2_0 x)).trans h)
noncomputable abbrev spec_EqualInts.con : V.Con := ⟨(.cons (.sl (.cons (.int .i64) .nil)) (.cons (.sl (.cons (.int .i64) .nil)) .nil)), (.cons .bool .nil), fun (x : List Int × List Int) => spec_EqualInts x.1 x.2, [], [(false, 1), (false, 1)], [(false, 1)], [false], []⟩
noncomputable abbrev spec_EqualInts.E : V.Env := V.mkE V.tys [] [(8, [0, 1, 5], [])] [(6, 8)] [] []
noncomputable abbrev spec_EqualInts.kt (x0 : List Int) (x1 : List Int) : V.Kt Bool := V.ktOf spec_EqualInts.E spec_EqualInts.con Try.f132 ((x0, x1) : List Int × List Int)
noncomputable abbrev spec_EqualInts.s8 (x0 : List Int) (x1 : List Int) (v8_2 : Int) : V.St := ⟨[(0, .v false [.val (.sl (.cons (.int .i64) .nil) x0)]), (1, .v false [.val (.sl (.cons (.int .i64) .nil) x1)]), (5, .v false [.val (.int .i64 v8_2)])], []⟩
theorem spec_EqualInts.r8 (x0 : List Int) (x1 : List Int) (R : V.St → Option Bool) (v8_2 : Int) : V.loopF spec_EqualInts.E Try.f132.ntmps [1, 1, 0, 1, 0] [] (V.codeOf Try.f132) (spec_EqualInts.kt x0 x1) R (spec_EqualInts.s8 x0 x1 v8_2) = spec_EqualInts.g8 x0 x1 (fun v8_2 => R (spec_EqualInts.s8 x0 x1 v8_2)) v8_2 := by kernel_rfl
theorem spec_EqualInts.e8 (x0 : List Int) (x1 : List Int) : ∀ (n : Nat) (v8_2 : Int), V.loopN (V.loopF spec_EqualInts.E Try.f132.ntmps [1, 1, 0, 1, 0] [] (V.codeOf Try.f132) (spec_EqualInts.kt x0 x1)) n (spec_EqualInts.s8 x0 x1 v8_2) = spec_EqualInts.l8 x0 x1 n v8_2 := by
  intro n
  induction n with
  | zero => intros; rfl
  | succ n ih =>
    intro v8_2
    show V.loopF spec_EqualInts.E Try.f132.ntmps [1, 1, 0, 1, 0] [] (V.codeOf Try.f132) (spec_EqualInts.kt x0 x1) (V.loopN (V.loopF spec_EqualInts.E Try.f132.ntmps [1, 1, 0, 1, 0] [] (V.codeOf Try.f132) (spec_EqualInts.kt x0 x1)) n) (spec_EqualInts.s8 x0 x1 v8_2) = _
    rw [spec_EqualInts.r8]
    simp only [ih]
    rfl
theorem spec_EqualInts.v (x0 : List Int) (x1 : List Int) : V.evBody spec_EqualInts.E spec_EqualInts.con Try.f132 ((x0, x1) : List Int × List Int) = spec_EqualInts.b x0 x1 (fun v8_2 => V.loopN (V.loopF spec_EqualInts.E Try.f132.ntmps [1, 1, 0, 1, 0] [] (V.codeOf Try.f132) (spec_EqualInts.kt x0 x1)) V.KK (spec_EqualInts.s8 x0 x1 v8_2)) := by kernel_rfl
theorem spec_EqualInts.eq (x0 : List Int) (x1 : List Int) : V.evBody spec_EqualInts.E spec_EqualInts.con Try.f132 ((x0, x1) : List Int × List Int) = spec_EqualInts x0 x1 := by
  rw [spec_EqualInts.v]
  simp only [spec_EqualInts.e8]
  rfl
theorem spec_EqualInts.ok : V.Valid Try.prog 132 spec_EqualInts.con :=
  V.body_ok (V.env_ok V.mixed V.tysOk V.tab_nil) Try.func132 (by kernel_rfl) (by kernel_rfl) (by kernel_rfl) (fun x y h => (show V.evBody spec_EqualInts.E spec_EqualInts.con Try.f132 x = _ from spec_EqualInts.eq x.1 x.2).trans h)
noncomputable abbrev spec_EqualHeads.con : V.Con := ⟨V.A4, (.cons .bool .nil), fun (x : V.D4) => spec_EqualHeads (V.p4_0 x) (V.p4_1 x), [], [(true, 16), (true, 16)], [(false, 1)], [false], []⟩
noncomputable abbrev spec_EqualHeads.E : V.Env := V.mkE V.tys [(132, spec_EqualInts.con), (163, spec_HeadInts.con)] [] [(1, 10)] [] []
noncomputable abbrev spec_EqualHeads.kt (x0 : THead) (x1 : THead) : V.Kt Bool := V.ktOf spec_EqualHeads.E spec_EqualHeads.con Try.f124 (V.fl4 x0 x1)
theorem spec_EqualHeads.eq (x0 : THead) (x1 : THead) : V.evBody spec_EqualHeads.E spec_EqualHeads.con Try.f124 (V.fl4 x0 x1) = spec_EqualHeads x0 x1 := by kernel_rfl
theorem spec_EqualHeads.ok : V.Valid Try.prog 124 spec_EqualHeads.con :=
  V.body_ok (V.env_ok V.mixed V.tysOk (V.tab_cons spec_EqualInts.ok (V.tab_cons spec_HeadInts.ok V.tab_nil))) Try.func124 (by kernel_rfl) (by kernel_rfl) (by kernel_rfl) (fun x y h => (show V.evBody spec_EqualHeads.E spec_EqualHeads.con Try.f124 x = _ from spec_EqualHeads.eq (V.p4_0 x) (V.p4_1 x)).trans h)
noncomputable abbrev spec_EqualSigned.con : V.Con := ⟨V.A5, (.cons .bool .nil), fun (x : V.D5) => spec_EqualSigned (V.p5_0 x) (V.p5_1 x), [], [(true, 17), (true, 17)], [(false, 1)], [false], []⟩
noncomputable abbrev spec_EqualSigned.E : V.Env := V.mkE V.tys [(124, spec_EqualHeads.con)] [(7, [2, 3], []), (8, [2, 3, 5], [])] [(6, 10)] [] []
noncomputable abbrev spec_EqualSigned.kt (x0 : TSigned) (x1 : TSigned) : V.Kt Bool := V.ktOf spec_EqualSigned.E spec_EqualSigned.con Try.f125 (V.fl5 x0 x1)
noncomputable abbrev spec_EqualSigned.s8 (x0 : TSigned) (x1 : TSigned) (v8_0 : Int) : V.St := ⟨[(2, .v false [.ptr 64000 0]), (3, .v false [.ptr 64064 0]), (5, .v false [.val (.int .i64 v8_0)])], [(64000, .box [.val (.int .i64 x0.1), .val (.int .i64 x0.2.1), .val (.int .i64 x0.2.2.1), .val (.int .i64 x0.2.2.2.1), .val (.int .i64 x0.2.2.2.2.1), .val (.int .i64 x0.2.2.2.2.2.1), .val (.int .i64 x0.2.2.2.2.2.2.1), .val (.int .i64 x0.2.2.2.2.2.2.2.1), .val (.sl (.cons (.int .i64) .nil) x0.2.2.2.2.2.2.2.2.1), .val (.int .i64 x0.2.2.2.2.2.2.2.2.2.1), .val (.sl (.cons (.int .i64) .nil) x0.2.2.2.2.2.2.2.2.2.2.1), .val (.int .i64 x0.2.2.2.2.2.2.2.2.2.2.2.1), .val (.int .i64 x0.2.2.2.2.2.2.2.2.2.2.2.2.1), .val (.sl (.cons (.int .i64) .nil) x0.2.2.2.2.2.2.2.2.2.2.2.2.2.1), .val (.int .i64 x0.2.2.2.2.2.2.2.2.2.2.2.2.2.2.1), .val (.bool x0.2.2.2.2.2.2.2.2.2.2.2.2.2.2.2.1), .val (.sl (.cons (.int .i64) (.cons (.int .i64) .nil)) x0.2.2.2.2.2.2.2.2.2.2.2.2.2.2.2.2)]), (64064, .box [.val (.int .i64 x1.1), .val (.int .i64 x1.2.1), .val (.int .i64 x1.2.2.1), .val (.int .i64 x1.2.2.2.1), .val (.int .i64 x1.2.2.2.2.1), .val (.int .i64 x1.2.2.2.2.2.1), .val (.int .i64 x1.2.2.2.2.2.2.1), .val (.int .i64 x1.2.2.2.2.2.2.2.1), .val (.sl (.cons (.int .i64) .nil) x1.2.2.2.2.2.2.2.2.1), .val (.int .i64 x1.2.2.2.2.2.2.2.2.2.1), .val (.sl (.cons (.int .i64) .nil) x1.2.2.2.2.2.2.2.2.2.2.1), .val (.int .i64 x1.2.2.2.2.2.2.2.2.2.2.2.1), .val (.int .i64 x1.2.2.2.2.2.2.2.2.2.2.2.2.1), .val (.sl (.cons (.int .i64) .nil) x1.2.2.2.2.2.2.2.2.2.2.2.2.2.1), .val (.int .i64 x1.2.2.2.2.2.2.2.2.2.2.2.2.2.2.1), .val (.bool x1.2.2.2.2.2.2.2.2.2.2.2.2.2.2.2.1), .val (.sl (.cons (.int .i64) (.cons (.int .i64) .nil)) x1.2.2.2.2.2.2.2.2.2.2.2.2.2.2.2.2)])]⟩
noncomputable abbrev spec_EqualSigned.s7 (x0 : TSigned) (x1 : TSigned) : V.St := ⟨[(2, .v false [.ptr 64000 0]), (3, .v false [.ptr 64064 0])], [(64000, .box [.val (.int .i64 x0.1), .val (.int .i64 x0.2.1), .val (.int .i64 x0.2.2.1), .val (.int .i64 x0.2.2.2.1), .val (.int .i64 x0.2.2.2.2.1), .val (.int .i64 x0.2.2.2.2.2.1), .val (.int .i64 x0.2.2.2.2.2.2.1), .val (.int .i64 x0.2.2.2.2.2.2.2.1), .val (.sl (.cons (.int .i64) .nil) x0.2.2.2.2.2.2.2.2.1), .val (.int .i64 x0.2.2.2.2.2.2.2.2.2.1), .val (.sl (.cons (.int .i64) .nil) x0.2.2.2.2.2.2.2.2.2.2.1), .val (.int .i64 x0.2.2.2.2.2.2.2.2.2.2.2.1), .val (.int .i64 x0.2.2.2.2.2.2.2.2.2.2.2.2.1), .val (.sl (.cons (.int .i64) .nil) x0.2.2.2.2.2.2.2.2.2.2.2.2.2.1), .val (.int .i64 x0.2.2.2.2.2.2.2.2.2.2.2.2.2.2.1), .val (.bool x0.2.2.2.2.2.2.2.2.2.2.2.2.2.2.2.1), .val (.sl (.cons (.int .i64) (.cons (.int .i64) .nil)) x0.2.2.2.2.2.2.2.2.2.2.2.2.2.2.2.2)]), (64064, .box [.val (.int .i64 x1.1), .val (.int .i64 x1.2.1), .val (.int .i64 x1.2.2.1), .val (.int .i64 x1.2.2.2.1), .val (.int .i64 x1.2.2.2.2.1), .val (.int .i64 x1.2.2.2.2.2.1), .val (.int .i64 x1.2.2.2.2.2.2.1), .val (.int .i64 x1.2.2.2.2.2.2.2.1), .val (.sl (.cons (.int .i64) .nil) x1.2.2.2.2.2.2.2.2.1), .val (.int .i64 x1.2.2.2.2.2.2.2.2.2.1), .val (.sl (.cons (.int .i64) .nil) x1.2.2.2.2.2.2.2.2.2.2.1), .val (.int .i64 x1.2.2.2.2.2.2.2.2.2.2.2.1), .val (.int .i64 x1.2.2.2.2.2.2.2.2.2.2.2.2.1), .val (.sl (.cons (.int .i64) .nil) x1.2.2.2.2.2.2.2.2.2.2.2.2.2.1), .val (.int .i64 x1.2.2.2.2.2.2.2.2.2.2.2.2.2.2.1), .val (.bool x1.2.2.2.2.2.2.2.2.2.2.2.2.2.2.2.1), .val (.sl (.cons (.int .i64) (.cons (.int .i64) .nil)) x1.2.2.2.2.2.2.2.2.2.2.2.2.2.2.2.2)])]⟩
theorem spec_EqualSigned.r8 (x0 : TSigned) (x1 : TSigned) (R : V.St → Option Bool) (v8_0 : Int) : V.loopF spec_EqualSigned.E Try.f125.ntmps [1, 1, 0, 1, 0] [] (V.codeOf Try.f125) (spec_EqualSigned.kt x0 x1) R (spec_EqualSigned.s8 x0 x1 v8_0) = spec_EqualSigned.g8 x0 x1 (fun v8_0 => R (spec_EqualSigned.s8 x0 x1 v8_0)) v8_0 := by kernel_rfl
theorem spec_EqualSigned.e8 (x0 : TSigned) (x1 : TSigned) : ∀ (n : Nat) (v8_0 : Int), V.loopN (V.loopF spec_EqualSigned.E Try.f125.ntmps [1, 1, 0, 1, 0] [] (V.codeOf Try.f125) (spec_EqualSigned.kt x0 x1)) n (spec_EqualSigned.s8 x0 x1 v8_0) = spec_EqualSigned.l8 x0 x1 n v8_0 := by
  intro n
  induction n with
  | zero => intros; rfl
  | succ n ih =>
    intro v8_0
    show V.loopF spec_EqualSigned.E Try.f125.ntmps [1, 1, 0, 1, 0] [] (V.codeOf Try.f125) (spec_EqualSigned.kt x0 x1) (V.loopN (V.loopF spec_EqualSigned.E Try.f125.ntmps [1, 1, 0, 1, 0] [] (V.codeOf Try.f125) (spec_EqualSigned.kt x0 x1)) n) (spec_EqualSigned.s8 x0 x1 v8_0) = _
    rw [spec_EqualSigned.r8]
    simp only [ih]
    rfl
theorem spec_EqualSigned.r7 (x0 : TSigned) (x1 : TSigned) : V.joinF spec_EqualSigned.E Try.f125.ntmps [1] [] (V.codeOf Try.f125) (spec_EqualSigned.kt x0 x1) (spec_EqualSigned.s7 x0 x1) = spec_EqualSigned.g7 x0 x1 (fun v8_0 => V.loopN (V.loopF spec_EqualSigned.E Try.f125.ntmps [1, 1, 0, 1, 0] [] (V.codeOf Try.f125) (spec_EqualSigned.kt x0 x1)) V.KK (spec_EqualSigned.s8 x0 x1 v8_0)) := by kernel_rfl
theorem spec_EqualSigned.e7 (x0 : TSigned) (x1 : TSigned) : V.joinF spec_EqualSigned.E Try.f125.ntmps [1] [] (V.codeOf Try.f125) (spec_EqualSigned.kt x0 x1) (spec_EqualSigned.s7 x0 x1) = spec_EqualSigned.l7 x0 x1 := by
  rw [spec_EqualSigned.r7]
  simp only [spec_EqualSigned.e8]
  rfl
theorem spec_EqualSigned.v (x0 : TSigned) (x1 : TSigned) : V.evBody spec_EqualSigned.E spec_EqualSigned.con Try.f125 (V.fl5 x0 x1) = spec_EqualSigned.b x0 x1 (V.joinF spec_EqualSigned.E Try.f125.ntmps [1] [] (V.codeOf Try.f125) (spec_EqualSigned.kt x0 x1) (spec_EqualSigned.s7 x0 x1)) := by kernel_rfl
theorem spec_EqualSigned.eq (x0 : TSigned) (x1 : TSigned) : V.evBody spec_EqualSigned.E spec_EqualSigned.con Try.f125 (V.fl5 x0 x1) = spec_EqualSigned x0 x1 := by
  rw [spec_EqualSigned.v]
  simp only [spec_EqualSigned.e7]
  rfl
theorem spec_EqualSigned.ok : V.Valid Try.prog 125 spec_EqualSigned.con :=
  V.body_ok (V.env_ok V.mixed V.tysOk (V.tab_cons spec_EqualHeads.ok V.tab_nil)) Try.func125 (by kernel_rfl) (by kernel_rfl) (by kernel_rfl) (fun x y h => (show V.evBody spec_EqualSigned.E spec_EqualSigned.con Try.f125 x = _ from spec_EqualSigned.eq (V.p5_0 x) (V.p5_1 x)).trans h)
noncomputable abbrev spec_EqualZones.con : V.Con := ⟨(.cons (.sl V.eSigned) (.cons (.sl V.eEntry) (.cons (.sl V.eSigned) (.cons (.sl V.eEntry) .nil)))), (.cons .bool .nil), fun (x : List TSigned × List TEntry × List TSigned × List TEntry) => spec_EqualZones (x.1, x.2.1) x.2.2, [], [(true, 2), (true, 2)], [(false, 1)], [false], []⟩
noncomputable abbrev spec_EqualZones.E : V.Env := V.mkE V.tys [(125, spec_EqualSigned.con), (150, spec_SameEntries.con)] [(7, [2, 3], []), (8, [2, 3, 5], [])] [(6, 10)] [] []
noncomputable abbrev spec_EqualZones.kt (x0 : TZone) (x1 : TZone) : V.Kt Bool := V.ktOf spec_EqualZones.E spec_EqualZones.con Try.f88 ((x0.1, x0.2, x1.1, x1.2) : List TSigned × List TEntry × List TSigned × List TEntry)
noncomputable abbrev spec_EqualZones.s8 (x0 : TZone) (x1 : TZone) (v8_0 : Int) : V.St := ⟨[(2, .v false [.ptr 64000 0]), (3, .v false [.ptr 64064 0]), (5, .v false [.val (.int .i64 v8_0)])], [(64000, .box [.val (.sl V.eSigned x0.1), .val (.sl V.eEntry x0.2)]), (64064, .box [.val (.sl V.eSigned x1.1), .val (.sl V.eEntry x1.2)])]⟩
noncomputable abbrev spec_EqualZones.s7 (x0 : TZone) (x1 : TZone) : V.St := ⟨[(2, .v false [.ptr 64000 0]), (3, .v false [.ptr 64064 0])], [(64000, .box [.val (.sl V.eSigned x0.1), .val (.sl V.eEntry x0.2)]), (64064, .box [.val (.sl V.eSigned x1.1), .val (.sl V.eEntry x1.2)])]⟩
theorem spec_EqualZones.r8 (x0 : TZone) (x1 : TZone) (R : V.St → Option Bool) (v8_0 : Int) : V.loopF spec_EqualZones.E Try.f88.ntmps [1, 1, 0, 1, 0] [] (V.codeOf Try.f88) (spec_EqualZones.kt x0 x1) R (spec_EqualZones.s8 x0 x1 v8_0) = spec_EqualZones.g8 x0 x1 (fun v8_0 => R (spec_EqualZones.s8 x0 x1 v8_0)) v8_0 := by kernel_rfl
theorem spec_EqualZones.e8 (x0 : TZone) (x1 : TZone) : ∀ (n : Nat) (v8_0 : Int), V.loopN (V.loopF spec_EqualZones.E Try.f88.ntmps [1, 1, 0, 1, 0] [] (V.codeOf Try.f88) (spec_EqualZones.kt x0 x1)) n (spec_EqualZones.s8 x0 x1 v8_0) = spec_EqualZones.l8 x0 x1 n v8_0 := by
  intro n
  induction n with
  | zero => intros; rfl
  | succ n ih =>
    intro v8_0
    show V.loopF spec_EqualZones.E Try.f88.ntmps [1, 1, 0, 1, 0] [] (V.codeOf Try.f88) (spec_EqualZones.kt x0 x1) (V.loopN (V.loopF spec_EqualZones.E Try.f88.ntmps [1, 1, 0, 1, 0] [] (V.codeOf Try.f88) (spec_EqualZones.kt x0 x1)) n) (spec_EqualZones.s8 x0 x1 v8_0) = _
    rw [spec_EqualZones.r8]
    simp only [ih]
    rfl
theorem spec_EqualZones.r7 (x0 : TZone) (x1 : TZone) : V.joinF spec_EqualZones.E Try.f88.ntmps [1] [] (V.codeOf Try.f88) (spec_EqualZones.kt x0 x1) (spec_EqualZones.s7 x0 x1) = spec_EqualZones.g7 x0 x1 (fun v8_0 => V.loopN (V.loopF spec_EqualZones.E Try.f88.ntmps [1, 1, 0, 1, 0] [] (V.codeOf Try.f88) (spec_EqualZones.kt x0 x1)) V.KK (spec_EqualZones.s8 x0 x1 v8_0)) := by kernel_rfl
theorem spec_EqualZones.e7 (x0 : TZone) (x1 : TZone) : V.joinF spec_EqualZones.E Try.f88.ntmps [1] [] (V.codeOf Try.f88) (spec_EqualZones.kt x0 x1) (spec_EqualZones.s7 x0 x1) = spec_EqualZones.l7 x0 x1 := by
  rw [spec_EqualZones.r7]
  simp only [spec_EqualZones.e8]
  rfl
theorem spec_EqualZones.v (x0 : TZone) (x1 : TZone) : V.evBody spec_EqualZones.E spec_EqualZones.con Try.f88 ((x0.1, x0.2, x1.1, x1.2) : List TSigned × List TEntry × List TSigned × List TEntry) = spec_EqualZones.b x0 x1 (V.joinF spec_EqualZones.E Try.f88.ntmps [1] [] (V.codeOf Try.f88) (spec_EqualZones.kt x0 x1) (spec_EqualZones.s7 x0 x1)) := by kernel_rfl
theorem spec_EqualZones.eq (x0 : TZone) (x1 : TZone) : V.evBody spec_EqualZones.E spec_EqualZones.con Try.f88 ((x0.1, x0.2, x1.1, x1.2) : List TSigned × List TEntry × List TSigned × List TEntry) = spec_EqualZones x0 x1 := by
  rw [spec_EqualZones.v]
  simp only [spec_EqualZones.e7]
  rfl
theorem spec_EqualZones.ok : V.Valid Try.prog 88 spec_EqualZones.con :=
  V.body_ok (V.env_ok V.mixed V.tysOk (V.tab_cons spec_EqualSigned.ok (V.tab_cons spec_SameEntries.ok V.tab_nil))) Try.func88 (by kernel_rfl) (by kernel_rfl) (by kernel_rfl) (fun x y h => (show V.evBody spec_EqualZones.E spec_EqualZones.con Try.f88 x = _ from spec_EqualZones.eq (x.1, x.2.1) x.2.2).trans h)
noncomputable abbrev spec_EqualServers.con : V.Con := ⟨(.cons (.sl (.cons (.sl V.eSigned) (.cons (.sl V.eEntry) .nil))) (.cons (.int .i64) (.cons (.sl (.cons (.sl V.eSigned) (.cons (.sl V.eEntry) .nil))) (.cons (.int .i64) .nil)))), (.cons .bool .nil), fun (x : List TZone × Int × List TZone × Int) => spec_EqualServers (x.1, x.2.1) x.2.2, [], [(true, 2), (true, 2)], [(false, 1)], [false], []⟩
noncomputable abbrev spec_EqualServers.E : V.Env := V.mkE V.tys [(88, spec_EqualZones.con)] [(7, [2, 3], []), (8, [2, 3, 5], [])] [(6, 10)] [] []
noncomputable abbrev spec_EqualServers.kt (x0 : TServer) (x1 : TServer) : V.Kt Bool := V.ktOf spec_EqualServers.E spec_EqualServers.con Try.f36 ((x0.1, x0.2, x1.1, x1.2) : List TZone × Int × List TZone × Int)
noncomputable abbrev spec_EqualServers.s8 (x0 : TServer) (x1 : TServer) (v8_0 : Int) : V.St := ⟨[(2, .v false [.ptr 64000 0]), (3, .v false [.ptr 64064 0]), (5, .v false [.val (.int .i64 v8_0)])], [(64000, .box [.val (.sl (.cons (.sl V.eSigned) (.cons (.sl V.eEntry) .nil)) x0.1), .val (.int .i64 x0.2)]), (64064, .box [.val (.sl (.cons (.sl V.eSigned) (.cons (.sl V.eEntry) .nil)) x1.1), .val (.int .i64 x1.2)])]⟩
noncomputable abbrev spec_EqualServers.s7 (x0 : TServer) (x1 : TServer) : V.St := ⟨[(2, .v false [.ptr 64000 0]), (3, .v false [.ptr 64064 0])], [(64000, .box [.val (.sl (.cons (.sl V.eSigned) (.cons (.sl V.eEntry) .nil)) x0.1), .val (.int .i64 x0.2)]), (64064, .box [.val (.sl (.cons (.sl V.eSigned) (.cons (.sl V.eEntry) .nil)) x1.1), .val (.int .i64 x1.2)])]⟩
theorem spec_EqualServers.r8 (x0 : TServer) (x1 : TServer) (R : V.St → Option Bool) (v8_0 : Int) : V.loopF spec_EqualServers.E Try.f36.ntmps [1, 1, 0, 1, 0] [] (V.codeOf Try.f36) (spec_EqualServers.kt x0 x1) R (spec_EqualServers.s8 x0 x1 v8_0) = spec_EqualServers.g8 x0 x1 (fun v8_0 => R (spec_EqualServers.s8 x0 x1 v8_0)) v8_0 := by kernel_rfl
theorem spec_EqualServers.e8 (x0 : TServer) (x1 : TServer) : ∀ (n : Nat) (v8_0 : Int), V.loopN (V.loopF spec_EqualServers.E Try.f36.ntmps [1, 1, 0, 1, 0] [] (V.codeOf Try.f36) (spec_EqualServers.kt x0 x1)) n (spec_EqualServers.s8 x0 x1 v8_0) = spec_EqualServers.l8 x0 x1 n v8_0 := by
  intro n
  induction n with
  | zero => intros; rfl
  | succ n ih =>
    intro v8_0
    show V.loopF spec_EqualServers.E Try.f36.ntmps [1, 1, 0, 1, 0] [] (V.codeOf Try.f36) (spec_EqualServers.kt x0 x1) (V.loopN (V.loopF spec_EqualServers.E Try.f36.ntmps [1, 1, 0, 1, 0] [] (V.codeOf Try.f36) (spec_EqualServers.kt x0 x1)) n) (spec_EqualServers.s8 x0 x1 v8_0) = _
    rw [spec_EqualServers.r8]
    simp only [ih]
    rfl
theorem spec_EqualServers.r7 (x0 : TServer) (x1 : TServer) : V.joinF spec_EqualServers.E Try.f36.ntmps [1] [] (V.codeOf Try.f36) (spec_EqualServers.kt x0 x1) (spec_EqualServers.s7 x0 x1) = spec_EqualServers.g7 x0 x1 (fun v8_0 => V.loopN (V.loopF spec_EqualServers.E Try.f36.ntmps [1, 1, 0, 1, 0] [] (V.codeOf Try.f36) (spec_EqualServers.kt x0 x1)) V.KK (spec_EqualServers.s8 x0 x1 v8_0)) := by kernel_rfl
theorem spec_EqualServers.e7 (x0 : TServer) (x1 : TServer) : V.joinF spec_EqualServers.E Try.f36.ntmps [1] [] (V.codeOf Try.f36) (spec_EqualServers.kt x0 x1) (spec_EqualServers.s7 x0 x1) = spec_EqualServers.l7 x0 x1 := by
  rw [spec_EqualServers.r7]
  simp only [spec_EqualServers.e8]
  rfl
theorem spec_EqualServers.v (x0 : TServer) (x1 : TServer) : V.evBody spec_EqualServers.E spec_EqualServers.con Try.f36 ((x0.1, x0.2, x1.1, x1.2) : List TZone × Int × List TZone × Int) = spec_EqualServers.b x0 x1 (V.joinF spec_EqualServers.E Try.f36.ntmps [1] [] (V.codeOf Try.f36) (spec_EqualServers.kt x0 x1) (spec_EqualServers.s7 x0 x1)) := by kernel_rfl
theorem spec_EqualServers.eq (x0 : TServer) (x1 : TServer) : V.evBody spec_EqualServers.E spec_EqualServers.con Try.f36 ((x0.1, x0.2, x1.1, x1.2) : List TZone × Int × List TZone × Int) = spec_EqualServers x0 x1 := by
  rw [spec_EqualServers.v]
  simp only [spec_EqualServers.e7]
  rfl
theorem spec_EqualServers.ok : V.Valid Try.prog 36 spec_EqualServers.con :=
  V.body_ok (V.env_ok V.mixed V.tysOk (V.tab_cons spec_EqualZones.ok V.tab_nil)) Try.func36 (by kernel_rfl) (by kernel_rfl) (by kernel_rfl) (fun x y h => (show V.evBody spec_EqualServers.E spec_EqualServers.con Try.f36 x = _ from spec_EqualServers.eq (x.1, x.2.1) x.2.2).trans h)
noncomputable abbrev slices_Equal_int.con : V.Con := ⟨(.cons (.sl (.cons (.int .i64) .nil)) (.cons (.sl (.cons (.int .i64) .nil)) .nil)), (.cons .bool .nil), fun (x : List Int × List Int) => slices_Equal_int x.1 x.2, [], [(false, 1), (false, 1)], [(false, 1)], [false], []⟩
noncomputable abbrev slices_Equal_int.E : V.Env := V.mkE V.tys [] [(8, [0, 1, 12, 13], [])] [(6, 8)] [] []
noncomputable abbrev slices_Equal_int.kt (x0 : List Int) (x1 : List Int) : V.Kt Bool := V.ktOf slices_Equal_int.E slices_Equal_int.con Try.f133 ((x0, x1) : List Int × List Int)
noncomputable abbrev slices_Equal_int.s8 (x0 : List Int) (x1 : List Int) (v8_2 : Int) (v8_3 : Int) : V.St := ⟨[(0, .v false [.val (.sl (.cons (.int .i64) .nil) x0)]), (1, .v false [.val (.sl (.cons (.int .i64) .nil) x1)]), (12, .v false [.val (.int .i64 v8_2)]), (13, .v false [.val (.int .i64 v8_3)])], []⟩
theorem slices_Equal_int.r8 (x0 : List Int) (x1 : List Int) (R : V.St → Option Bool) (v8_2 : Int) (v8_3 : Int) : V.loopF slices_Equal_int.E Try.f133.ntmps [1, 1, 0, 1, 0] [] (V.codeOf Try.f133) (slices_Equal_int.kt x0 x1) R (slices_Equal_int.s8 x0 x1 v8_2 v8_3) = slices_Equal_int.g8 x0 x1 (fun v8_2 v8_3 => R (slices_Equal_int.s8 x0 x1 v8_2 v8_3)) v8_2 v8_3 := by kernel_rfl
theorem slices_Equal_int.e8 (x0 : List Int) (x1 : List Int) : ∀ (n : Nat) (v8_2 : Int) (v8_3 : Int), V.loopN (V.loopF slices_Equal_int.E Try.f133.ntmps [1, 1, 0, 1, 0] [] (V.codeOf Try.f133) (slices_Equal_int.kt x0 x1)) n (slices_Equal_int.s8 x0 x1 v8_2 v8_3) = slices_Equal_int.l8 x0 x1 n v8_2 v8_3 := by
  intro n
  induction n with
  | zero => intros; rfl
  | succ n ih =>
    intro v8_2 v8_3
    show V.loopF slices_Equal_int.E Try.f133.ntmps [1, 1, 0, 1, 0] [] (V.codeOf Try.f133) (slices_Equal_int.kt x0 x1) (V.loopN (V.loopF slices_Equal_int.E Try.f133.ntmps [1, 1, 0, 1, 0] [] (V.codeOf Try.f133) (slices_Equal_int.kt x0 x1)) n) (slices_Equal_int.s8 x0 x1 v8_2 v8_3) = _
    rw [slices_Equal_int.r8]
    simp only [ih]
    rfl
theorem slices_Equal_int.v (x0 : List Int) (x1 : List Int) : V.evBody slices_Equal_int.E slices_Equal_int.con Try.f133 ((x0, x1) : List Int × List Int) = slices_Equal_int.b x0 x1 (fun v8_2 v8_3 => V.loopN (V.loopF slices_Equal_int.E Try.f133.ntmps [1, 1, 0, 1, 0] [] (V.codeOf Try.f133) (slices_Equal_int.kt x0 x1)) V.KK (slices_Equal_int.s8 x0 x1 v8_2 v8_3)) := by kernel_rfl
theorem slices_Equal_int.eq (x0 : List Int) (x1 : List Int) : V.evBody slices_Equal_int.E slices_Equal_int.con Try.f133 ((x0, x1) : List Int × List Int) = slices_Equal_int x0 x1 := by
  rw [slices_Equal_int.v]
  simp only [slices_Equal_int.e8]
  rfl
theorem slices_Equal_int.ok : V.Valid Try.prog 133 slices_Equal_int.con :=
  V.body_ok (V.env_ok V.mixed V.tysOk V.tab_nil) Try.func133 (by kernel_rfl) (by kernel_rfl) (by kernel_rfl) (fun x y h => (show V.evBody slices_Equal_int.E slices_Equal_int.con Try.f133 x = _ from slices_Equal_int.eq x.1 x.2).trans h)
noncomputable abbrev impl_EqualKeys.con : V.Con := ⟨(.cons (.sl (.cons (.int .i64) .nil)) (.cons (.int .i64) (.cons (.sl (.cons (.int .i64) .nil)) (.cons (.int .i64) .nil)))), (.cons .bool .nil), fun (x : List Int × Int × List Int × Int) => impl_EqualKeys (x.1, x.2.1) x.2.2, [], [(true, 2), (true, 2)], [(false, 1)], [false], []⟩
noncomputable abbrev impl_EqualKeys.E : V.Env := V.mkE V.tys [(133, slices_Equal_int.con)] [] [] [] []
noncomputable abbrev impl_EqualKeys.kt (x0 : TKeys) (x1 : TKeys) : V.Kt Bool := V.ktOf impl_EqualKeys.E impl_EqualKeys.con Try.f167 ((x0.1, x0.2, x1.1, x1.2) : List Int × Int × List Int × Int)
theorem impl_EqualKeys.eq (x0 : TKeys) (x1 : TKeys) : V.evBody impl_EqualKeys.E impl_EqualKeys.con Try.f167 ((x0.1, x0.2, x1.1, x1.2) : List Int × Int × List Int × Int) = impl_EqualKeys x0 x1 := by kernel_rfl
theorem impl_EqualKeys.ok : V.Valid Try.prog 167 impl_EqualKeys.con :=
  V.body_ok (V.env_ok V.mixed V.tysOk (V.tab_cons slices_Equal_int.ok V.tab_nil)) Try.func167 (by kernel_rfl) (by kernel_rfl) (by kernel_rfl) (fun x y h => (show V.evBody impl_EqualKeys.E impl_EqualKeys.con Try.f167 x = _ from impl_EqualKeys.eq (x.1, x.2.1) x.2.2).trans h)
noncomputable abbrev impl_KeysInts.con : V.Con := ⟨(.cons (.sl (.cons (.int .i64) .nil)) (.cons (.int .i64) .nil)), (.cons (.sl (.cons (.int .i64) .nil)) .nil), fun (x : List Int × Int) => impl_KeysInts x, [], [(true, 2)], [(false, 1)], [true], []⟩
noncomputable abbrev impl_KeysInts.E : V.Env := V.mkE V.tys [] [] [] [] []
noncomputable abbrev impl_KeysInts.kt (x0 : TKeys) : V.Kt (List Int) := V.ktOf impl_KeysInts.E impl_KeysInts.con Try.f198 ((x0.1, x0.2) : List Int × Int)
theorem impl_KeysInts.eq (x0 : TKeys) : V.evBody impl_KeysInts.E impl_KeysInts.con Try.f198 ((x0.1, x0.2) : List Int × Int) = impl_KeysInts x0 := by kernel_rfl
theorem impl_KeysInts.ok : V.Valid Try.prog 198 impl_KeysInts.con :=
  V.body_ok (V.env_ok V.mixed V.tysOk V.tab_nil) Try.func198 (by kernel_rfl) (by kernel_rfl) (by kernel_rfl) (fun x y h => (show V.evBody impl_KeysInts.E impl_KeysInts.con Try.f198 x = _ from impl_KeysInts.eq x).trans h)
noncomputable abbrev impl_bit.con : V.Con := ⟨(.cons .bool .nil), (.cons (.int .i64) .nil), fun (x : Bool) => impl_bit x, [], [(false, 1)], [(false, 1)], [false], []⟩
noncomputable abbrev impl_bit.E : V.Env := V.mkE V.tys [] [] [] [] []
noncomputable abbrev impl_bit.kt (x0 : Bool) : V.Kt Int := V.ktOf impl_bit.E impl_bit.con Try.f199 ((x0) : Bool)
theorem impl_bit.eq (x0 : Bool) : V.evBody impl_bit.E impl_bit.con Try.f199 ((x0) : Bool) = impl_bit x0 := by kernel_rfl
theorem impl_bit.ok : V.Valid Try.prog 199 impl_bit.con :=
  V.body_ok (V.env_ok V.mixed V.tysOk V.tab_nil) Try.func199 (by kernel_rfl) (by kernel_rfl) (by kernel_rfl) (fun x y h => (show V.evBody impl_bit.E impl_bit.con Try.f199 x = _ from impl_bit.eq x).trans h)
noncomputable abbrev slices_Grow_int.con : V.Con := ⟨(.cons (.sl (.cons (.int .i64) .nil)) (.cons (.int .i64) .nil)), (.cons (.sl (.cons (.int .i64) .nil)) .nil), fun (x : List Int × Int) => slices_Grow_int x.1 x.2, [], [(false, 1), (false, 1)], [(false, 1)], [true], [0]⟩
noncomputable abbrev slices_Grow_int.E : V.Env := V.mkE V.tys [] [(7, [0, 1], [])] [] [] []
noncomputable abbrev slices_Grow_int.kt (x0 : List Int) (x1 : Int) : V.Kt (List Int) := V.ktOf slices_Grow_int.E slices_Grow_int.con Try.f212 ((x0, x1) : List Int × Int)
noncomputable abbrev slices_Grow_int.s7 (x1 : Int) : V.St := ⟨[(0, .v false [.nil0]), (1, .v false [.val (.int .i64 x1)])], []⟩
theorem slices_Grow_int.r7 (x0 : List Int) (x1 : Int) : V.joinF slices_Grow_int.E Try.f212.ntmps [1] [] (V.codeOf Try.f212) (slices_Grow_int.kt x0 x1) (slices_Grow_int.s7 x1) = slices_Grow_int.g7 x1 := by kernel_rfl
theorem slices_Grow_int.e7 (x0 : List Int) (x1 : Int) : V.joinF slices_Grow_int.E Try.f212.ntmps [1] [] (V.codeOf Try.f212) (slices_Grow_int.kt x0 x1) (slices_Grow_int.s7 x1) = slices_Grow_int.l7 x1 := by
  rw [slices_Grow_int.r7]
  rfl
theorem slices_Grow_int.v (x0 : List Int) (x1 : Int) : V.evBody slices_Grow_int.E slices_Grow_int.con Try.f212 ((x0, x1) : List Int × Int) = slices_Grow_int.b x0 x1 (V.joinF slices_Grow_int.E Try.f212.ntmps [1] [] (V.codeOf Try.f212) (slices_Grow_int.kt x0 x1) (slices_Grow_int.s7 x1)) := by kernel_rfl
theorem slices_Grow_int.eq (x0 : List Int) (x1 : Int) : V.evBody slices_Grow_int.E slices_Grow_int.con Try.f212 ((x0, x1) : List Int × Int) = slices_Grow_int x0 x1 := by
  rw [slices_Grow_int.v]
  simp only [slices_Grow_int.e7]
  rfl
theorem slices_Grow_int.ok : V.Valid Try.prog 212 slices_Grow_int.con :=
  V.body_ok (V.env_ok V.mixed V.tysOk V.tab_nil) Try.func212 (by kernel_rfl) (by kernel_rfl) (by kernel_rfl) (fun x y h => (show V.evBody slices_Grow_int.E slices_Grow_int.con Try.f212 x = _ from slices_Grow_int.eq x.1 x.2).trans h)
noncomputable abbrev slices_Concat_int.con : V.Con := ⟨(.cons (.sl (.cons (.sl (.cons (.int .i64) .nil)) .nil)) .nil), (.cons (.sl (.cons (.int .i64) .nil)) .nil), fun (x : List (List Int)) => slices_Concat_int x, [], [(false, 1)], [(false, 1)], [true], []⟩
noncomputable abbrev slices_Concat_int.E : V.Env := V.mkE V.tys [(212, slices_Grow_int.con)] [(6, [0, 3, 9, 10, 11], []), (22, [6, 25, 26, 27], [])] [] [] []
noncomputable abbrev slices_Concat_int.kt (x0 : List (List Int)) : V.Kt (List Int) := V.ktOf slices_Concat_int.E slices_Concat_int.con Try.f197 ((x0) : List (List Int))
noncomputable abbrev slices_Concat_int.s22 (x0 : List (List Int)) (v22_1 : Int) (v22_2 : Int) (v22_3 : List Int) : V.St := ⟨[(6, .v false [.ref 64000140800384]), (25, .v false [.val (.sl (.cons (.sl (.cons (.int .i64) .nil)) .nil) x0)]), (26, .v false [.val (.int .i64 v22_1)]), (27, .v false [.val (.int .i64 v22_2)])], [(64000140800384, .row (.cons (.int .i64) .nil) true v22_3)]⟩
noncomputable abbrev slices_Concat_int.s6 (x0 : List (List Int)) (v6_1 : Int) (v6_3 : Int) (v6_4 : Int) : V.St := ⟨[(0, .v false [.val (.sl (.cons (.sl (.cons (.int .i64) .nil)) .nil) x0)]), (3, .v false [.val (.int .i64 v6_1)]), (9, .v false [.val (.sl (.cons (.sl (.cons (.int .i64) .nil)) .nil) x0)]), (10, .v false [.val (.int .i64 v6_3)]), (11, .v false [.val (.int .i64 v6_4)])], []⟩
theorem slices_Concat_int.r22 (x0 : List (List Int)) (R : V.St → Option (List Int)) (v22_1 : Int) (v22_2 : Int) (v22_3 : List Int) : V.loopF slices_Concat_int.E Try.f197.ntmps [1, 1, 1, 1, 0, 1, 0] [] (V.codeOf Try.f197) (slices_Concat_int.kt x0) R (slices_Concat_int.s22 x0 v22_1 v22_2 v22_3) = slices_Concat_int.g22 x0 (fun v22_1 v22_2 v22_3 => R (slices_Concat_int.s22 x0 v22_1 v22_2 v22_3)) v22_1 v22_2 v22_3 := by kernel_rfl
theorem slices_Concat_int.e22 (x0 : List (List Int)) : ∀ (n : Nat) (v22_1 : Int) (v22_2 : Int) (v22_3 : List Int), V.loopN (V.loopF slices_Concat_int.E Try.f197.ntmps [1, 1, 1, 1, 0, 1, 0] [] (V.codeOf Try.f197) (slices_Concat_int.kt x0)) n (slices_Concat_int.s22 x0 v22_1 v22_2 v22_3) = slices_Concat_int.l22 x0 n v22_1 v22_2 v22_3 := by
  intro n
  induction n with
  | zero => intros; rfl
  | succ n ih =>
    intro v22_1 v22_2 v22_3
    show V.loopF slices_Concat_int.E Try.f197.ntmps [1, 1, 1, 1, 0, 1, 0] [] (V.codeOf Try.f197) (slices_Concat_int.kt x0) (V.loopN (V.loopF slices_Concat_int.E Try.f197.ntmps [1, 1, 1, 1, 0, 1, 0] [] (V.codeOf Try.f197) (slices_Concat_int.kt x0)) n) (slices_Concat_int.s22 x0 v22_1 v22_2 v22_3) = _
    rw [slices_Concat_int.r22]
    simp only [ih]
    rfl
theorem slices_Concat_int.r6 (x0 : List (List Int)) (R : V.St → Option (List Int)) (v6_1 : Int) (v6_3 : Int) (v6_4 : Int) : V.loopF slices_Concat_int.E Try.f197.ntmps [1, 1, 0, 1, 0] [] (V.codeOf Try.f197) (slices_Concat_int.kt x0) R (slices_Concat_int.s6 x0 v6_1 v6_3 v6_4) = slices_Concat_int.g6 x0 (fun v6_1 v6_3 v6_4 => R (slices_Concat_int.s6 x0 v6_1 v6_3 v6_4)) (fun v22_1 v22_2 v22_3 => V.loopN (V.loopF slices_Concat_int.E Try.f197.ntmps [1, 1, 1, 1, 0, 1, 0] [] (V.codeOf Try.f197) (slices_Concat_int.kt x0)) V.KK (slices_Concat_int.s22 x0 v22_1 v22_2 v22_3)) v6_1 v6_3 v6_4 := by kernel_rfl
theorem slices_Concat_int.e6 (x0 : List (List Int)) : ∀ (n : Nat) (v6_1 : Int) (v6_3 : Int) (v6_4 : Int), V.loopN (V.loopF slices_Concat_int.E Try.f197.ntmps [1, 1, 0, 1, 0] [] (V.codeOf Try.f197) (slices_Concat_int.kt x0)) n (slices_Concat_int.s6 x0 v6_1 v6_3 v6_4) = slices_Concat_int.l6 x0 n v6_1 v6_3 v6_4 := by
  intro n
  induction n with
  | zero => intros; rfl
  | succ n ih =>
    intro v6_1 v6_3 v6_4
    show V.loopF slices_Concat_int.E Try.f197.ntmps [1, 1, 0, 1, 0] [] (V.codeOf Try.f197) (slices_Concat_int.kt x0) (V.loopN (V.loopF slices_Concat_int.E Try.f197.ntmps [1, 1, 0, 1, 0] [] (V.codeOf Try.f197) (slices_Concat_int.kt x0)) n) (slices_Concat_int.s6 x0 v6_1 v6_3 v6_4) = _
    rw [slices_Concat_int.r6]
    simp only [slices_Concat_int.e22, ih]
    rfl
theorem slices_Concat_int.v (x0 : List (List Int)) : V.evBody slices_Concat_int.E slices_Concat_int.con Try.f197 ((x0) : List (List Int)) = slices_Concat_int.b x0 (fun v6_1 v6_3 v6_4 => V.loopN (V.loopF slices_Concat_int.E Try.f197.ntmps [1, 1, 0, 1, 0] [] (V.codeOf Try.f197) (slices_Concat_int.kt x0)) V.KK (slices_Concat_int.s6 x0 v6_1 v6_3 v6_4)) := by kernel_rfl
theorem slices_Concat_int.eq (x0 : List (List Int)) : V.evBody slices_Concat_int.E slices_Concat_int.con Try.f197 ((x0) : List (List Int)) = slices_Concat_int x0 := by
  rw [slices_Concat_int.v]
  simp only [slices_Concat_int.e6]
  rfl
theorem slices_Concat_int.ok : V.Valid Try.prog 197 slices_Concat_int.con :=
  V.body_ok (V.env_ok V.mixed V.tysOk (V.tab_cons slices_Grow_int.ok V.tab_nil)) Try.func197 (by kernel_rfl) (by kernel_rfl) (by kernel_rfl) (fun x y h => (show V.evBody slices_Concat_int.E slices_Concat_int.con Try.f197 x = _ from slices_Concat_int.eq x).trans h)
noncomputable abbrev impl_HeadInts.con : V.Con := ⟨V.A2, (.cons (.sl (.cons (.int .i64) .nil)) .nil), fun (x : V.D2) => impl_HeadInts (V.p2_0 x), [], [(true, 16)], [(false, 1)], [true], []⟩
noncomputable abbrev impl_HeadInts.E : V.Env := V.mkE V.tys [(197, slices_Concat_int.con), (198, impl_KeysInts.con), (199, impl_bit.con)] [] [(1, 33)] [] []
noncomputable abbrev impl_HeadInts.kt (x0 : THead) : V.Kt (List Int) := V.ktOf impl_HeadInts.E impl_HeadInts.con Try.f168 (V.fl2 x0)
theorem impl_HeadInts.eq (x0 : THead) : V.evBody impl_HeadInts.E impl_HeadInts.con Try.f168 (V.fl2 x0) = impl_HeadInts x0 := by kernel_rfl
theorem impl_HeadInts.ok : V.Valid Try.prog 168 impl_HeadInts.con :=
  V.body_ok (V.env_ok V.mixed V.tysOk (V.tab_cons slices_Concat_int.ok (V.tab_cons impl_KeysInts.ok (V.tab_cons impl_bit.ok V.tab_nil)))) Try.func168 (by kernel_rfl) (by kernel_rfl) (by kernel_rfl) (fun x y h => (show V.evBody impl_HeadInts.E impl_HeadInts.con Try.f168 x = _ from impl_HeadInts.eq (V.p2_0 x)).trans h)
noncomputable abbrev impl_EqualHeads.con : V.Con := ⟨V.A4, (.cons .bool .nil), fun (x : V.D4) => impl_EqualHeads (V.p4_0 x) (V.p4_1 x), [], [(true, 16), (true, 16)], [(false, 1)], [false], []⟩
noncomputable abbrev impl_EqualHeads.E : V.Env := V.mkE V.tys [(133, slices_Equal_int.con), (167, impl_EqualKeys.con), (168, impl_HeadInts.con)] [] [(1, 23)] [] []
noncomputable abbrev impl_EqualHeads.kt (x0 : THead) (x1 : THead) : V.Kt Bool := V.ktOf impl_EqualHeads.E impl_EqualHeads.con Try.f128 (V.fl4 x0 x1)
theorem impl_EqualHeads.eq (x0 : THead) (x1 : THead) : V.evBody impl_EqualHeads.E impl_EqualHeads.con Try.f128 (V.fl4 x0 x1) = impl_EqualHeads x0 x1 := by kernel_rfl
theorem impl_EqualHeads.ok : V.Valid Try.prog 128 impl_EqualHeads.con :=
  V.body_ok (V.env_ok V.mixed V.tysOk (V.tab_cons slices_Equal_int.ok (V.tab_cons impl_EqualKeys.ok (V.tab_cons impl_HeadInts.ok V.tab_nil)))) Try.func128 (by kernel_rfl) (by kernel_rfl) (by kernel_rfl) (fun x y h => (show V.evBody impl_EqualHeads.E impl_EqualHeads.con Try.f128 x = _ from impl_EqualHeads.eq (V.p4_0 x) (V.p4_1 x)).trans h)
noncomputable abbrev slices_Equal_impl_Sig.con : V.Con := ⟨(.cons (.sl (.cons (.int .i64) (.cons (.int .i64) .nil))) (.cons (.sl (.cons (.int .i64) (.cons (.int .i64) .nil))) .nil)), (.cons .bool .nil), fun (x : List TSig × List TSig) => slices_Equal_impl_Sig x.1 x.2, [], [(false, 1), (false, 1)], [(false, 1)], [false], []⟩
noncomputable abbrev slices_Equal_impl_Sig.E : V.Env := V.mkE V.tys [] [(8, [0, 1, 12, 13], [])] [(6, 8)] [] []
noncomputable abbrev slices_Equal_impl_Sig.kt (x0 : List TSig) (x1 : List TSig) : V.Kt Bool := V.ktOf slices_Equal_impl_Sig.E slices_Equal_impl_Sig.con Try.f169 ((x0, x1) : List TSig × List TSig)
noncomputable abbrev slices_Equal_impl_Sig.s8 (x0 : List TSig) (x1 : List TSig) (v8_2 : Int) (v8_3 : Int) : V.St := ⟨[(0, .v false [.val (.sl (.cons (.int .i64) (.cons (.int .i64) .nil)) x0)]), (1, .v false [.val (.sl (.cons (.int .i64) (.cons (.int .i64) .nil)) x1)]), (12, .v false [.val (.int .i64 v8_2)]), (13, .v false [.val (.int .i64 v8_3)])], []⟩
theorem slices_Equal_impl_Sig.r8 (x0 : List TSig) (x1 : List TSig) (R : V.St → Option Bool) (v8_2 : Int) (v8_3 : Int) : V.loopF slices_Equal_impl_Sig.E Try.f169.ntmps [1, 1, 0, 1, 0] [] (V.codeOf Try.f169) (slices_Equal_impl_Sig.kt x0 x1) R (slices_Equal_impl_Sig.s8 x0 x1 v8_2 v8_3) = slices_Equal_impl_Sig.g8 x0 x1 (fun v8_2 v8_3 => R (slices_Equal_impl_Sig.s8 x0 x1 v8_2 v8_3)) v8_2 v8_3 := by kernel_rfl
theorem slices_Equal_impl_Sig.e8 (x0 : List TSig) (x1 : List TSig) : ∀ (n : Nat) (v8_2 : Int) (v8_3 : Int), V.loopN (V.loopF slices_Equal_impl_Sig.E Try.f169.ntmps [1, 1, 0, 1, 0] [] (V.codeOf Try.f169) (slices_Equal_impl_Sig.kt x0 x1)) n (slices_Equal_impl_Sig.s8 x0 x1 v8_2 v8_3) = slices_Equal_impl_Sig.l8 x0 x1 n v8_2 v8_3 := by
  intro n
  induction n with
  | zero => intros; rfl
  | succ n ih =>
    intro v8_2 v8_3
    show V.loopF slices_Equal_impl_Sig.E Try.f169.ntmps [1, 1, 0, 1, 0] [] (V.codeOf Try.f169) (slices_Equal_impl_Sig.kt x0 x1) (V.loopN (V.loopF slices_Equal_impl_Sig.E Try.f169.ntmps [1, 1, 0, 1, 0] [] (V.codeOf Try.f169) (slices_Equal_impl_Sig.kt x0 x1)) n) (slices_Equal_impl_Sig.s8 x0 x1 v8_2 v8_3) = _
    rw [slices_Equal_impl_Sig.r8]
    simp only [ih]
    rfl
theorem slices_Equal_impl_Sig.v (x0 : List TSig) (x1 : List TSig) : V.evBody slices_Equal_impl_Sig.E slices_Equal_impl_Sig.con Try.f169 ((x0, x1) : List TSig × List TSig) = slices_Equal_impl_Sig.b x0 x1 (fun v8_2 v8_3 => V.loopN (V.loopF slices_Equal_impl_Sig.E Try.f169.ntmps [1, 1, 0, 1, 0] [] (V.codeOf Try.f169) (slices_Equal_impl_Sig.kt x0 x1)) V.KK (slices_Equal_impl_Sig.s8 x0 x1 v8_2 v8_3)) := by kernel_rfl
theorem slices_Equal_impl_Sig.eq (x0 : List TSig) (x1 : List TSig) : V.evBody slices_Equal_impl_Sig.E slices_Equal_impl_Sig.con Try.f169 ((x0, x1) : List TSig × List TSig) = slices_Equal_impl_Sig x0 x1 := by
  rw [slices_Equal_impl_Sig.v]
  simp only [slices_Equal_impl_Sig.e8]
  rfl
theorem slices_Equal_impl_Sig.ok : V.Valid Try.prog 169 slices_Equal_impl_Sig.con :=
  V.body_ok (V.env_ok V.mixed V.tysOk V.tab_nil) Try.func169 (by kernel_rfl) (by kernel_rfl) (by kernel_rfl) (fun x y h => (show V.evBody slices_Equal_impl_Sig.E slices_Equal_impl_Sig.con Try.f169 x = _ from slices_Equal_impl_Sig.eq x.1 x.2).trans h)
noncomputable abbrev impl_EqualSigned.con : V.Con := ⟨V.A5, (.cons .bool .nil), fun (x : V.D5) => impl_EqualSigned (V.p5_0 x) (V.p5_1 x), [], [(true, 17), (true, 17)], [(false, 1)], [false], []⟩
noncomputable abbrev impl_EqualSigned.E : V.Env := V.mkE V.tys [(128, impl_EqualHeads.con), (169, slices_Equal_impl_Sig.con)] [] [] [] []
noncomputable abbrev impl_EqualSigned.kt (x0 : TSigned) (x1 : TSigned) : V.Kt Bool := V.ktOf impl_EqualSigned.E impl_EqualSigned.con Try.f129 (V.fl5 x0 x1)
theorem impl_EqualSigned.eq (x0 : TSigned) (x1 : TSigned) : V.evBody impl_EqualSigned.E impl_EqualSigned.con Try.f129 (V.fl5 x0 x1) = impl_EqualSigned x0 x1 := by kernel_rfl
theorem impl_EqualSigned.ok : V.Valid Try.prog 129 impl_EqualSigned.con :=
  V.body_ok (V.env_ok V.mixed V.tysOk (V.tab_cons impl_EqualHeads.ok (V.tab_cons slices_Equal_impl_Sig.ok V.tab_nil))) Try.func129 (by kernel_rfl) (by kernel_rfl) (by kernel_rfl) (fun x y h => (show V.evBody impl_EqualSigned.E impl_EqualSigned.con Try.f129 x = _ from impl_EqualSigned.eq (V.p5_0 x) (V.p5_1 x)).trans h)
noncomputable abbrev slices_EqualFunc_impl_Signed.con : V.Con := ⟨(.cons (.sl V.eSigned) (.cons (.sl V.eSigned) (.cons (.fn 129 false .nil .nil) .nil))), (.cons .bool .nil), fun (x : List TSigned × List TSigned × (Unit) × (Unit)) => slices_EqualFunc_impl_Signed x.1 x.2.1 x.2.2, [], [(false, 1), (false, 1), (false, 1)], [(false, 1)], [false], []⟩
noncomputable abbrev slices_EqualFunc_impl_Signed.E : V.Env := V.mkE V.tys [(129, impl_EqualSigned.con)] [(8, [1, 2, 15, 16, 17], [])] [] [] []
noncomputable abbrev slices_EqualFunc_impl_Signed.kt (x0 : List TSigned) (x1 : List TSigned) (x2 : (Unit) × (Unit)) : V.Kt Bool := V.ktOf slices_EqualFunc_impl_Signed.E slices_EqualFunc_impl_Signed.con Try.f151 ((x0, x1, x2) : List TSigned × List TSigned × (Unit) × (Unit))
noncomputable abbrev slices_EqualFunc_impl_Signed.s8 (x0 : List TSigned) (x1 : List TSigned) (v8_2 : Int) (v8_3 : Int) : V.St := ⟨[(1, .v false [.val (.sl V.eSigned x1)]), (2, .v false [.val (.fn 129 false .nil .nil () ())]), (15, .v false [.val (.sl V.eSigned x0)]), (16, .v false [.val (.int .i64 v8_2)]), (17, .v false [.val (.int .i64 v8_3)])], []⟩
theorem slices_EqualFunc_impl_Signed.r8 (x0 : List TSigned) (x1 : List TSigned) (x2 : (Unit) × (Unit)) (R : V.St → Option Bool) (v8_2 : Int) (v8_3 : Int) : V.loopF slices_EqualFunc_impl_Signed.E Try.f151.ntmps [1, 1, 0, 1, 0] [] (V.codeOf Try.f151) (slices_EqualFunc_impl_Signed.kt x0 x1 x2) R (slices_EqualFunc_impl_Signed.s8 x0 x1 v8_2 v8_3) = slices_EqualFunc_impl_Signed.g8 x0 x1 (fun v8_2 v8_3 => R (slices_EqualFunc_impl_Signed.s8 x0 x1 v8_2 v8_3)) v8_2 v8_3 := by kernel_rfl
theorem slices_EqualFunc_impl_Signed.e8 (x0 : List TSigned) (x1 : List TSigned) (x2 : (Unit) × (Unit)) : ∀ (n : Nat) (v8_2 : Int) (v8_3 : Int), V.loopN (V.loopF slices_EqualFunc_impl_Signed.E Try.f151.ntmps [1, 1, 0, 1, 0] [] (V.codeOf Try.f151) (slices_EqualFunc_impl_Signed.kt x0 x1 x2)) n (slices_EqualFunc_impl_Signed.s8 x0 x1 v8_2 v8_3) = slices_EqualFunc_impl_Signed.l8 x0 x1 n v8_2 v8_3 := by
  intro n
  induction n with
  | zero => intros; rfl
  | succ n ih =>
    intro v8_2 v8_3
    show V.loopF slices_EqualFunc_impl_Signed.E Try.f151.ntmps [1, 1, 0, 1, 0] [] (V.codeOf Try.f151) (slices_EqualFunc_impl_Signed.kt x0 x1 x2) (V.loopN (V.loopF slices_EqualFunc_impl_Signed.E Try.f151.ntmps [1, 1, 0, 1, 0] [] (V.codeOf Try.f151) (slices_EqualFunc_impl_Signed.kt x0 x1 x2)) n) (slices_EqualFunc_impl_Signed.s8 x0 x1 v8_2 v8_3) = _
    rw [slices_EqualFunc_impl_Signed.r8]
    simp only [ih]
    rfl
theorem slices_EqualFunc_impl_Signed.v (x0 : List TSigned) (x1 : List TSigned) (x2 : (Unit) × (Unit)) : V.evBody slices_EqualFunc_impl_Signed.E slices_EqualFunc_impl_Signed.con Try.f151 ((x0, x1, x2) : List TSigned × List TSigned × (Unit) × (Unit)) = slices_EqualFunc_impl_Signed.b x0 x1 x2 (fun v8_2 v8_3 => V.loopN (V.loopF slices_EqualFunc_impl_Signed.E Try.f151.ntmps [1, 1, 0, 1, 0] [] (V.codeOf Try.f151) (slices_EqualFunc_impl_Signed.kt x0 x1 x2)) V.KK (slices_EqualFunc_impl_Signed.s8 x0 x1 v8_2 v8_3)) := by kernel_rfl
theorem slices_EqualFunc_impl_Signed.eq (x0 : List TSigned) (x1 : List TSigned) (x2 : (Unit) × (Unit)) : V.evBody slices_EqualFunc_impl_Signed.E slices_EqualFunc_impl_Signed.con Try.f151 ((x0, x1, x2) : List TSigned × List TSigned × (Unit) × (Unit)) = slices_EqualFunc_impl_Signed x0 x1 x2 := by
  rw [slices_EqualFunc_impl_Signed.v]
  simp only [slices_EqualFunc_impl_Signed.e8]
  rfl
theorem slices_EqualFunc_impl_Signed.ok : V.Valid Try.prog 151 slices_EqualFunc_impl_Signed.con :=
  V.body_ok (V.env_ok V.mixed V.tysOk (V.tab_cons impl_EqualSigned.ok V.tab_nil)) Try.func151 (by kernel_rfl) (by kernel_rfl) (by kernel_rfl) (fun x y h => (show V.evBody slices_EqualFunc_impl_Signed.E slices_EqualFunc_impl_Signed.con Try.f151 x = _ from slices_EqualFunc_impl_Signed.eq x.1 x.2.1 x.2.2).trans h)
noncomputable abbrev impl_sameChain.con : V.Con := ⟨(.cons (.sl V.eSigned) (.cons (.sl V.eSigned) .nil)), (.cons .bool .nil), fun (x : List TSigned × List TSigned) => impl_sameChain x.1 x.2, [], [(false, 1), (false, 1)], [(false, 1)], [false], []⟩
noncomputable abbrev impl_sameChain.E : V.Env := V.mkE V.tys [(151, slices_EqualFunc_impl_Signed.con)] [] [] [] []
noncomputable abbrev impl_sameChain.kt (x0 : List TSigned) (x1 : List TSigned) : V.Kt Bool := V.ktOf impl_sameChain.E impl_sameChain.con Try.f93 ((x0, x1) : List TSigned × List TSigned)
theorem impl_sameChain.eq (x0 : List TSigned) (x1 : List TSigned) : V.evBody impl_sameChain.E impl_sameChain.con Try.f93 ((x0, x1) : List TSigned × List TSigned) = impl_sameChain x0 x1 := by kernel_rfl
theorem impl_sameChain.ok : V.Valid Try.prog 93 impl_sameChain.con :=
  V.body_ok (V.env_ok V.mixed V.tysOk (V.tab_cons slices_EqualFunc_impl_Signed.ok V.tab_nil)) Try.func93 (by kernel_rfl) (by kernel_rfl) (by kernel_rfl) (fun x y h => (show V.evBody impl_sameChain.E impl_sameChain.con Try.f93 x = _ from impl_sameChain.eq x.1 x.2).trans h)
noncomputable abbrev slices_Equal_string.con : V.Con := ⟨(.cons (.sl (.cons .str .nil)) (.cons (.sl (.cons .str .nil)) .nil)), (.cons .bool .nil), fun (x : List ByteArray × List ByteArray) => slices_Equal_string x.1 x.2, [], [(false, 1), (false, 1)], [(false, 1)], [false], []⟩
noncomputable abbrev slices_Equal_string.E : V.Env := V.mkE V.tys [] [(8, [0, 1, 12, 13], [])] [(6, 8)] [] []
noncomputable abbrev slices_Equal_string.kt (x0 : List ByteArray) (x1 : List ByteArray) : V.Kt Bool := V.ktOf slices_Equal_string.E slices_Equal_string.con Try.f159 ((x0, x1) : List ByteArray × List ByteArray)
noncomputable abbrev slices_Equal_string.s8 (x0 : List ByteArray) (x1 : List ByteArray) (v8_2 : Int) (v8_3 : Int) : V.St := ⟨[(0, .v false [.val (.sl (.cons .str .nil) x0)]), (1, .v false [.val (.sl (.cons .str .nil) x1)]), (12, .v false [.val (.int .i64 v8_2)]), (13, .v false [.val (.int .i64 v8_3)])], []⟩
theorem slices_Equal_string.r8 (x0 : List ByteArray) (x1 : List ByteArray) (R : V.St → Option Bool) (v8_2 : Int) (v8_3 : Int) : V.loopF slices_Equal_string.E Try.f159.ntmps [1, 1, 0, 1, 0] [] (V.codeOf Try.f159) (slices_Equal_string.kt x0 x1) R (slices_Equal_string.s8 x0 x1 v8_2 v8_3) = slices_Equal_string.g8 x0 x1 (fun v8_2 v8_3 => R (slices_Equal_string.s8 x0 x1 v8_2 v8_3)) v8_2 v8_3 := by kernel_rfl
theorem slices_Equal_string.e8 (x0 : List ByteArray) (x1 : List ByteArray) : ∀ (n : Nat) (v8_2 : Int) (v8_3 : Int), V.loopN (V.loopF slices_Equal_string.E Try.f159.ntmps [1, 1, 0, 1, 0] [] (V.codeOf Try.f159) (slices_Equal_string.kt x0 x1)) n (slices_Equal_string.s8 x0 x1 v8_2 v8_3) = slices_Equal_string.l8 x0 x1 n v8_2 v8_3 := by
  intro n
  induction n with
  | zero => intros; rfl
  | succ n ih =>
    intro v8_2 v8_3
    show V.loopF slices_Equal_string.E Try.f159.ntmps [1, 1, 0, 1, 0] [] (V.codeOf Try.f159) (slices_Equal_string.kt x0 x1) (V.loopN (V.loopF slices_Equal_string.E Try.f159.ntmps [1, 1, 0, 1, 0] [] (V.codeOf Try.f159) (slices_Equal_string.kt x0 x1)) n) (slices_Equal_string.s8 x0 x1 v8_2 v8_3) = _
    rw [slices_Equal_string.r8]
    simp only [ih]
    rfl
theorem slices_Equal_string.v (x0 : List ByteArray) (x1 : List ByteArray) : V.evBody slices_Equal_string.E slices_Equal_string.con Try.f159 ((x0, x1) : List ByteArray × List ByteArray) = slices_Equal_string.b x0 x1 (fun v8_2 v8_3 => V.loopN (V.loopF slices_Equal_string.E Try.f159.ntmps [1, 1, 0, 1, 0] [] (V.codeOf Try.f159) (slices_Equal_string.kt x0 x1)) V.KK (slices_Equal_string.s8 x0 x1 v8_2 v8_3)) := by kernel_rfl
theorem slices_Equal_string.eq (x0 : List ByteArray) (x1 : List ByteArray) : V.evBody slices_Equal_string.E slices_Equal_string.con Try.f159 ((x0, x1) : List ByteArray × List ByteArray) = slices_Equal_string x0 x1 := by
  rw [slices_Equal_string.v]
  simp only [slices_Equal_string.e8]
  rfl
theorem slices_Equal_string.ok : V.Valid Try.prog 159 slices_Equal_string.con :=
  V.body_ok (V.env_ok V.mixed V.tysOk V.tab_nil) Try.func159 (by kernel_rfl) (by kernel_rfl) (by kernel_rfl) (fun x y h => (show V.evBody slices_Equal_string.E slices_Equal_string.con Try.f159 x = _ from slices_Equal_string.eq x.1 x.2).trans h)
noncomputable abbrev impl_EqualEntries.con : V.Con := ⟨(.cons .str (.cons (.int .i64) (.cons (.int .i64) (.cons (.sl (.cons .str .nil)) (.cons .str (.cons (.int .i64) (.cons (.int .i64) (.cons (.sl (.cons .str .nil)) .nil)))))))), (.cons .bool .nil), fun (x : ByteArray × Int × Int × List ByteArray × ByteArray × Int × Int × List ByteArray) => impl_EqualEntries (x.1, x.2.1, x.2.2.1, x.2.2.2.1) x.2.2.2.2, [], [(true, 4), (true, 4)], [(false, 1)], [false], []⟩
noncomputable abbrev impl_EqualEntries.E : V.Env := V.mkE V.tys [(159, slices_Equal_string.con)] [] [] [] []
noncomputable abbrev impl_EqualEntries.kt (x0 : TEntry) (x1 : TEntry) : V.Kt Bool := V.ktOf impl_EqualEntries.E impl_EqualEntries.con Try.f112 ((x0.1, x0.2.1, x0.2.2.1, x0.2.2.2, x1.1, x1.2.1, x1.2.2.1, x1.2.2.2) : ByteArray × Int × Int × List ByteArray × ByteArray × Int × Int × List ByteArray)
theorem impl_EqualEntries.eq (x0 : TEntry) (x1 : TEntry) : V.evBody impl_EqualEntries.E impl_EqualEntries.con Try.f112 ((x0.1, x0.2.1, x0.2.2.1, x0.2.2.2, x1.1, x1.2.1, x1.2.2.1, x1.2.2.2) : ByteArray × Int × Int × List ByteArray × ByteArray × Int × Int × List ByteArray) = impl_EqualEntries x0 x1 := by kernel_rfl
theorem impl_EqualEntries.ok : V.Valid Try.prog 112 impl_EqualEntries.con :=
  V.body_ok (V.env_ok V.mixed V.tysOk (V.tab_cons slices_Equal_string.ok V.tab_nil)) Try.func112 (by kernel_rfl) (by kernel_rfl) (by kernel_rfl) (fun x y h => (show V.evBody impl_EqualEntries.E impl_EqualEntries.con Try.f112 x = _ from impl_EqualEntries.eq (x.1, x.2.1, x.2.2.1, x.2.2.2.1) x.2.2.2.2).trans h)
noncomputable abbrev slices_EqualFunc_impl_Entry.con : V.Con := ⟨(.cons (.sl V.eEntry) (.cons (.sl V.eEntry) (.cons (.fn 112 false .nil .nil) .nil))), (.cons .bool .nil), fun (x : List TEntry × List TEntry × (Unit) × (Unit)) => slices_EqualFunc_impl_Entry x.1 x.2.1 x.2.2, [], [(false, 1), (false, 1), (false, 1)], [(false, 1)], [false], []⟩
noncomputable abbrev slices_EqualFunc_impl_Entry.E : V.Env := V.mkE V.tys [(112, impl_EqualEntries.con)] [(8, [1, 2, 15, 16, 17], [])] [] [] []
noncomputable abbrev slices_EqualFunc_impl_Entry.kt (x0 : List TEntry) (x1 : List TEntry) (x2 : (Unit) × (Unit)) : V.Kt Bool := V.ktOf slices_EqualFunc_impl_Entry.E slices_EqualFunc_impl_Entry.con Try.f188 ((x0, x1, x2) : List TEntry × List TEntry × (Unit) × (Unit))
noncomputable abbrev slices_EqualFunc_impl_Entry.s8 (x0 : List TEntry) (x1 : List TEntry) (v8_2 : Int) (v8_3 : Int) : V.St := ⟨[(1, .v false [.val (.sl V.eEntry x1)]), (2, .v false [.val (.fn 112 false .nil .nil () ())]), (15, .v false [.val (.sl V.eEntry x0)]), (16, .v false [.val (.int .i64 v8_2)]), (17, .v false [.val (.int .i64 v8_3)])], []⟩
theorem slices_EqualFunc_impl_Entry.r8 (x0 : List TEntry) (x1 : List TEntry) (x2 : (Unit) × (Unit)) (R : V.St → Option Bool) (v8_2 : Int) (v8_3 : Int) : V.loopF slices_EqualFunc_impl_Entry.E Try.f188.ntmps [1, 1, 0, 1, 0] [] (V.codeOf Try.f188) (slices_EqualFunc_impl_Entry.kt x0 x1 x2) R (slices_EqualFunc_impl_Entry.s8 x0 x1 v8_2 v8_3) = slices_EqualFunc_impl_Entry.g8 x0 x1 (fun v8_2 v8_3 => R (slices_EqualFunc_impl_Entry.s8 x0 x1 v8_2 v8_3)) v8_2 v8_3 := by kernel_rfl
theorem slices_EqualFunc_impl_Entry.e8 (x0 : List TEntry) (x1 : List TEntry) (x2 : (Unit) × (Unit)) : ∀ (n : Nat) (v8_2 : Int) (v8_3 : Int), V.loopN (V.loopF slices_EqualFunc_impl_Entry.E Try.f188.ntmps [1, 1, 0, 1, 0] [] (V.codeOf Try.f188) (slices_EqualFunc_impl_Entry.kt x0 x1 x2)) n (slices_EqualFunc_impl_Entry.s8 x0 x1 v8_2 v8_3) = slices_EqualFunc_impl_Entry.l8 x0 x1 n v8_2 v8_3 := by
  intro n
  induction n with
  | zero => intros; rfl
  | succ n ih =>
    intro v8_2 v8_3
    show V.loopF slices_EqualFunc_impl_Entry.E Try.f188.ntmps [1, 1, 0, 1, 0] [] (V.codeOf Try.f188) (slices_EqualFunc_impl_Entry.kt x0 x1 x2) (V.loopN (V.loopF slices_EqualFunc_impl_Entry.E Try.f188.ntmps [1, 1, 0, 1, 0] [] (V.codeOf Try.f188) (slices_EqualFunc_impl_Entry.kt x0 x1 x2)) n) (slices_EqualFunc_impl_Entry.s8 x0 x1 v8_2 v8_3) = _
    rw [slices_EqualFunc_impl_Entry.r8]
    simp only [ih]
    rfl
theorem slices_EqualFunc_impl_Entry.v (x0 : List TEntry) (x1 : List TEntry) (x2 : (Unit) × (Unit)) : V.evBody slices_EqualFunc_impl_Entry.E slices_EqualFunc_impl_Entry.con Try.f188 ((x0, x1, x2) : List TEntry × List TEntry × (Unit) × (Unit)) = slices_EqualFunc_impl_Entry.b x0 x1 x2 (fun v8_2 v8_3 => V.loopN (V.loopF slices_EqualFunc_impl_Entry.E Try.f188.ntmps [1, 1, 0, 1, 0] [] (V.codeOf Try.f188) (slices_EqualFunc_impl_Entry.kt x0 x1 x2)) V.KK (slices_EqualFunc_impl_Entry.s8 x0 x1 v8_2 v8_3)) := by kernel_rfl
theorem slices_EqualFunc_impl_Entry.eq (x0 : List TEntry) (x1 : List TEntry) (x2 : (Unit) × (Unit)) : V.evBody slices_EqualFunc_impl_Entry.E slices_EqualFunc_impl_Entry.con Try.f188 ((x0, x1, x2) : List TEntry × List TEntry × (Unit) × (Unit)) = slices_EqualFunc_impl_Entry x0 x1 x2 := by
  rw [slices_EqualFunc_impl_Entry.v]
  simp only [slices_EqualFunc_impl_Entry.e8]
  rfl
theorem slices_EqualFunc_impl_Entry.ok : V.Valid Try.prog 188 slices_EqualFunc_impl_Entry.con :=
  V.body_ok (V.env_ok V.mixed V.tysOk (V.tab_cons impl_EqualEntries.ok V.tab_nil)) Try.func188 (by kernel_rfl) (by kernel_rfl) (by kernel_rfl) (fun x y h => (show V.evBody slices_EqualFunc_impl_Entry.E slices_EqualFunc_impl_Entry.con Try.f188 x = _ from slices_EqualFunc_impl_Entry.eq x.1 x.2.1 x.2.2).trans h)
noncomputable abbrev impl_SameEntries.con : V.Con := ⟨(.cons (.sl V.eEntry) (.cons (.sl V.eEntry) .nil)), (.cons .bool .nil), fun (x : List TEntry × List TEntry) => impl_SameEntries x.1 x.2, [], [(false, 1), (false, 1)], [(false, 1)], [false], []⟩
noncomputable abbrev impl_SameEntries.E : V.Env := V.mkE V.tys [(188, slices_EqualFunc_impl_Entry.con)] [] [] [] []
noncomputable abbrev impl_SameEntries.kt (x0 : List TEntry) (x1 : List TEntry) : V.Kt Bool := V.ktOf impl_SameEntries.E impl_SameEntries.con Try.f154 ((x0, x1) : List TEntry × List TEntry)
theorem impl_SameEntries.eq (x0 : List TEntry) (x1 : List TEntry) : V.evBody impl_SameEntries.E impl_SameEntries.con Try.f154 ((x0, x1) : List TEntry × List TEntry) = impl_SameEntries x0 x1 := by kernel_rfl
theorem impl_SameEntries.ok : V.Valid Try.prog 154 impl_SameEntries.con :=
  V.body_ok (V.env_ok V.mixed V.tysOk (V.tab_cons slices_EqualFunc_impl_Entry.ok V.tab_nil)) Try.func154 (by kernel_rfl) (by kernel_rfl) (by kernel_rfl) (fun x y h => (show V.evBody impl_SameEntries.E impl_SameEntries.con Try.f154 x = _ from impl_SameEntries.eq x.1 x.2).trans h)
noncomputable abbrev impl_EqualZones.con : V.Con := ⟨(.cons (.sl V.eSigned) (.cons (.sl V.eEntry) (.cons (.sl V.eSigned) (.cons (.sl V.eEntry) .nil)))), (.cons .bool .nil), fun (x : List TSigned × List TEntry × List TSigned × List TEntry) => impl_EqualZones (x.1, x.2.1) x.2.2, [], [(true, 2), (true, 2)], [(false, 1)], [false], []⟩
noncomputable abbrev impl_EqualZones.E : V.Env := V.mkE V.tys [(93, impl_sameChain.con), (154, impl_SameEntries.con)] [] [] [] []
noncomputable abbrev impl_EqualZones.kt (x0 : TZone) (x1 : TZone) : V.Kt Bool := V.ktOf impl_EqualZones.E impl_EqualZones.con Try.f101 ((x0.1, x0.2, x1.1, x1.2) : List TSigned × List TEntry × List TSigned × List TEntry)
theorem impl_EqualZones.eq (x0 : TZone) (x1 : TZone) : V.evBody impl_EqualZones.E impl_EqualZones.con Try.f101 ((x0.1, x0.2, x1.1, x1.2) : List TSigned × List TEntry × List TSigned × List TEntry) = impl_EqualZones x0 x1 := by kernel_rfl
theorem impl_EqualZones.ok : V.Valid Try.prog 101 impl_EqualZones.con :=
  V.body_ok (V.env_ok V.mixed V.tysOk (V.tab_cons impl_sameChain.ok (V.tab_cons impl_SameEntries.ok V.tab_nil))) Try.func101 (by kernel_rfl) (by kernel_rfl) (by kernel_rfl) (fun x y h => (show V.evBody impl_EqualZones.E impl_EqualZones.con Try.f101 x = _ from impl_EqualZones.eq (x.1, x.2.1) x.2.2).trans h)
noncomputable abbrev slices_EqualFunc_impl_Zone.con : V.Con := ⟨(.cons (.sl (.cons (.sl V.eSigned) (.cons (.sl V.eEntry) .nil))) (.cons (.sl (.cons (.sl V.eSigned) (.cons (.sl V.eEntry) .nil))) (.cons (.fn 101 false .nil .nil) .nil))), (.cons .bool .nil), fun (x : List TZone × List TZone × (Unit) × (Unit)) => slices_EqualFunc_impl_Zone x.1 x.2.1 x.2.2, [], [(false, 1), (false, 1), (false, 1)], [(false, 1)], [false], []⟩
noncomputable abbrev slices_EqualFunc_impl_Zone.E : V.Env := V.mkE V.tys [(101, impl_EqualZones.con)] [(8, [1, 2, 15, 16, 17], [])] [] [] []
noncomputable abbrev slices_EqualFunc_impl_Zone.kt (x0 : List TZone) (x1 : List TZone) (x2 : (Unit) × (Unit)) : V.Kt Bool := V.ktOf slices_EqualFunc_impl_Zone.E slices_EqualFunc_impl_Zone.con Try.f100 ((x0, x1, x2) : List TZone × List TZone × (Unit) × (Unit))
noncomputable abbrev slices_EqualFunc_impl_Zone.s8 (x0 : List TZone) (x1 : List TZone) (v8_2 : Int) (v8_3 : Int) : V.St := ⟨[(1, .v false [.val (.sl (.cons (.sl V.eSigned) (.cons (.sl V.eEntry) .nil)) x1)]), (2, .v false [.val (.fn 101 false .nil .nil () ())]), (15, .v false [.val (.sl (.cons (.sl V.eSigned) (.cons (.sl V.eEntry) .nil)) x0)]), (16, .v false [.val (.int .i64 v8_2)]), (17, .v false [.val (.int .i64 v8_3)])], []⟩
theorem slices_EqualFunc_impl_Zone.r8 (x0 : List TZone) (x1 : List TZone) (x2 : (Unit) × (Unit)) (R : V.St → Option Bool) (v8_2 : Int) (v8_3 : Int) : V.loopF slices_EqualFunc_impl_Zone.E Try.f100.ntmps [1, 1, 0, 1, 0] [] (V.codeOf Try.f100) (slices_EqualFunc_impl_Zone.kt x0 x1 x2) R (slices_EqualFunc_impl_Zone.s8 x0 x1 v8_2 v8_3) = slices_EqualFunc_impl_Zone.g8 x0 x1 (fun v8_2 v8_3 => R (slices_EqualFunc_impl_Zone.s8 x0 x1 v8_2 v8_3)) v8_2 v8_3 := by kernel_rfl
theorem slices_EqualFunc_impl_Zone.e8 (x0 : List TZone) (x1 : List TZone) (x2 : (Unit) × (Unit)) : ∀ (n : Nat) (v8_2 : Int) (v8_3 : Int), V.loopN (V.loopF slices_EqualFunc_impl_Zone.E Try.f100.ntmps [1, 1, 0, 1, 0] [] (V.codeOf Try.f100) (slices_EqualFunc_impl_Zone.kt x0 x1 x2)) n (slices_EqualFunc_impl_Zone.s8 x0 x1 v8_2 v8_3) = slices_EqualFunc_impl_Zone.l8 x0 x1 n v8_2 v8_3 := by
  intro n
  induction n with
  | zero => intros; rfl
  | succ n ih =>
    intro v8_2 v8_3
    show V.loopF slices_EqualFunc_impl_Zone.E Try.f100.ntmps [1, 1, 0, 1, 0] [] (V.codeOf Try.f100) (slices_EqualFunc_impl_Zone.kt x0 x1 x2) (V.loopN (V.loopF slices_EqualFunc_impl_Zone.E Try.f100.ntmps [1, 1, 0, 1, 0] [] (V.codeOf Try.f100) (slices_EqualFunc_impl_Zone.kt x0 x1 x2)) n) (slices_EqualFunc_impl_Zone.s8 x0 x1 v8_2 v8_3) = _
    rw [slices_EqualFunc_impl_Zone.r8]
    simp only [ih]
    rfl
theorem slices_EqualFunc_impl_Zone.v (x0 : List TZone) (x1 : List TZone) (x2 : (Unit) × (Unit)) : V.evBody slices_EqualFunc_impl_Zone.E slices_EqualFunc_impl_Zone.con Try.f100 ((x0, x1, x2) : List TZone × List TZone × (Unit) × (Unit)) = slices_EqualFunc_impl_Zone.b x0 x1 x2 (fun v8_2 v8_3 => V.loopN (V.loopF slices_EqualFunc_impl_Zone.E Try.f100.ntmps [1, 1, 0, 1, 0] [] (V.codeOf Try.f100) (slices_EqualFunc_impl_Zone.kt x0 x1 x2)) V.KK (slices_EqualFunc_impl_Zone.s8 x0 x1 v8_2 v8_3)) := by kernel_rfl
theorem slices_EqualFunc_impl_Zone.eq (x0 : List TZone) (x1 : List TZone) (x2 : (Unit) × (Unit)) : V.evBody slices_EqualFunc_impl_Zone.E slices_EqualFunc_impl_Zone.con Try.f100 ((x0, x1, x2) : List TZone × List TZone × (Unit) × (Unit)) = slices_EqualFunc_impl_Zone x0 x1 x2 := by
  rw [slices_EqualFunc_impl_Zone.v]
  simp only [slices_EqualFunc_impl_Zone.e8]
  rfl
theorem slices_EqualFunc_impl_Zone.ok : V.Valid Try.prog 100 slices_EqualFunc_impl_Zone.con :=
  V.body_ok (V.env_ok V.mixed V.tysOk (V.tab_cons impl_EqualZones.ok V.tab_nil)) Try.func100 (by kernel_rfl) (by kernel_rfl) (by kernel_rfl) (fun x y h => (show V.evBody slices_EqualFunc_impl_Zone.E slices_EqualFunc_impl_Zone.con Try.f100 x = _ from slices_EqualFunc_impl_Zone.eq x.1 x.2.1 x.2.2).trans h)
noncomputable abbrev impl_EqualServers.con : V.Con := ⟨(.cons (.sl (.cons (.sl V.eSigned) (.cons (.sl V.eEntry) .nil))) (.cons (.int .i64) (.cons (.sl (.cons (.sl V.eSigned) (.cons (.sl V.eEntry) .nil))) (.cons (.int .i64) .nil)))), (.cons .bool .nil), fun (x : List TZone × Int × List TZone × Int) => impl_EqualServers (x.1, x.2.1) x.2.2, [], [(true, 2), (true, 2)], [(false, 1)], [false], []⟩
noncomputable abbrev impl_EqualServers.E : V.Env := V.mkE V.tys [(100, slices_EqualFunc_impl_Zone.con)] [] [] [] []
noncomputable abbrev impl_EqualServers.kt (x0 : TServer) (x1 : TServer) : V.Kt Bool := V.ktOf impl_EqualServers.E impl_EqualServers.con Try.f38 ((x0.1, x0.2, x1.1, x1.2) : List TZone × Int × List TZone × Int)
theorem impl_EqualServers.eq (x0 : TServer) (x1 : TServer) : V.evBody impl_EqualServers.E impl_EqualServers.con Try.f38 ((x0.1, x0.2, x1.1, x1.2) : List TZone × Int × List TZone × Int) = impl_EqualServers x0 x1 := by kernel_rfl
theorem impl_EqualServers.ok : V.Valid Try.prog 38 impl_EqualServers.con :=
  V.body_ok (V.env_ok V.mixed V.tysOk (V.tab_cons slices_EqualFunc_impl_Zone.ok V.tab_nil)) Try.func38 (by kernel_rfl) (by kernel_rfl) (by kernel_rfl) (fun x y h => (show V.evBody impl_EqualServers.E impl_EqualServers.con Try.f38 x = _ from impl_EqualServers.eq (x.1, x.2.1) x.2.2).trans h)
noncomputable abbrev laws_eqIntS.con : V.Con := ⟨(.cons (.sl (.cons (.int .i64) .nil)) (.cons (.sl (.cons (.int .i64) .nil)) .nil)), (.cons .bool .nil), fun (x : List Int × List Int) => laws_eqIntS x.1 x.2, [], [(false, 1), (false, 1)], [(false, 1)], [false], []⟩
noncomputable abbrev laws_eqIntS.E : V.Env := V.mkE V.tys [] [(8, [0, 1, 5], [])] [(6, 8)] [] []
noncomputable abbrev laws_eqIntS.kt (x0 : List Int) (x1 : List Int) : V.Kt Bool := V.ktOf laws_eqIntS.E laws_eqIntS.con Try.f80 ((x0, x1) : List Int × List Int)
noncomputable abbrev laws_eqIntS.s8 (x0 : List Int) (x1 : List Int) (v8_2 : Int) : V.St := ⟨[(0, .v false [.val (.sl (.cons (.int .i64) .nil) x0)]), (1, .v false [.val (.sl (.cons (.int .i64) .nil) x1)]), (5, .v false [.val (.int .i64 v8_2)])], []⟩
theorem laws_eqIntS.r8 (x0 : List Int) (x1 : List Int) (R : V.St → Option Bool) (v8_2 : Int) : V.loopF laws_eqIntS.E Try.f80.ntmps [1, 1, 0, 1, 0] [] (V.codeOf Try.f80) (laws_eqIntS.kt x0 x1) R (laws_eqIntS.s8 x0 x1 v8_2) = laws_eqIntS.g8 x0 x1 (fun v8_2 => R (laws_eqIntS.s8 x0 x1 v8_2)) v8_2 := by kernel_rfl
theorem laws_eqIntS.e8 (x0 : List Int) (x1 : List Int) : ∀ (n : Nat) (v8_2 : Int), V.loopN (V.loopF laws_eqIntS.E Try.f80.ntmps [1, 1, 0, 1, 0] [] (V.codeOf Try.f80) (laws_eqIntS.kt x0 x1)) n (laws_eqIntS.s8 x0 x1 v8_2) = laws_eqIntS.l8 x0 x1 n v8_2 := by
  intro n
  induction n with
  | zero => intros; rfl
  | succ n ih =>
    intro v8_2
    show V.loopF laws_eqIntS.E Try.f80.ntmps [1, 1, 0, 1, 0] [] (V.codeOf Try.f80) (laws_eqIntS.kt x0 x1) (V.loopN (V.loopF laws_eqIntS.E Try.f80.ntmps [1, 1, 0, 1, 0] [] (V.codeOf Try.f80) (laws_eqIntS.kt x0 x1)) n) (laws_eqIntS.s8 x0 x1 v8_2) = _
    rw [laws_eqIntS.r8]
    simp only [ih]
    rfl
theorem laws_eqIntS.v (x0 : List Int) (x1 : List Int) : V.evBody laws_eqIntS.E laws_eqIntS.con Try.f80 ((x0, x1) : List Int × List Int) = laws_eqIntS.b x0 x1 (fun v8_2 => V.loopN (V.loopF laws_eqIntS.E Try.f80.ntmps [1, 1, 0, 1, 0] [] (V.codeOf Try.f80) (laws_eqIntS.kt x0 x1)) V.KK (laws_eqIntS.s8 x0 x1 v8_2)) := by kernel_rfl
theorem laws_eqIntS.eq (x0 : List Int) (x1 : List Int) : V.evBody laws_eqIntS.E laws_eqIntS.con Try.f80 ((x0, x1) : List Int × List Int) = laws_eqIntS x0 x1 := by
  rw [laws_eqIntS.v]
  simp only [laws_eqIntS.e8]
  rfl
theorem laws_eqIntS.ok : V.Valid Try.prog 80 laws_eqIntS.con :=
  V.body_ok (V.env_ok V.mixed V.tysOk V.tab_nil) Try.func80 (by kernel_rfl) (by kernel_rfl) (by kernel_rfl) (fun x y h => (show V.evBody laws_eqIntS.E laws_eqIntS.con Try.f80 x = _ from laws_eqIntS.eq x.1 x.2).trans h)
noncomputable abbrev laws_eqKeys.con : V.Con := ⟨(.cons (.sl (.cons (.int .i64) .nil)) (.cons (.int .i64) (.cons (.sl (.cons (.int .i64) .nil)) (.cons (.int .i64) .nil)))), (.cons .bool .nil), fun (x : List Int × Int × List Int × Int) => laws_eqKeys (x.1, x.2.1) x.2.2, [], [(true, 2), (true, 2)], [(false, 1)], [false], []⟩
noncomputable abbrev laws_eqKeys.E : V.Env := V.mkE V.tys [(80, laws_eqIntS.con)] [] [] [] []
noncomputable abbrev laws_eqKeys.kt (x0 : TKeys) (x1 : TKeys) : V.Kt Bool := V.ktOf laws_eqKeys.E laws_eqKeys.con Try.f22 ((x0.1, x0.2, x1.1, x1.2) : List Int × Int × List Int × Int)
theorem laws_eqKeys.eq (x0 : TKeys) (x1 : TKeys) : V.evBody laws_eqKeys.E laws_eqKeys.con Try.f22 ((x0.1, x0.2, x1.1, x1.2) : List Int × Int × List Int × Int) = laws_eqKeys x0 x1 := by kernel_rfl
theorem laws_eqKeys.ok : V.Valid Try.prog 22 laws_eqKeys.con :=
  V.body_ok (V.env_ok V.mixed V.tysOk (V.tab_cons laws_eqIntS.ok V.tab_nil)) Try.func22 (by kernel_rfl) (by kernel_rfl) (by kernel_rfl) (fun x y h => (show V.evBody laws_eqKeys.E laws_eqKeys.con Try.f22 x = _ from laws_eqKeys.eq (x.1, x.2.1) x.2.2).trans h)
noncomputable abbrev laws_eqHead.con : V.Con := ⟨V.A4, (.cons .bool .nil), fun (x : V.D4) => laws_eqHead (V.p4_0 x) (V.p4_1 x), [], [(true, 16), (true, 16)], [(false, 1)], [false], []⟩
noncomputable abbrev laws_eqHead.E : V.Env := V.mkE V.tys [(22, laws_eqKeys.con)] [] [] [] []
noncomputable abbrev laws_eqHead.kt (x0 : THead) (x1 : THead) : V.Kt Bool := V.ktOf laws_eqHead.E laws_eqHead.con Try.f21 (V.fl4 x0 x1)
theorem laws_eqHead.eq (x0 : THead) (x1 : THead) : V.evBody laws_eqHead.E laws_eqHead.con Try.f21 (V.fl4 x0 x1) = laws_eqHead x0 x1 := by kernel_rfl
theorem laws_eqHead.ok : V.Valid Try.prog 21 laws_eqHead.con :=
  V.body_ok (V.env_ok V.mixed V.tysOk (V.tab_cons laws_eqKeys.ok V.tab_nil)) Try.func21 (by kernel_rfl) (by kernel_rfl) (by kernel_rfl) (fun x y h => (show V.evBody laws_eqHead.E laws_eqHead.con Try.f21 x = _ from laws_eqHead.eq (V.p4_0 x) (V.p4_1 x)).trans h)
noncomputable abbrev laws_eqSig.con : V.Con := ⟨(.cons (.int .i64) (.cons (.int .i64) (.cons (.int .i64) (.cons (.int .i64) .nil)))), (.cons .bool .nil), fun (x : Int × Int × Int × Int) => laws_eqSig (x.1, x.2.1) x.2.2, [], [(true, 2), (true, 2)], [(false, 1)], [false], []⟩
noncomputable abbrev laws_eqSig.E : V.Env := V.mkE V.tys [] [] [] [] []
noncomputable abbrev laws_eqSig.kt (x0 : TSig) (x1 : TSig) : V.Kt Bool := V.ktOf laws_eqSig.E laws_eqSig.con Try.f191 ((x0.1, x0.2, x1.1, x1.2) : Int × Int × Int × Int)
theorem laws_eqSig.eq (x0 : TSig) (x1 : TSig) : V.evBody laws_eqSig.E laws_eqSig.con Try.f191 ((x0.1, x0.2, x1.1, x1.2) : Int × Int × Int × Int) = laws_eqSig x0 x1 := by kernel_rfl
theorem laws_eqSig.ok : V.Valid Try.prog 191 laws_eqSig.con :=
  V.body_ok (V.env_ok V.mixed V.tysOk V.tab_nil) Try.func191 (by kernel_rfl) (by kernel_rfl) (by kernel_rfl) (fun x y h => (show V.evBody laws_eqSig.E laws_eqSig.con Try.f191 x = _ from laws_eqSig.eq (x.1, x.2.1) x.2.2).trans h)
noncomputable abbrev laws_eqSigS.con : V.Con := ⟨(.cons (.sl (.cons (.int .i64) (.cons (.int .i64) .nil))) (.cons (.sl (.cons (.int .i64) (.cons (.int .i64) .nil))) .nil)), (.cons .bool .nil), fun (x : List TSig × List TSig) => laws_eqSigS x.1 x.2, [], [(false, 1), (false, 1)], [(false, 1)], [false], []⟩
noncomputable abbrev laws_eqSigS.E : V.Env := V.mkE V.tys [(191, laws_eqSig.con)] [(8, [0, 1, 5], [])] [(6, 8)] [] []
noncomputable abbrev laws_eqSigS.kt (x0 : List TSig) (x1 : List TSig) : V.Kt Bool := V.ktOf laws_eqSigS.E laws_eqSigS.con Try.f162 ((x0, x1) : List TSig × List TSig)
noncomputable abbrev laws_eqSigS.s8 (x0 : List TSig) (x1 : List TSig) (v8_2 : Int) : V.St := ⟨[(0, .v false [.val (.sl (.cons (.int .i64) (.cons (.int .i64) .nil)) x0)]), (1, .v false [.val (.sl (.cons (.int .i64) (.cons (.int .i64) .nil)) x1)]), (5, .v false [.val (.int .i64 v8_2)])], []⟩
theorem laws_eqSigS.r8 (x0 : List TSig) (x1 : List TSig) (R : V.St → Option Bool) (v8_2 : Int) : V.loopF laws_eqSigS.E Try.f162.ntmps [1, 1, 0, 1, 0] [] (V.codeOf Try.f162) (laws_eqSigS.kt x0 x1) R (laws_eqSigS.s8 x0 x1 v8_2) = laws_eqSigS.g8 x0 x1 (fun v8_2 => R (laws_eqSigS.s8 x0 x1 v8_2)) v8_2 := by kernel_rfl
theorem laws_eqSigS.e8 (x0 : List TSig) (x1 : List TSig) : ∀ (n : Nat) (v8_2 : Int), V.loopN (V.loopF laws_eqSigS.E Try.f162.ntmps [1, 1, 0, 1, 0] [] (V.codeOf Try.f162) (laws_eqSigS.kt x0 x1)) n (laws_eqSigS.s8 x0 x1 v8_2) = laws_eqSigS.l8 x0 x1 n v8_2 := by
  intro n
  induction n with
  | zero => intros; rfl
  | succ n ih =>
    intro v8_2
    show V.loopF laws_eqSigS.E Try.f162.ntmps [1, 1, 0, 1, 0] [] (V.codeOf Try.f162) (laws_eqSigS.kt x0 x1) (V.loopN (V.loopF laws_eqSigS.E Try.f162.ntmps [1, 1, 0, 1, 0] [] (V.codeOf Try.f162) (laws_eqSigS.kt x0 x1)) n) (laws_eqSigS.s8 x0 x1 v8_2) = _
    rw [laws_eqSigS.r8]
    simp only [ih]
    rfl
theorem laws_eqSigS.v (x0 : List TSig) (x1 : List TSig) : V.evBody laws_eqSigS.E laws_eqSigS.con Try.f162 ((x0, x1) : List TSig × List TSig) = laws_eqSigS.b x0 x1 (fun v8_2 => V.loopN (V.loopF laws_eqSigS.E Try.f162.ntmps [1, 1, 0, 1, 0] [] (V.codeOf Try.f162) (laws_eqSigS.kt x0 x1)) V.KK (laws_eqSigS.s8 x0 x1 v8_2)) := by kernel_rfl
theorem laws_eqSigS.eq (x0 : List TSig) (x1 : List TSig) : V.evBody laws_eqSigS.E laws_eqSigS.con Try.f162 ((x0, x1) : List TSig × List TSig) = laws_eqSigS x0 x1 := by
  rw [laws_eqSigS.v]
  simp only [laws_eqSigS.e8]
  rfl
theorem laws_eqSigS.ok : V.Valid Try.prog 162 laws_eqSigS.con :=
  V.body_ok (V.env_ok V.mixed V.tysOk (V.tab_cons laws_eqSig.ok V.tab_nil)) Try.func162 (by kernel_rfl) (by kernel_rfl) (by kernel_rfl) (fun x y h => (show V.evBody laws_eqSigS.E laws_eqSigS.con Try.f162 x = _ from laws_eqSigS.eq x.1 x.2).trans h)
noncomputable abbrev laws_eqSigned.con : V.Con := ⟨V.A5, (.cons .bool .nil), fun (x : V.D5) => laws_eqSigned (V.p5_0 x) (V.p5_1 x), [], [(true, 17), (true, 17)], [(false, 1)], [false], []⟩
noncomputable abbrev laws_eqSigned.E : V.Env := V.mkE V.tys [(21, laws_eqHead.con), (162, laws_eqSigS.con)] [] [] [] []
noncomputable abbrev laws_eqSigned.kt (x0 : TSigned) (x1 : TSigned) : V.Kt Bool := V.ktOf laws_eqSigned.E laws_eqSigned.con Try.f123 (V.fl5 x0 x1)
theorem laws_eqSigned.eq (x0 : TSigned) (x1 : TSigned) : V.evBody laws_eqSigned.E laws_eqSigned.con Try.f123 (V.fl5 x0 x1) = laws_eqSigned x0 x1 := by kernel_rfl
theorem laws_eqSigned.ok : V.Valid Try.prog 123 laws_eqSigned.con :=
  V.body_ok (V.env_ok V.mixed V.tysOk (V.tab_cons laws_eqHead.ok (V.tab_cons laws_eqSigS.ok V.tab_nil))) Try.func123 (by kernel_rfl) (by kernel_rfl) (by kernel_rfl) (fun x y h => (show V.evBody laws_eqSigned.E laws_eqSigned.con Try.f123 x = _ from laws_eqSigned.eq (V.p5_0 x) (V.p5_1 x)).trans h)
noncomputable abbrev laws_eqSignedS.con : V.Con := ⟨(.cons (.sl V.eSigned) (.cons (.sl V.eSigned) .nil)), (.cons .bool .nil), fun (x : List TSigned × List TSigned) => laws_eqSignedS x.1 x.2, [], [(false, 1), (false, 1)], [(false, 1)], [false], []⟩
noncomputable abbrev laws_eqSignedS.E : V.Env := V.mkE V.tys [(123, laws_eqSigned.con)] [(8, [0, 1, 5], [])] [(6, 8)] [] []
noncomputable abbrev laws_eqSignedS.kt (x0 : List TSigned) (x1 : List TSigned) : V.Kt Bool := V.ktOf laws_eqSignedS.E laws_eqSignedS.con Try.f49 ((x0, x1) : List TSigned × List TSigned)
noncomputable abbrev laws_eqSignedS.s8 (x0 : List TSigned) (x1 : List TSigned) (v8_2 : Int) : V.St := ⟨[(0, .v false [.val (.sl V.eSigned x0)]), (1, .v false [.val (.sl V.eSigned x1)]), (5, .v false [.val (.int .i64 v8_2)])], []⟩
theorem laws_eqSignedS.r8 (x0 : List TSigned) (x1 : List TSigned) (R : V.St → Option Bool) (v8_2 : Int) : V.loopF laws_eqSignedS.E Try.f49.ntmps [1, 1, 0, 1, 0] [] (V.codeOf Try.f49) (laws_eqSignedS.kt x0 x1) R (laws_eqSignedS.s8 x0 x1 v8_2) = laws_eqSignedS.g8 x0 x1 (fun v8_2 => R (laws_eqSignedS.s8 x0 x1 v8_2)) v8_2 := by kernel_rfl
theorem laws_eqSignedS.e8 (x0 : List TSigned) (x1 : List TSigned) : ∀ (n : Nat) (v8_2 : Int), V.loopN (V.loopF laws_eqSignedS.E Try.f49.ntmps [1, 1, 0, 1, 0] [] (V.codeOf Try.f49) (laws_eqSignedS.kt x0 x1)) n (laws_eqSignedS.s8 x0 x1 v8_2) = laws_eqSignedS.l8 x0 x1 n v8_2 := by
  intro n
  induction n with
  | zero => intros; rfl
  | succ n ih =>
    intro v8_2
    show V.loopF laws_eqSignedS.E Try.f49.ntmps [1, 1, 0, 1, 0] [] (V.codeOf Try.f49) (laws_eqSignedS.kt x0 x1) (V.loopN (V.loopF laws_eqSignedS.E Try.f49.ntmps [1, 1, 0, 1, 0] [] (V.codeOf Try.f49) (laws_eqSignedS.kt x0 x1)) n) (laws_eqSignedS.s8 x0 x1 v8_2) = _
    rw [laws_eqSignedS.r8]
    simp only [ih]
    rfl
theorem laws_eqSignedS.v (x0 : List TSigned) (x1 : List TSigned) : V.evBody laws_eqSignedS.E laws_eqSignedS.con Try.f49 ((x0, x1) : List TSigned × List TSigned) = laws_eqSignedS.b x0 x1 (fun v8_2 => V.loopN (V.loopF laws_eqSignedS.E Try.f49.ntmps [1, 1, 0, 1, 0] [] (V.codeOf Try.f49) (laws_eqSignedS.kt x0 x1)) V.KK (laws_eqSignedS.s8 x0 x1 v8_2)) := by kernel_rfl
theorem laws_eqSignedS.eq (x0 : List TSigned) (x1 : List TSigned) : V.evBody laws_eqSignedS.E laws_eqSignedS.con Try.f49 ((x0, x1) : List TSigned × List TSigned) = laws_eqSignedS x0 x1 := by
  rw [laws_eqSignedS.v]
  simp only [laws_eqSignedS.e8]
  rfl
theorem laws_eqSignedS.ok : V.Valid Try.prog 49 laws_eqSignedS.con :=
  V.body_ok (V.env_ok V.mixed V.tysOk (V.tab_cons laws_eqSigned.ok V.tab_nil)) Try.func49 (by kernel_rfl) (by kernel_rfl) (by kernel_rfl) (fun x y h => (show V.evBody laws_eqSignedS.E laws_eqSignedS.con Try.f49 x = _ from laws_eqSignedS.eq x.1 x.2).trans h)
noncomputable abbrev laws_eqStringS.con : V.Con := ⟨(.cons (.sl (.cons .str .nil)) (.cons (.sl (.cons .str .nil)) .nil)), (.cons .bool .nil), fun (x : List ByteArray × List ByteArray) => laws_eqStringS x.1 x.2, [], [(false, 1), (false, 1)], [(false, 1)], [false], []⟩
noncomputable abbrev laws_eqStringS.E : V.Env := V.mkE V.tys [] [(8, [0, 1, 5], [])] [(6, 8)] [] []
noncomputable abbrev laws_eqStringS.kt (x0 : List ByteArray) (x1 : List ByteArray) : V.Kt Bool := V.ktOf laws_eqStringS.E laws_eqStringS.con Try.f138 ((x0, x1) : List ByteArray × List ByteArray)
noncomputable abbrev laws_eqStringS.s8 (x0 : List ByteArray) (x1 : List ByteArray) (v8_2 : Int) : V.St := ⟨[(0, .v false [.val (.sl (.cons .str .nil) x0)]), (1, .v false [.val (.sl (.cons .str .nil) x1)]), (5, .v false [.val (.int .i64 v8_2)])], []⟩
theorem laws_eqStringS.r8 (x0 : List ByteArray) (x1 : List ByteArray) (R : V.St → Option Bool) (v8_2 : Int) : V.loopF laws_eqStringS.E Try.f138.ntmps [1, 1, 0, 1, 0] [] (V.codeOf Try.f138) (laws_eqStringS.kt x0 x1) R (laws_eqStringS.s8 x0 x1 v8_2) = laws_eqStringS.g8 x0 x1 (fun v8_2 => R (laws_eqStringS.s8 x0 x1 v8_2)) v8_2 := by kernel_rfl
theorem laws_eqStringS.e8 (x0 : List ByteArray) (x1 : List ByteArray) : ∀ (n : Nat) (v8_2 : Int), V.loopN (V.loopF laws_eqStringS.E Try.f138.ntmps [1, 1, 0, 1, 0] [] (V.codeOf Try.f138) (laws_eqStringS.kt x0 x1)) n (laws_eqStringS.s8 x0 x1 v8_2) = laws_eqStringS.l8 x0 x1 n v8_2 := by
  intro n
  induction n with
  | zero => intros; rfl
  | succ n ih =>
    intro v8_2
    show V.loopF laws_eqStringS.E Try.f138.ntmps [1, 1, 0, 1, 0] [] (V.codeOf Try.f138) (laws_eqStringS.kt x0 x1) (V.loopN (V.loopF laws_eqStringS.E Try.f138.ntmps [1, 1, 0, 1, 0] [] (V.codeOf Try.f138) (laws_eqStringS.kt x0 x1)) n) (laws_eqStringS.s8 x0 x1 v8_2) = _
    rw [laws_eqStringS.r8]
    simp only [ih]
    rfl
theorem laws_eqStringS.v (x0 : List ByteArray) (x1 : List ByteArray) : V.evBody laws_eqStringS.E laws_eqStringS.con Try.f138 ((x0, x1) : List ByteArray × List ByteArray) = laws_eqStringS.b x0 x1 (fun v8_2 => V.loopN (V.loopF laws_eqStringS.E Try.f138.ntmps [1, 1, 0, 1, 0] [] (V.codeOf Try.f138) (laws_eqStringS.kt x0 x1)) V.KK (laws_eqStringS.s8 x0 x1 v8_2)) := by kernel_rfl
theorem laws_eqStringS.eq (x0 : List ByteArray) (x1 : List ByteArray) : V.evBody laws_eqStringS.E laws_eqStringS.con Try.f138 ((x0, x1) : List ByteArray × List ByteArray) = laws_eqStringS x0 x1 := by
  rw [laws_eqStringS.v]
  simp only [laws_eqStringS.e8]
  rfl
theorem laws_eqStringS.ok : V.Valid Try.prog 138 laws_eqStringS.con :=
  V.body_ok (V.env_ok V.mixed V.tysOk V.tab_nil) Try.func138 (by kernel_rfl) (by kernel_rfl) (by kernel_rfl) (fun x y h => (show V.evBody laws_eqStringS.E laws_eqStringS.con Try.f138 x = _ from laws_eqStringS.eq x.1 x.2).trans h)
noncomputable abbrev laws_eqEntry.con : V.Con := ⟨(.cons .str (.cons (.int .i64) (.cons (.int .i64) (.cons (.sl (.cons .str .nil)) (.cons .str (.cons (.int .i64) (.cons (.int .i64) (.cons (.sl (.cons .str .nil)) .nil)))))))), (.cons .bool .nil), fun (x : ByteArray × Int × Int × List ByteArray × ByteArray × Int × Int × List ByteArray) => laws_eqEntry (x.1, x.2.1, x.2.2.1, x.2.2.2.1) x.2.2.2.2, [], [(true, 4), (true, 4)], [(false, 1)], [false], []⟩
noncomputable abbrev laws_eqEntry.E : V.Env := V.mkE V.tys [(138, laws_eqStringS.con)] [] [] [] []
noncomputable abbrev laws_eqEntry.kt (x0 : TEntry) (x1 : TEntry) : V.Kt Bool := V.ktOf laws_eqEntry.E laws_eqEntry.con Try.f68 ((x0.1, x0.2.1, x0.2.2.1, x0.2.2.2, x1.1, x1.2.1, x1.2.2.1, x1.2.2.2) : ByteArray × Int × Int × List ByteArray × ByteArray × Int × Int × List ByteArray)
theorem laws_eqEntry.eq (x0 : TEntry) (x1 : TEntry) : V.evBody laws_eqEntry.E laws_eqEntry.con Try.f68 ((x0.1, x0.2.1, x0.2.2.1, x0.2.2.2, x1.1, x1.2.1, x1.2.2.1, x1.2.2.2) : ByteArray × Int × Int × List ByteArray × ByteArray × Int × Int × List ByteArray) = laws_eqEntry x0 x1 := by kernel_rfl
theorem laws_eqEntry.ok : V.Valid Try.prog 68 laws_eqEntry.con :=
  V.body_ok (V.env_ok V.mixed V.tysOk (V.tab_cons laws_eqStringS.ok V.tab_nil)) Try.func68 (by kernel_rfl) (by kernel_rfl) (by kernel_rfl) (fun x y h => (show V.evBody laws_eqEntry.E laws_eqEntry.con Try.f68 x = _ from laws_eqEntry.eq (x.1, x.2.1, x.2.2.1, x.2.2.2.1) x.2.2.2.2).trans h)
noncomputable abbrev laws_eqEntryS.con : V.Con := ⟨(.cons (.sl V.eEntry) (.cons (.sl V.eEntry) .nil)), (.cons .bool .nil), fun (x : List TEntry × List TEntry) => laws_eqEntryS x.1 x.2, [], [(false, 1), (false, 1)], [(false, 1)], [false], []⟩
noncomputable abbrev laws_eqEntryS.E : V.Env := V.mkE V.tys [(68, laws_eqEntry.con)] [(8, [0, 1, 5], [])] [(6, 8)] [] []
noncomputable abbrev laws_eqEntryS.kt (x0 : List TEntry) (x1 : List TEntry) : V.Kt Bool := V.ktOf laws_eqEntryS.E laws_eqEntryS.con Try.f189 ((x0, x1) : List TEntry × List TEntry)
noncomputable abbrev laws_eqEntryS.s8 (x0 : List TEntry) (x1 : List TEntry) (v8_2 : Int) : V.St := ⟨[(0, .v false [.val (.sl V.eEntry x0)]), (1, .v false [.val (.sl V.eEntry x1)]), (5, .v false [.val (.int .i64 v8_2)])], []⟩
theorem laws_eqEntryS.r8 (x0 : List TEntry) (x1 : List TEntry) (R : V.St → Option Bool) (v8_2 : Int) : V.loopF laws_eqEntryS.E Try.f189.ntmps [1, 1, 0, 1, 0] [] (V.codeOf Try.f189) (laws_eqEntryS.kt x0 x1) R (laws_eqEntryS.s8 x0 x1 v8_2) = laws_eqEntryS.g8 x0 x1 (fun v8_2 => R (laws_eqEntryS.s8 x0 x1 v8_2)) v8_2 := by kernel_rfl
theorem laws_eqEntryS.e8 (x0 : List TEntry) (x1 : List TEntry) : ∀ (n : Nat) (v8_2 : Int), V.loopN (V.loopF laws_eqEntryS.E Try.f189.ntmps [1, 1, 0, 1, 0] [] (V.codeOf Try.f189) (laws_eqEntryS.kt x0 x1)) n (laws_eqEntryS.s8 x0 x1 v8_2) = laws_eqEntryS.l8 x0 x1 n v8_2 := by
  intro n
  induction n with
  | zero => intros; rfl
  | succ n ih =>
    intro v8_2
    show V.loopF laws_eqEntryS.E Try.f189.ntmps [1, 1, 0, 1, 0] [] (V.codeOf Try.f189) (laws_eqEntryS.kt x0 x1) (V.loopN (V.loopF laws_eqEntryS.E Try.f189.ntmps [1, 1, 0, 1, 0] [] (V.codeOf Try.f189) (laws_eqEntryS.kt x0 x1)) n) (laws_eqEntryS.s8 x0 x1 v8_2) = _
    rw [laws_eqEntryS.r8]
    simp only [ih]
    rfl
theorem laws_eqEntryS.v (x0 : List TEntry) (x1 : List TEntry) : V.evBody laws_eqEntryS.E laws_eqEntryS.con Try.f189 ((x0, x1) : List TEntry × List TEntry) = laws_eqEntryS.b x0 x1 (fun v8_2 => V.loopN (V.loopF laws_eqEntryS.E Try.f189.ntmps [1, 1, 0, 1, 0] [] (V.codeOf Try.f189) (laws_eqEntryS.kt x0 x1)) V.KK (laws_eqEntryS.s8 x0 x1 v8_2)) := by kernel_rfl
theorem laws_eqEntryS.eq (x0 : List TEntry) (x1 : List TEntry) : V.evBody laws_eqEntryS.E laws_eqEntryS.con Try.f189 ((x0, x1) : List TEntry × List TEntry) = laws_eqEntryS x0 x1 := by
  rw [laws_eqEntryS.v]
  simp only [laws_eqEntryS.e8]
  rfl
theorem laws_eqEntryS.ok : V.Valid Try.prog 189 laws_eqEntryS.con :=
  V.body_ok (V.env_ok V.mixed V.tysOk (V.tab_cons laws_eqEntry.ok V.tab_nil)) Try.func189 (by kernel_rfl) (by kernel_rfl) (by kernel_rfl) (fun x y h => (show V.evBody laws_eqEntryS.E laws_eqEntryS.con Try.f189 x = _ from laws_eqEntryS.eq x.1 x.2).trans h)
noncomputable abbrev laws_eqZone.con : V.Con := ⟨(.cons (.sl V.eSigned) (.cons (.sl V.eEntry) (.cons (.sl V.eSigned) (.cons (.sl V.eEntry) .nil)))), (.cons .bool .nil), fun (x : List TSigned × List TEntry × List TSigned × List TEntry) => laws_eqZone (x.1, x.2.1) x.2.2, [], [(true, 2), (true, 2)], [(false, 1)], [false], []⟩
noncomputable abbrev laws_eqZone.E : V.Env := V.mkE V.tys [(49, laws_eqSignedS.con), (189, laws_eqEntryS.con)] [] [] [] []
noncomputable abbrev laws_eqZone.kt (x0 : TZone) (x1 : TZone) : V.Kt Bool := V.ktOf laws_eqZone.E laws_eqZone.con Try.f155 ((x0.1, x0.2, x1.1, x1.2) : List TSigned × List TEntry × List TSigned × List TEntry)
theorem laws_eqZone.eq (x0 : TZone) (x1 : TZone) : V.evBody laws_eqZone.E laws_eqZone.con Try.f155 ((x0.1, x0.2, x1.1, x1.2) : List TSigned × List TEntry × List TSigned × List TEntry) = laws_eqZone x0 x1 := by kernel_rfl
theorem laws_eqZone.ok : V.Valid Try.prog 155 laws_eqZone.con :=
  V.body_ok (V.env_ok V.mixed V.tysOk (V.tab_cons laws_eqSignedS.ok (V.tab_cons laws_eqEntryS.ok V.tab_nil))) Try.func155 (by kernel_rfl) (by kernel_rfl) (by kernel_rfl) (fun x y h => (show V.evBody laws_eqZone.E laws_eqZone.con Try.f155 x = _ from laws_eqZone.eq (x.1, x.2.1) x.2.2).trans h)
noncomputable abbrev laws_eqZoneS.con : V.Con := ⟨(.cons (.sl (.cons (.sl V.eSigned) (.cons (.sl V.eEntry) .nil))) (.cons (.sl (.cons (.sl V.eSigned) (.cons (.sl V.eEntry) .nil))) .nil)), (.cons .bool .nil), fun (x : List TZone × List TZone) => laws_eqZoneS x.1 x.2, [], [(false, 1), (false, 1)], [(false, 1)], [false], []⟩
noncomputable abbrev laws_eqZoneS.E : V.Env := V.mkE V.tys [(155, laws_eqZone.con)] [(8, [0, 1, 5], [])] [(6, 8)] [] []
noncomputable abbrev laws_eqZoneS.kt (x0 : List TZone) (x1 : List TZone) : V.Kt Bool := V.ktOf laws_eqZoneS.E laws_eqZoneS.con Try.f102 ((x0, x1) : List TZone × List TZone)
noncomputable abbrev laws_eqZoneS.s8 (x0 : List TZone) (x1 : List TZone) (v8_2 : Int) : V.St := ⟨[(0, .v false [.val (.sl (.cons (.sl V.eSigned) (.cons (.sl V.eEntry) .nil)) x0)]), (1, .v false [.val (.sl (.cons (.sl V.eSigned) (.cons (.sl V.eEntry) .nil)) x1)]), (5, .v false [.val (.int .i64 v8_2)])], []⟩
theorem laws_eqZoneS.r8 (x0 : List TZone) (x1 : List TZone) (R : V.St → Option Bool) (v8_2 : Int) : V.loopF laws_eqZoneS.E Try.f102.ntmps [1, 1, 0, 1, 0] [] (V.codeOf Try.f102) (laws_eqZoneS.kt x0 x1) R (laws_eqZoneS.s8 x0 x1 v8_2) = laws_eqZoneS.g8 x0 x1 (fun v8_2 => R (laws_eqZoneS.s8 x0 x1 v8_2)) v8_2 := by kernel_rfl
theorem laws_eqZoneS.e8 (x0 : List TZone) (x1 : List TZone) : ∀ (n : Nat) (v8_2 : Int), V.loopN (V.loopF laws_eqZoneS.E Try.f102.ntmps [1, 1, 0, 1, 0] [] (V.codeOf Try.f102) (laws_eqZoneS.kt x0 x1)) n (laws_eqZoneS.s8 x0 x1 v8_2) = laws_eqZoneS.l8 x0 x1 n v8_2 := by
  intro n
  induction n with
  | zero => intros; rfl
  | succ n ih =>
    intro v8_2
    show V.loopF laws_eqZoneS.E Try.f102.ntmps [1, 1, 0, 1, 0] [] (V.codeOf Try.f102) (laws_eqZoneS.kt x0 x1) (V.loopN (V.loopF laws_eqZoneS.E Try.f102.ntmps [1, 1, 0, 1, 0] [] (V.codeOf Try.f102) (laws_eqZoneS.kt x0 x1)) n) (laws_eqZoneS.s8 x0 x1 v8_2) = _
    rw [laws_eqZoneS.r8]
    simp only [ih]
    rfl
theorem laws_eqZoneS.v (x0 : List TZone) (x1 : List TZone) : V.evBody laws_eqZoneS.E laws_eqZoneS.con Try.f102 ((x0, x1) : List TZone × List TZone) = laws_eqZoneS.b x0 x1 (fun v8_2 => V.loopN (V.loopF laws_eqZoneS.E Try.f102.ntmps [1, 1, 0, 1, 0] [] (V.codeOf Try.f102) (laws_eqZoneS.kt x0 x1)) V.KK (laws_eqZoneS.s8 x0 x1 v8_2)) := by kernel_rfl
theorem laws_eqZoneS.eq (x0 : List TZone) (x1 : List TZone) : V.evBody laws_eqZoneS.E laws_eqZoneS.con Try.f102 ((x0, x1) : List TZone × List TZone) = laws_eqZoneS x0 x1 := by
  rw [laws_eqZoneS.v]
  simp only [laws_eqZoneS.e8]
  rfl
theorem laws_eqZoneS.ok : V.Valid Try.prog 102 laws_eqZoneS.con :=
  V.body_ok (V.env_ok V.mixed V.tysOk (V.tab_cons laws_eqZone.ok V.tab_nil)) Try.func102 (by kernel_rfl) (by kernel_rfl) (by kernel_rfl) (fun x y h => (show V.evBody laws_eqZoneS.E laws_eqZoneS.con Try.f102 x = _ from laws_eqZoneS.eq x.1 x.2).trans h)
noncomputable abbrev laws_eqServer.con : V.Con := ⟨(.cons (.sl (.cons (.sl V.eSigned) (.cons (.sl V.eEntry) .nil))) (.cons (.int .i64) (.cons (.sl (.cons (.sl V.eSigned) (.cons (.sl V.eEntry) .nil))) (.cons (.int .i64) .nil)))), (.cons .bool .nil), fun (x : List TZone × Int × List TZone × Int) => laws_eqServer (x.1, x.2.1) x.2.2, [], [(true, 2), (true, 2)], [(false, 1)], [false], []⟩
noncomputable abbrev laws_eqServer.E : V.Env := V.mkE V.tys [(102, laws_eqZoneS.con)] [] [] [] []
noncomputable abbrev laws_eqServer.kt (x0 : TServer) (x1 : TServer) : V.Kt Bool := V.ktOf laws_eqServer.E laws_eqServer.con Try.f39 ((x0.1, x0.2, x1.1, x1.2) : List TZone × Int × List TZone × Int)
theorem laws_eqServer.eq (x0 : TServer) (x1 : TServer) : V.evBody laws_eqServer.E laws_eqServer.con Try.f39 ((x0.1, x0.2, x1.1, x1.2) : List TZone × Int × List TZone × Int) = laws_eqServer x0 x1 := by kernel_rfl
theorem laws_eqServer.ok : V.Valid Try.prog 39 laws_eqServer.con :=
  V.body_ok (V.env_ok V.mixed V.tysOk (V.tab_cons laws_eqZoneS.ok V.tab_nil)) Try.func39 (by kernel_rfl) (by kernel_rfl) (by kernel_rfl) (fun x y h => (show V.evBody laws_eqServer.E laws_eqServer.con Try.f39 x = _ from laws_eqServer.eq (x.1, x.2.1) x.2.2).trans h)
noncomputable abbrev laws_FnExactEqualServers.con : V.Con := ⟨(.cons (.sl (.cons (.sl V.eSigned) (.cons (.sl V.eEntry) .nil))) (.cons (.int .i64) (.cons (.sl (.cons (.sl V.eSigned) (.cons (.sl V.eEntry) .nil))) (.cons (.int .i64) .nil)))), (.cons .bool .nil), fun (x : List TZone × Int × List TZone × Int) => laws_FnExactEqualServers (x.1, x.2.1) x.2.2, [], [(true, 2), (true, 2)], [(false, 1)], [false], []⟩
noncomputable abbrev laws_FnExactEqualServers.E : V.Env := V.mkE V.tys [(35, laws_szServer.con), (36, spec_EqualServers.con), (37, laws_toServer.con), (38, impl_EqualServers.con), (39, laws_eqServer.con)] [] [(8, 3), (14, 3), (16, 3)] [] []
noncomputable abbrev laws_FnExactEqualServers.kt (x0 : TServer) (x1 : TServer) : V.Kt Bool := V.ktOf laws_FnExactEqualServers.E laws_FnExactEqualServers.con Try.f7 ((x0.1, x0.2, x1.1, x1.2) : List TZone × Int × List TZone × Int)
theorem laws_FnExactEqualServers.eq (x0 : TServer) (x1 : TServer) : V.evBody laws_FnExactEqualServers.E laws_FnExactEqualServers.con Try.f7 ((x0.1, x0.2, x1.1, x1.2) : List TZone × Int × List TZone × Int) = laws_FnExactEqualServers x0 x1 := by kernel_rfl
theorem laws_FnExactEqualServers.ok : V.Valid Try.prog 7 laws_FnExactEqualServers.con :=
  V.body_ok (V.env_ok V.mixed V.tysOk (V.tab_cons laws_szServer.ok (V.tab_cons spec_EqualServers.ok (V.tab_cons laws_toServer.ok (V.tab_cons impl_EqualServers.ok (V.tab_cons laws_eqServer.ok V.tab_nil)))))) Try.func7 (by kernel_rfl) (by kernel_rfl) (by kernel_rfl) (fun x y h => (show V.evBody laws_FnExactEqualServers.E laws_FnExactEqualServers.con Try.f7 x = _ from laws_FnExactEqualServers.eq (x.1, x.2.1) x.2.2).trans h)
end Go.Proofs.Ytbdifkeoiodalaa
