/- That the functions compute it. -/
import Derived.Test.YtkadeffepgcceadGreatFnPublishedPure0
import Derived.Test.YtkadeffepgcceadGreatProg
namespace Go.Proofs.YtkadeffepgcceadGreat
set_option linter.unusedVariables false
set_option maxRecDepth 100000
namespace V
abbrev eEntry :ETy:=(.cons .str (V.ci (V.ci (.cons (.sl (.cons .str .nil)) .nil))))
abbrev eHead :ETy:=(V.ci (V.ci (V.ci (V.ci (V.ci (V.ci (V.ci (V.ci (.cons (.sl (V.ci .nil)) (V.ci (.cons (.sl (V.ci .nil)) (V.ci (V.ci (.cons (.sl (V.ci .nil)) (V.ci (.cons .bool .nil))))))))))))))))
abbrev eRHeadBool :ETy:=(V.ci (V.ci (V.ci (V.ci (V.ci (V.ci (V.ci (V.ci (.cons (.sl (V.ci .nil)) (V.ci (.cons (.sl (V.ci .nil)) (V.ci (V.ci (.cons (.sl (V.ci .nil)) (V.ci (.cons .bool (.cons .bool .nil)))))))))))))))))
abbrev eRKeysIntListIntInt :ETy:=(.cons (.sl (V.ci .nil)) (V.ci (V.ci (.cons (.sl eEntry) (V.ci (V.ci .nil))))))
abbrev eSigned :ETy:=(V.ci (V.ci (V.ci (V.ci (V.ci (V.ci (V.ci (V.ci (.cons (.sl (V.ci .nil)) (V.ci (.cons (.sl (V.ci .nil)) (V.ci (V.ci (.cons (.sl (V.ci .nil)) (V.ci (.cons .bool (.cons (.sl (V.ci (V.ci .nil))) .nil)))))))))))))))))
abbrev eRZoneListHeadList :ETy:=(.cons (.sl eSigned) (.cons (.sl eEntry) (.cons (.sl (V.ci .nil)) (V.ci (V.ci (V.ci (V.ci (V.ci (V.ci (V.ci (V.ci (.cons (.sl (V.ci .nil)) (V.ci (.cons (.sl (V.ci .nil)) (V.ci (V.ci (.cons (.sl (V.ci .nil)) (V.ci (.cons .bool (.cons (.sl eEntry) .nil))))))))))))))))))))
abbrev eRZoneListListIntInt :ETy:=(.cons (.sl eSigned) (.cons (.sl eEntry) (.cons (.sl (V.ci .nil)) (.cons (.sl eEntry) (V.ci (V.ci .nil))))))
abbrev D0 :Type:=Int×Int×Int×Int×Int×Int×Int×Int×List Int×Int×List Int×Int×Int×List Int×Int×Bool
abbrev A0 :ETy:=eHead
abbrev fl0 (x0:Z6):D0:=(x0.1,x0.2.1,x0.2.2.1,x0.2.2.2.1,x0.2.2.2.2.1,x0.2.2.2.2.2.1,x0.2.2.2.2.2.2.1,x0.2.2.2.2.2.2.2.1,x0.2.2.2.2.2.2.2.2.1,x0.2.2.2.2.2.2.2.2.2.1,x0.2.2.2.2.2.2.2.2.2.2.1,x0.2.2.2.2.2.2.2.2.2.2.2.1,x0.2.2.2.2.2.2.2.2.2.2.2.2.1,x0.2.2.2.2.2.2.2.2.2.2.2.2.2.1,x0.2.2.2.2.2.2.2.2.2.2.2.2.2.2.1,x0.2.2.2.2.2.2.2.2.2.2.2.2.2.2.2)
abbrev p0_0 (x:D0):Z6:=x
abbrev D1 :Type:=List Int×List Int×Int×Int×Int×Int×Int×Int×Int×Int×Int×List Int×Int×List Int×Int×Int×List Int×Int×Bool
abbrev A1 :ETy:=(.cons (.sl (V.ci .nil)) (.cons (.sl (V.ci .nil)) (V.ci (V.ci (V.ci (V.ci (V.ci (V.ci (V.ci (V.ci (V.ci (.cons (.sl (V.ci .nil)) (V.ci (.cons (.sl (V.ci .nil)) (V.ci (V.ci (.cons (.sl (V.ci .nil)) (V.ci (.cons .bool .nil)))))))))))))))))))
abbrev fl1 (x0:List Int)(x1:Zc)(x2:Z6):D1:=(x0,x1.1,x1.2,x2.1,x2.2.1,x2.2.2.1,x2.2.2.2.1,x2.2.2.2.2.1,x2.2.2.2.2.2.1,x2.2.2.2.2.2.2.1,x2.2.2.2.2.2.2.2.1,x2.2.2.2.2.2.2.2.2.1,x2.2.2.2.2.2.2.2.2.2.1,x2.2.2.2.2.2.2.2.2.2.2.1,x2.2.2.2.2.2.2.2.2.2.2.2.1,x2.2.2.2.2.2.2.2.2.2.2.2.2.1,x2.2.2.2.2.2.2.2.2.2.2.2.2.2.1,x2.2.2.2.2.2.2.2.2.2.2.2.2.2.2.1,x2.2.2.2.2.2.2.2.2.2.2.2.2.2.2.2)
abbrev p1_0 (x:D1):List Int:=x.1
abbrev p1_1 (x:D1):Zc:=(x.2.1,x.2.2.1)
abbrev p1_2 (x:D1):Z6:=x.2.2.2
abbrev D2 :Type:=Int×Int×Int×Int×Int×Int×Int×Int×List Int×Int×List Int×Int×Int×List Int×Int×Bool×List Zb
abbrev A2 :ETy:=eSigned
abbrev fl2 (x0:Z5):D2:=(x0.1,x0.2.1,x0.2.2.1,x0.2.2.2.1,x0.2.2.2.2.1,x0.2.2.2.2.2.1,x0.2.2.2.2.2.2.1,x0.2.2.2.2.2.2.2.1,x0.2.2.2.2.2.2.2.2.1,x0.2.2.2.2.2.2.2.2.2.1,x0.2.2.2.2.2.2.2.2.2.2.1,x0.2.2.2.2.2.2.2.2.2.2.2.1,x0.2.2.2.2.2.2.2.2.2.2.2.2.1,x0.2.2.2.2.2.2.2.2.2.2.2.2.2.1,x0.2.2.2.2.2.2.2.2.2.2.2.2.2.2.1,x0.2.2.2.2.2.2.2.2.2.2.2.2.2.2.2.1,x0.2.2.2.2.2.2.2.2.2.2.2.2.2.2.2.2)
abbrev p2_0 (x:D2):Z5:=x
abbrev D3 :Type:=Int×Int×Int×Int×Int×Int×Int×Int×List Int×Int×List Int×Int×Int×List Int×Int×Bool×Int×Int×Int×Int×Int×Int×Int×Int×List Int×Int×List Int×Int×Int×List Int×Int×Bool
abbrev A3 :ETy:=(V.ci (V.ci (V.ci (V.ci (V.ci (V.ci (V.ci (V.ci (.cons (.sl (V.ci .nil)) (V.ci (.cons (.sl (V.ci .nil)) (V.ci (V.ci (.cons (.sl (V.ci .nil)) (V.ci (.cons .bool (V.ci (V.ci (V.ci (V.ci (V.ci (V.ci (V.ci (V.ci (.cons (.sl (V.ci .nil)) (V.ci (.cons (.sl (V.ci .nil)) (V.ci (V.ci (.cons (.sl (V.ci .nil)) (V.ci (.cons .bool .nil))))))))))))))))))))))))))))))))
abbrev fl3 (x0:Z6)(x1:Z6):D3:=(x0.1,x0.2.1,x0.2.2.1,x0.2.2.2.1,x0.2.2.2.2.1,x0.2.2.2.2.2.1,x0.2.2.2.2.2.2.1,x0.2.2.2.2.2.2.2.1,x0.2.2.2.2.2.2.2.2.1,x0.2.2.2.2.2.2.2.2.2.1,x0.2.2.2.2.2.2.2.2.2.2.1,x0.2.2.2.2.2.2.2.2.2.2.2.1,x0.2.2.2.2.2.2.2.2.2.2.2.2.1,x0.2.2.2.2.2.2.2.2.2.2.2.2.2.1,x0.2.2.2.2.2.2.2.2.2.2.2.2.2.2.1,x0.2.2.2.2.2.2.2.2.2.2.2.2.2.2.2,x1.1,x1.2.1,x1.2.2.1,x1.2.2.2.1,x1.2.2.2.2.1,x1.2.2.2.2.2.1,x1.2.2.2.2.2.2.1,x1.2.2.2.2.2.2.2.1,x1.2.2.2.2.2.2.2.2.1,x1.2.2.2.2.2.2.2.2.2.1,x1.2.2.2.2.2.2.2.2.2.2.1,x1.2.2.2.2.2.2.2.2.2.2.2.1,x1.2.2.2.2.2.2.2.2.2.2.2.2.1,x1.2.2.2.2.2.2.2.2.2.2.2.2.2.1,x1.2.2.2.2.2.2.2.2.2.2.2.2.2.2.1,x1.2.2.2.2.2.2.2.2.2.2.2.2.2.2.2)
abbrev p3_0 (x:D3):Z6:=(x.1,x.2.1,x.2.2.1,x.2.2.2.1,x.2.2.2.2.1,x.2.2.2.2.2.1,x.2.2.2.2.2.2.1,x.2.2.2.2.2.2.2.1,x.2.2.2.2.2.2.2.2.1,x.2.2.2.2.2.2.2.2.2.1,x.2.2.2.2.2.2.2.2.2.2.1,x.2.2.2.2.2.2.2.2.2.2.2.1,x.2.2.2.2.2.2.2.2.2.2.2.2.1,x.2.2.2.2.2.2.2.2.2.2.2.2.2.1,x.2.2.2.2.2.2.2.2.2.2.2.2.2.2.1,x.2.2.2.2.2.2.2.2.2.2.2.2.2.2.2.1)
abbrev p3_1 (x:D3):Z6:=x.2.2.2.2.2.2.2.2.2.2.2.2.2.2.2.2
abbrev D4 :Type:=Int×Int×Int×Int×Int×Int×Int×Int×List Int×Int×List Int×Int×Int×List Int×Int×Bool×Int×Int×Int×Int×Int×Int×Int×Int×List Int×Int×List Int×Int×Int×List Int×Int×Bool×List Zb
abbrev A4 :ETy:=(V.ci (V.ci (V.ci (V.ci (V.ci (V.ci (V.ci (V.ci (.cons (.sl (V.ci .nil)) (V.ci (.cons (.sl (V.ci .nil)) (V.ci (V.ci (.cons (.sl (V.ci .nil)) (V.ci (.cons .bool (V.ci (V.ci (V.ci (V.ci (V.ci (V.ci (V.ci (V.ci (.cons (.sl (V.ci .nil)) (V.ci (.cons (.sl (V.ci .nil)) (V.ci (V.ci (.cons (.sl (V.ci .nil)) (V.ci (.cons .bool (.cons (.sl (V.ci (V.ci .nil))) .nil)))))))))))))))))))))))))))))))))
abbrev fl4 (x0:Z6)(x1:Z5):D4:=(x0.1,x0.2.1,x0.2.2.1,x0.2.2.2.1,x0.2.2.2.2.1,x0.2.2.2.2.2.1,x0.2.2.2.2.2.2.1,x0.2.2.2.2.2.2.2.1,x0.2.2.2.2.2.2.2.2.1,x0.2.2.2.2.2.2.2.2.2.1,x0.2.2.2.2.2.2.2.2.2.2.1,x0.2.2.2.2.2.2.2.2.2.2.2.1,x0.2.2.2.2.2.2.2.2.2.2.2.2.1,x0.2.2.2.2.2.2.2.2.2.2.2.2.2.1,x0.2.2.2.2.2.2.2.2.2.2.2.2.2.2.1,x0.2.2.2.2.2.2.2.2.2.2.2.2.2.2.2,x1.1,x1.2.1,x1.2.2.1,x1.2.2.2.1,x1.2.2.2.2.1,x1.2.2.2.2.2.1,x1.2.2.2.2.2.2.1,x1.2.2.2.2.2.2.2.1,x1.2.2.2.2.2.2.2.2.1,x1.2.2.2.2.2.2.2.2.2.1,x1.2.2.2.2.2.2.2.2.2.2.1,x1.2.2.2.2.2.2.2.2.2.2.2.1,x1.2.2.2.2.2.2.2.2.2.2.2.2.1,x1.2.2.2.2.2.2.2.2.2.2.2.2.2.1,x1.2.2.2.2.2.2.2.2.2.2.2.2.2.2.1,x1.2.2.2.2.2.2.2.2.2.2.2.2.2.2.2.1,x1.2.2.2.2.2.2.2.2.2.2.2.2.2.2.2.2)
abbrev p4_0 (x:D4):Z6:=(x.1,x.2.1,x.2.2.1,x.2.2.2.1,x.2.2.2.2.1,x.2.2.2.2.2.1,x.2.2.2.2.2.2.1,x.2.2.2.2.2.2.2.1,x.2.2.2.2.2.2.2.2.1,x.2.2.2.2.2.2.2.2.2.1,x.2.2.2.2.2.2.2.2.2.2.1,x.2.2.2.2.2.2.2.2.2.2.2.1,x.2.2.2.2.2.2.2.2.2.2.2.2.1,x.2.2.2.2.2.2.2.2.2.2.2.2.2.1,x.2.2.2.2.2.2.2.2.2.2.2.2.2.2.1,x.2.2.2.2.2.2.2.2.2.2.2.2.2.2.2.1)
abbrev p4_1 (x:D4):Z5:=x.2.2.2.2.2.2.2.2.2.2.2.2.2.2.2.2
abbrev D5 :Type:=(Z3)×Int×Int×Int×Int×Int×Int×Int×Int×List Int×Int×List Int×Int×Int×List Int×Int×Bool
abbrev A5 :ETy:=(.cons (.ptr (.cons (.sl (.cons (.int .u8) .nil)) (V.ci (V.ci .nil)))) (V.ci (V.ci (V.ci (V.ci (V.ci (V.ci (V.ci (V.ci (.cons (.sl (V.ci .nil)) (V.ci (.cons (.sl (V.ci .nil)) (V.ci (V.ci (.cons (.sl (V.ci .nil)) (V.ci (.cons .bool .nil)))))))))))))))))
abbrev fl5 (x0:(Z3))(x1:Z6):D5:=(x0,x1.1,x1.2.1,x1.2.2.1,x1.2.2.2.1,x1.2.2.2.2.1,x1.2.2.2.2.2.1,x1.2.2.2.2.2.2.1,x1.2.2.2.2.2.2.2.1,x1.2.2.2.2.2.2.2.2.1,x1.2.2.2.2.2.2.2.2.2.1,x1.2.2.2.2.2.2.2.2.2.2.1,x1.2.2.2.2.2.2.2.2.2.2.2.1,x1.2.2.2.2.2.2.2.2.2.2.2.2.1,x1.2.2.2.2.2.2.2.2.2.2.2.2.2.1,x1.2.2.2.2.2.2.2.2.2.2.2.2.2.2.1,x1.2.2.2.2.2.2.2.2.2.2.2.2.2.2.2)
abbrev p5_0 (x:D5):(Z3):=x.1
abbrev p5_1 (x:D5):Z6:=x.2
abbrev D6 :Type:=Int×Int×Int×Int×Int×Int×Int×Int×List Int×Int×List Int×Int×Int×List Int×Int×Bool×Int×Int×Int
abbrev A6 :ETy:=(V.ci (V.ci (V.ci (V.ci (V.ci (V.ci (V.ci (V.ci (.cons (.sl (V.ci .nil)) (V.ci (.cons (.sl (V.ci .nil)) (V.ci (V.ci (.cons (.sl (V.ci .nil)) (V.ci (.cons .bool (V.ci (V.ci (V.ci .nil)))))))))))))))))))
abbrev fl6 (x0:Z6)(x1:Int)(x2:Int)(x3:Int):D6:=(x0.1,x0.2.1,x0.2.2.1,x0.2.2.2.1,x0.2.2.2.2.1,x0.2.2.2.2.2.1,x0.2.2.2.2.2.2.1,x0.2.2.2.2.2.2.2.1,x0.2.2.2.2.2.2.2.2.1,x0.2.2.2.2.2.2.2.2.2.1,x0.2.2.2.2.2.2.2.2.2.2.1,x0.2.2.2.2.2.2.2.2.2.2.2.1,x0.2.2.2.2.2.2.2.2.2.2.2.2.1,x0.2.2.2.2.2.2.2.2.2.2.2.2.2.1,x0.2.2.2.2.2.2.2.2.2.2.2.2.2.2.1,x0.2.2.2.2.2.2.2.2.2.2.2.2.2.2.2,x1,x2,x3)
abbrev p6_0 (x:D6):Z6:=(x.1,x.2.1,x.2.2.1,x.2.2.2.1,x.2.2.2.2.1,x.2.2.2.2.2.1,x.2.2.2.2.2.2.1,x.2.2.2.2.2.2.2.1,x.2.2.2.2.2.2.2.2.1,x.2.2.2.2.2.2.2.2.2.1,x.2.2.2.2.2.2.2.2.2.2.1,x.2.2.2.2.2.2.2.2.2.2.2.1,x.2.2.2.2.2.2.2.2.2.2.2.2.1,x.2.2.2.2.2.2.2.2.2.2.2.2.2.1,x.2.2.2.2.2.2.2.2.2.2.2.2.2.2.1,x.2.2.2.2.2.2.2.2.2.2.2.2.2.2.2.1)
abbrev p6_1 (x:D6):Int:=x.2.2.2.2.2.2.2.2.2.2.2.2.2.2.2.2.1
abbrev p6_2 (x:D6):Int:=x.2.2.2.2.2.2.2.2.2.2.2.2.2.2.2.2.2.1
abbrev p6_3 (x:D6):Int:=x.2.2.2.2.2.2.2.2.2.2.2.2.2.2.2.2.2.2
abbrev D7 :Type:=Int×Int×Int×Int×Int×Int×Int×Int×List Int×Int×List Int×Int×Int×List Int×Int×Bool×List Z4×Int×Int
abbrev A7 :ETy:=(V.ci (V.ci (V.ci (V.ci (V.ci (V.ci (V.ci (V.ci (.cons (.sl (V.ci .nil)) (V.ci (.cons (.sl (V.ci .nil)) (V.ci (V.ci (.cons (.sl (V.ci .nil)) (V.ci (.cons .bool (.cons (.sl eEntry) (V.ci (V.ci .nil)))))))))))))))))))
abbrev fl7 (x0:Z6)(x1:List Z4)(x2:Int)(x3:Int):D7:=(x0.1,x0.2.1,x0.2.2.1,x0.2.2.2.1,x0.2.2.2.2.1,x0.2.2.2.2.2.1,x0.2.2.2.2.2.2.1,x0.2.2.2.2.2.2.2.1,x0.2.2.2.2.2.2.2.2.1,x0.2.2.2.2.2.2.2.2.2.1,x0.2.2.2.2.2.2.2.2.2.2.1,x0.2.2.2.2.2.2.2.2.2.2.2.1,x0.2.2.2.2.2.2.2.2.2.2.2.2.1,x0.2.2.2.2.2.2.2.2.2.2.2.2.2.1,x0.2.2.2.2.2.2.2.2.2.2.2.2.2.2.1,x0.2.2.2.2.2.2.2.2.2.2.2.2.2.2.2,x1,x2,x3)
abbrev p7_0 (x:D7):Z6:=(x.1,x.2.1,x.2.2.1,x.2.2.2.1,x.2.2.2.2.1,x.2.2.2.2.2.1,x.2.2.2.2.2.2.1,x.2.2.2.2.2.2.2.1,x.2.2.2.2.2.2.2.2.1,x.2.2.2.2.2.2.2.2.2.1,x.2.2.2.2.2.2.2.2.2.2.1,x.2.2.2.2.2.2.2.2.2.2.2.1,x.2.2.2.2.2.2.2.2.2.2.2.2.1,x.2.2.2.2.2.2.2.2.2.2.2.2.2.1,x.2.2.2.2.2.2.2.2.2.2.2.2.2.2.1,x.2.2.2.2.2.2.2.2.2.2.2.2.2.2.2.1)
abbrev p7_1 (x:D7):List Z4:=x.2.2.2.2.2.2.2.2.2.2.2.2.2.2.2.2.1
abbrev p7_2 (x:D7):Int:=x.2.2.2.2.2.2.2.2.2.2.2.2.2.2.2.2.2.1
abbrev p7_3 (x:D7):Int:=x.2.2.2.2.2.2.2.2.2.2.2.2.2.2.2.2.2.2
abbrev D8 :Type:=Int×Int×Int×Int×Int×Int×Int×Int×List Int×Int×List Int×Int×Int×List Int×Int×Bool×Int×Int×Int×Int×Int×Int×Int×Int×List Int×Int×List Int×Int×Int×List Int×Int×Bool×List Int
abbrev A8 :ETy:=(V.ci (V.ci (V.ci (V.ci (V.ci (V.ci (V.ci (V.ci (.cons (.sl (V.ci .nil)) (V.ci (.cons (.sl (V.ci .nil)) (V.ci (V.ci (.cons (.sl (V.ci .nil)) (V.ci (.cons .bool (V.ci (V.ci (V.ci (V.ci (V.ci (V.ci (V.ci (V.ci (.cons (.sl (V.ci .nil)) (V.ci (.cons (.sl (V.ci .nil)) (V.ci (V.ci (.cons (.sl (V.ci .nil)) (V.ci (.cons .bool (.cons (.sl (V.ci .nil)) .nil)))))))))))))))))))))))))))))))))
abbrev fl8 (x0:Z6)(x1:Z6)(x2:List Int):D8:=(x0.1,x0.2.1,x0.2.2.1,x0.2.2.2.1,x0.2.2.2.2.1,x0.2.2.2.2.2.1,x0.2.2.2.2.2.2.1,x0.2.2.2.2.2.2.2.1,x0.2.2.2.2.2.2.2.2.1,x0.2.2.2.2.2.2.2.2.2.1,x0.2.2.2.2.2.2.2.2.2.2.1,x0.2.2.2.2.2.2.2.2.2.2.2.1,x0.2.2.2.2.2.2.2.2.2.2.2.2.1,x0.2.2.2.2.2.2.2.2.2.2.2.2.2.1,x0.2.2.2.2.2.2.2.2.2.2.2.2.2.2.1,x0.2.2.2.2.2.2.2.2.2.2.2.2.2.2.2,x1.1,x1.2.1,x1.2.2.1,x1.2.2.2.1,x1.2.2.2.2.1,x1.2.2.2.2.2.1,x1.2.2.2.2.2.2.1,x1.2.2.2.2.2.2.2.1,x1.2.2.2.2.2.2.2.2.1,x1.2.2.2.2.2.2.2.2.2.1,x1.2.2.2.2.2.2.2.2.2.2.1,x1.2.2.2.2.2.2.2.2.2.2.2.1,x1.2.2.2.2.2.2.2.2.2.2.2.2.1,x1.2.2.2.2.2.2.2.2.2.2.2.2.2.1,x1.2.2.2.2.2.2.2.2.2.2.2.2.2.2.1,x1.2.2.2.2.2.2.2.2.2.2.2.2.2.2.2,x2)
abbrev p8_0 (x:D8):Z6:=(x.1,x.2.1,x.2.2.1,x.2.2.2.1,x.2.2.2.2.1,x.2.2.2.2.2.1,x.2.2.2.2.2.2.1,x.2.2.2.2.2.2.2.1,x.2.2.2.2.2.2.2.2.1,x.2.2.2.2.2.2.2.2.2.1,x.2.2.2.2.2.2.2.2.2.2.1,x.2.2.2.2.2.2.2.2.2.2.2.1,x.2.2.2.2.2.2.2.2.2.2.2.2.1,x.2.2.2.2.2.2.2.2.2.2.2.2.2.1,x.2.2.2.2.2.2.2.2.2.2.2.2.2.2.1,x.2.2.2.2.2.2.2.2.2.2.2.2.2.2.2.1)
abbrev p8_1 (x:D8):Z6:=(x.2.2.2.2.2.2.2.2.2.2.2.2.2.2.2.2.1,x.2.2.2.2.2.2.2.2.2.2.2.2.2.2.2.2.2.1,x.2.2.2.2.2.2.2.2.2.2.2.2.2.2.2.2.2.2.1,x.2.2.2.2.2.2.2.2.2.2.2.2.2.2.2.2.2.2.2.1,x.2.2.2.2.2.2.2.2.2.2.2.2.2.2.2.2.2.2.2.2.1,x.2.2.2.2.2.2.2.2.2.2.2.2.2.2.2.2.2.2.2.2.2.1,x.2.2.2.2.2.2.2.2.2.2.2.2.2.2.2.2.2.2.2.2.2.2.1,x.2.2.2.2.2.2.2.2.2.2.2.2.2.2.2.2.2.2.2.2.2.2.2.1,x.2.2.2.2.2.2.2.2.2.2.2.2.2.2.2.2.2.2.2.2.2.2.2.2.1,x.2.2.2.2.2.2.2.2.2.2.2.2.2.2.2.2.2.2.2.2.2.2.2.2.2.1,x.2.2.2.2.2.2.2.2.2.2.2.2.2.2.2.2.2.2.2.2.2.2.2.2.2.2.1,x.2.2.2.2.2.2.2.2.2.2.2.2.2.2.2.2.2.2.2.2.2.2.2.2.2.2.2.1,x.2.2.2.2.2.2.2.2.2.2.2.2.2.2.2.2.2.2.2.2.2.2.2.2.2.2.2.2.1,x.2.2.2.2.2.2.2.2.2.2.2.2.2.2.2.2.2.2.2.2.2.2.2.2.2.2.2.2.2.1,x.2.2.2.2.2.2.2.2.2.2.2.2.2.2.2.2.2.2.2.2.2.2.2.2.2.2.2.2.2.2.1,x.2.2.2.2.2.2.2.2.2.2.2.2.2.2.2.2.2.2.2.2.2.2.2.2.2.2.2.2.2.2.2.1)
abbrev p8_2 (x:D8):List Int:=x.2.2.2.2.2.2.2.2.2.2.2.2.2.2.2.2.2.2.2.2.2.2.2.2.2.2.2.2.2.2.2.2
abbrev D9 :Type:=List Z5×Int×Int×Int×Int×Int×Int×Int×Int×List Int×Int×List Int×Int×Int×List Int×Int×Bool×List Zb
abbrev A9 :ETy:=(.cons (.sl eSigned) (V.ci (V.ci (V.ci (V.ci (V.ci (V.ci (V.ci (V.ci (.cons (.sl (V.ci .nil)) (V.ci (.cons (.sl (V.ci .nil)) (V.ci (V.ci (.cons (.sl (V.ci .nil)) (V.ci (.cons .bool (.cons (.sl (V.ci (V.ci .nil))) .nil))))))))))))))))))
abbrev fl9 (x0:List Z5)(x1:Z5):D9:=(x0,x1.1,x1.2.1,x1.2.2.1,x1.2.2.2.1,x1.2.2.2.2.1,x1.2.2.2.2.2.1,x1.2.2.2.2.2.2.1,x1.2.2.2.2.2.2.2.1,x1.2.2.2.2.2.2.2.2.1,x1.2.2.2.2.2.2.2.2.2.1,x1.2.2.2.2.2.2.2.2.2.2.1,x1.2.2.2.2.2.2.2.2.2.2.2.1,x1.2.2.2.2.2.2.2.2.2.2.2.2.1,x1.2.2.2.2.2.2.2.2.2.2.2.2.2.1,x1.2.2.2.2.2.2.2.2.2.2.2.2.2.2.1,x1.2.2.2.2.2.2.2.2.2.2.2.2.2.2.2.1,x1.2.2.2.2.2.2.2.2.2.2.2.2.2.2.2.2)
abbrev p9_0 (x:D9):List Z5:=x.1
abbrev p9_1 (x:D9):Z5:=x.2
abbrev D10 :Type:=List Z5×List Z4×List Int×Int×Int×Int×Int×Int×Int×Int×Int×List Int×Int×List Int×Int×Int×List Int×Int×Bool×List Z4
abbrev A10 :ETy:=eRZoneListHeadList
abbrev fl10 (x0:Zt)(x1:List Int)(x2:Z6)(x3:List Z4):D10:=(x0.1,x0.2,x1,x2.1,x2.2.1,x2.2.2.1,x2.2.2.2.1,x2.2.2.2.2.1,x2.2.2.2.2.2.1,x2.2.2.2.2.2.2.1,x2.2.2.2.2.2.2.2.1,x2.2.2.2.2.2.2.2.2.1,x2.2.2.2.2.2.2.2.2.2.1,x2.2.2.2.2.2.2.2.2.2.2.1,x2.2.2.2.2.2.2.2.2.2.2.2.1,x2.2.2.2.2.2.2.2.2.2.2.2.2.1,x2.2.2.2.2.2.2.2.2.2.2.2.2.2.1,x2.2.2.2.2.2.2.2.2.2.2.2.2.2.2.1,x2.2.2.2.2.2.2.2.2.2.2.2.2.2.2.2,x3)
abbrev p10_0 (x:D10):Zt:=(x.1,x.2.1)
abbrev p10_1 (x:D10):List Int:=x.2.2.1
abbrev p10_2 (x:D10):Z6:=(x.2.2.2.1,x.2.2.2.2.1,x.2.2.2.2.2.1,x.2.2.2.2.2.2.1,x.2.2.2.2.2.2.2.1,x.2.2.2.2.2.2.2.2.1,x.2.2.2.2.2.2.2.2.2.1,x.2.2.2.2.2.2.2.2.2.2.1,x.2.2.2.2.2.2.2.2.2.2.2.1,x.2.2.2.2.2.2.2.2.2.2.2.2.1,x.2.2.2.2.2.2.2.2.2.2.2.2.2.1,x.2.2.2.2.2.2.2.2.2.2.2.2.2.2.1,x.2.2.2.2.2.2.2.2.2.2.2.2.2.2.2.1,x.2.2.2.2.2.2.2.2.2.2.2.2.2.2.2.2.1,x.2.2.2.2.2.2.2.2.2.2.2.2.2.2.2.2.2.1,x.2.2.2.2.2.2.2.2.2.2.2.2.2.2.2.2.2.2.1)
abbrev p10_3 (x:D10):List Z4:=x.2.2.2.2.2.2.2.2.2.2.2.2.2.2.2.2.2.2.2
abbrev D11 :Type:=Int×Int×Int×Int×Int×Int×Int×Int×List Int×Int×List Int×Int×Int×List Int×Int×Bool×List Zb×List Int×Int
abbrev A11 :ETy:=(V.ci (V.ci (V.ci (V.ci (V.ci (V.ci (V.ci (V.ci (.cons (.sl (V.ci .nil)) (V.ci (.cons (.sl (V.ci .nil)) (V.ci (V.ci (.cons (.sl (V.ci .nil)) (V.ci (.cons .bool (.cons (.sl (V.ci (V.ci .nil))) (.cons (.sl (V.ci .nil)) (V.ci .nil)))))))))))))))))))
abbrev fl11 (x0:Z5)(x1:Zc):D11:=(x0.1,x0.2.1,x0.2.2.1,x0.2.2.2.1,x0.2.2.2.2.1,x0.2.2.2.2.2.1,x0.2.2.2.2.2.2.1,x0.2.2.2.2.2.2.2.1,x0.2.2.2.2.2.2.2.2.1,x0.2.2.2.2.2.2.2.2.2.1,x0.2.2.2.2.2.2.2.2.2.2.1,x0.2.2.2.2.2.2.2.2.2.2.2.1,x0.2.2.2.2.2.2.2.2.2.2.2.2.1,x0.2.2.2.2.2.2.2.2.2.2.2.2.2.1,x0.2.2.2.2.2.2.2.2.2.2.2.2.2.2.1,x0.2.2.2.2.2.2.2.2.2.2.2.2.2.2.2.1,x0.2.2.2.2.2.2.2.2.2.2.2.2.2.2.2.2,x1.1,x1.2)
abbrev p11_0 (x:D11):Z5:=(x.1,x.2.1,x.2.2.1,x.2.2.2.1,x.2.2.2.2.1,x.2.2.2.2.2.1,x.2.2.2.2.2.2.1,x.2.2.2.2.2.2.2.1,x.2.2.2.2.2.2.2.2.1,x.2.2.2.2.2.2.2.2.2.1,x.2.2.2.2.2.2.2.2.2.2.1,x.2.2.2.2.2.2.2.2.2.2.2.1,x.2.2.2.2.2.2.2.2.2.2.2.2.1,x.2.2.2.2.2.2.2.2.2.2.2.2.2.1,x.2.2.2.2.2.2.2.2.2.2.2.2.2.2.1,x.2.2.2.2.2.2.2.2.2.2.2.2.2.2.2.1,x.2.2.2.2.2.2.2.2.2.2.2.2.2.2.2.2.1)
abbrev p11_1 (x:D11):Zc:=x.2.2.2.2.2.2.2.2.2.2.2.2.2.2.2.2.2
abbrev D12 :Type:=Int×Int×Int×Int×Int×Int×Int×Int×List Int×Int×List Int×Int×Int×List Int×Int×Bool×List Zb×Int×Int×Int×Int×Int×Int×Int×Int×List Int×Int×List Int×Int×Int×List Int×Int×Bool×List Zb
abbrev A12 :ETy:=(V.ci (V.ci (V.ci (V.ci (V.ci (V.ci (V.ci (V.ci (.cons (.sl (V.ci .nil)) (V.ci (.cons (.sl (V.ci .nil)) (V.ci (V.ci (.cons (.sl (V.ci .nil)) (V.ci (.cons .bool (.cons (.sl (V.ci (V.ci .nil))) (V.ci (V.ci (V.ci (V.ci (V.ci (V.ci (V.ci (V.ci (.cons (.sl (V.ci .nil)) (V.ci (.cons (.sl (V.ci .nil)) (V.ci (V.ci (.cons (.sl (V.ci .nil)) (V.ci (.cons .bool (.cons (.sl (V.ci (V.ci .nil))) .nil))))))))))))))))))))))))))))))))))
abbrev fl12 (x0:Z5)(x1:Z5):D12:=(x0.1,x0.2.1,x0.2.2.1,x0.2.2.2.1,x0.2.2.2.2.1,x0.2.2.2.2.2.1,x0.2.2.2.2.2.2.1,x0.2.2.2.2.2.2.2.1,x0.2.2.2.2.2.2.2.2.1,x0.2.2.2.2.2.2.2.2.2.1,x0.2.2.2.2.2.2.2.2.2.2.1,x0.2.2.2.2.2.2.2.2.2.2.2.1,x0.2.2.2.2.2.2.2.2.2.2.2.2.1,x0.2.2.2.2.2.2.2.2.2.2.2.2.2.1,x0.2.2.2.2.2.2.2.2.2.2.2.2.2.2.1,x0.2.2.2.2.2.2.2.2.2.2.2.2.2.2.2.1,x0.2.2.2.2.2.2.2.2.2.2.2.2.2.2.2.2,x1.1,x1.2.1,x1.2.2.1,x1.2.2.2.1,x1.2.2.2.2.1,x1.2.2.2.2.2.1,x1.2.2.2.2.2.2.1,x1.2.2.2.2.2.2.2.1,x1.2.2.2.2.2.2.2.2.1,x1.2.2.2.2.2.2.2.2.2.1,x1.2.2.2.2.2.2.2.2.2.2.1,x1.2.2.2.2.2.2.2.2.2.2.2.1,x1.2.2.2.2.2.2.2.2.2.2.2.2.1,x1.2.2.2.2.2.2.2.2.2.2.2.2.2.1,x1.2.2.2.2.2.2.2.2.2.2.2.2.2.2.1,x1.2.2.2.2.2.2.2.2.2.2.2.2.2.2.2.1,x1.2.2.2.2.2.2.2.2.2.2.2.2.2.2.2.2)
abbrev p12_0 (x:D12):Z5:=(x.1,x.2.1,x.2.2.1,x.2.2.2.1,x.2.2.2.2.1,x.2.2.2.2.2.1,x.2.2.2.2.2.2.1,x.2.2.2.2.2.2.2.1,x.2.2.2.2.2.2.2.2.1,x.2.2.2.2.2.2.2.2.2.1,x.2.2.2.2.2.2.2.2.2.2.1,x.2.2.2.2.2.2.2.2.2.2.2.1,x.2.2.2.2.2.2.2.2.2.2.2.2.1,x.2.2.2.2.2.2.2.2.2.2.2.2.2.1,x.2.2.2.2.2.2.2.2.2.2.2.2.2.2.1,x.2.2.2.2.2.2.2.2.2.2.2.2.2.2.2.1,x.2.2.2.2.2.2.2.2.2.2.2.2.2.2.2.2.1)
abbrev p12_1 (x:D12):Z5:=x.2.2.2.2.2.2.2.2.2.2.2.2.2.2.2.2.2
noncomputable abbrev lsHead (x:Z6):List Lf:=[.vi (x.1), .vi (x.2.1), .vi (x.2.2.1), .vi (x.2.2.2.1), .vi (x.2.2.2.2.1), .vi (x.2.2.2.2.2.1), .vi (x.2.2.2.2.2.2.1), .vi (x.2.2.2.2.2.2.2.1), .val (.sl (V.ci .nil) x.2.2.2.2.2.2.2.2.1), .vi (x.2.2.2.2.2.2.2.2.2.1), .val (.sl (V.ci .nil) x.2.2.2.2.2.2.2.2.2.2.1), .vi (x.2.2.2.2.2.2.2.2.2.2.2.1), .vi (x.2.2.2.2.2.2.2.2.2.2.2.2.1), .val (.sl (V.ci .nil) x.2.2.2.2.2.2.2.2.2.2.2.2.2.1), .vi (x.2.2.2.2.2.2.2.2.2.2.2.2.2.2.1), .val (.bool x.2.2.2.2.2.2.2.2.2.2.2.2.2.2.2)]
noncomputable abbrev lsSigned (x:Z5):List Lf:=[.vi (x.1), .vi (x.2.1), .vi (x.2.2.1), .vi (x.2.2.2.1), .vi (x.2.2.2.2.1), .vi (x.2.2.2.2.2.1), .vi (x.2.2.2.2.2.2.1), .vi (x.2.2.2.2.2.2.2.1), .val (.sl (V.ci .nil) x.2.2.2.2.2.2.2.2.1), .vi (x.2.2.2.2.2.2.2.2.2.1), .val (.sl (V.ci .nil) x.2.2.2.2.2.2.2.2.2.2.1), .vi (x.2.2.2.2.2.2.2.2.2.2.2.1), .vi (x.2.2.2.2.2.2.2.2.2.2.2.2.1), .val (.sl (V.ci .nil) x.2.2.2.2.2.2.2.2.2.2.2.2.2.1), .vi (x.2.2.2.2.2.2.2.2.2.2.2.2.2.2.1), .val (.bool x.2.2.2.2.2.2.2.2.2.2.2.2.2.2.2.1), .val (.sl (V.ci (V.ci .nil)) x.2.2.2.2.2.2.2.2.2.2.2.2.2.2.2.2)]
abbrev tys :List (Nat×TI):=[(3,⟨.int .i64,false,[.vi ((0:Int))],8,[],(V.ci .nil)⟩),
 (4,⟨.bool,false,[.val (.bool false)],1,[],(.cons .bool .nil)⟩),
 (5,⟨.int .u8,false,[.val (.int .u8 (0:Int))],1,[],(.cons (.int .u8) .nil)⟩),
 (9,⟨.str,false,[.val (.str (⟨#[]⟩:ByteArray))],16,[],(.cons .str .nil)⟩),
 (22,⟨.sl 5,false,[.nil0],24,[],(.cons (.sl (.cons (.int .u8) .nil)) .nil)⟩),
 (24,⟨.sl 67,false,[.nil0],24,[],(.cons (.sl V.eSigned) .nil)⟩),
 (25,⟨.sl 77,false,[.nil0],24,[],(.cons (.sl V.eEntry) .nil)⟩),
 (27,⟨.st,false,[.nil0, .nil0],48,[(0,1,false),(1,1,false)],(.cons (.sl V.eSigned) (.cons (.sl V.eEntry) .nil))⟩),
 (28,⟨.sl 3,false,[.nil0],24,[],(.cons (.sl (V.ci .nil)) .nil)⟩),
 (30,⟨.st,false,[.nil0, .vi ((0:Int))],32,[(0,1,false),(1,1,false)],(.cons (.sl (V.ci .nil)) (V.ci .nil))⟩),
 (32,⟨.st,false,[.vi ((0:Int)), .vi ((0:Int)), .vi ((0:Int)), .vi ((0:Int)), .vi ((0:Int)), .vi ((0:Int)), .vi ((0:Int)), .vi ((0:Int)), .nil0, .vi ((0:Int)), .nil0, .vi ((0:Int)), .vi ((0:Int)), .nil0, .vi ((0:Int)), .val (.bool false)],176,[(0,1,false),(1,1,false),(2,1,false),(3,1,false),(4,1,false),(5,1,false),(6,1,false),(7,1,false),(8,2,true),(10,2,true),(12,1,false),(13,2,true),(15,1,false)],V.eHead⟩),
 (65,⟨.sl 130,false,[.nil0],24,[],(.cons (.sl (V.ci (V.ci .nil))) .nil)⟩),
 (67,⟨.st,false,[.vi ((0:Int)), .vi ((0:Int)), .vi ((0:Int)), .vi ((0:Int)), .vi ((0:Int)), .vi ((0:Int)), .vi ((0:Int)), .vi ((0:Int)), .nil0, .vi ((0:Int)), .nil0, .vi ((0:Int)), .vi ((0:Int)), .nil0, .vi ((0:Int)), .val (.bool false), .nil0],200,[(0,16,true),(16,1,false)],V.eSigned⟩),
 (75,⟨.sl 9,false,[.nil0],24,[],(.cons (.sl (.cons .str .nil)) .nil)⟩),
 (77,⟨.st,false,[.val (.str (⟨#[]⟩:ByteArray)), .vi ((0:Int)), .vi ((0:Int)), .nil0],56,[(0,1,false),(1,1,false),(2,1,false),(3,1,false)],V.eEntry⟩),
 (85,⟨.st,false,[.nil0, .vi ((0:Int)), .vi ((0:Int))],40,[(0,1,false),(1,1,false),(2,1,false)],(.cons (.sl (.cons (.int .u8) .nil)) (V.ci (V.ci .nil)))⟩),
 (130,⟨.st,true,[.vi ((0:Int)), .vi ((0:Int))],16,[(0,1,false),(1,1,false)],(V.ci (V.ci .nil))⟩),
 (153,⟨.sl 28,false,[.nil0],24,[],(.cons (.sl (.cons (.sl (V.ci .nil)) .nil)) .nil)⟩)]
theorem Z3Q :tyAll Tryz.prog tys=true:=by kernel_rfl
theorem mixed :Tryz.prog.follows .mixedOrders=true:=by kernel_rfl
theorem cfl {α:Type}{a b c:α}(e:a=b)(h:a=c):b=c:=e.symm.trans h
theorem fo {g:Nat}{fn:Func}{con:Con}{tab:List (Nat×Con)}{heads:List (Nat×List Nat×Cv)}{pre:List (Nat×Nat)}{shallow:List Nat}{movs flts:List (Nat×List Nat)}(h:TabOk Tryz.prog tab)(hf:Tryz.prog.funcs[g]? =some fn)(hq:(!(fn.name== "runtime.NumGoroutine")&&(!fn.body.isNone&&conOk con fn.ntmps))=true)(hev:∀x y,con.f x=some y→evBody (mkE tys tab heads pre shallow movs flts) con fn x=some y):Valid Tryz.prog g con:=by
 simp only[Bool.and_eq_true,Bool.not_eq_true']at hq
 exact body_ok (env_ok mixed Z3Q h) hf hq.1 hq.2.1 hq.2.2 hev
theorem fo2 {g:Nat}{fn:Func}{con:Con}{tab tab2:List (Nat×Con)}{sites:List Nat}{heads:List (Nat×List Nat×Cv)}{pre:List (Nat×Nat)}{shallow:List Nat}{movs flts:List (Nat×List Nat)}(h:TabOk Tryz.prog tab)(h2:TabOk Tryz.prog tab2)(hf:Tryz.prog.funcs[g]? =some fn)(hq:(!(fn.name== "runtime.NumGoroutine")&&(!fn.body.isNone&&conOk con fn.ntmps))=true)(hev:∀x y,con.f x=some y→evBody (mkE2 tys tab sites tab2 heads pre shallow movs flts) con fn x=some y):Valid Tryz.prog g con:=by
 simp only[Bool.and_eq_true,Bool.not_eq_true']at hq
 exact body_ok (env_ok2 mixed Z3Q h h2) hf hq.1 hq.2.1 hq.2.2 hev
end V
noncomputable abbrev UA.con :V.Con:=⟨(.cons (.sl (.cons (.int .u8) .nil)) .nil),(.cons .bool .nil),fun(x:List Int)=>UA x,[],[(false,1)],[(false,1)],[false],[]⟩
noncomputable abbrev UA.E :V.Env:=V.mkE V.tys [] [] [] [] [] []
theorem UA.eq (x0:List Int):V.evBody UA.E UA.con Tryz.f4 ((x0):List Int)=UA x0:=by kernel_rfl
theorem UA.ok :V.Valid Tryz.prog 4 UA.con:=
 V.fo V.tab_nil Tryz.func4 (by kernel_rfl) (fun x y h=>(show V.evBody UA.E UA.con Tryz.f4 x=_ from UA.eq x).trans (V.cfl (by kernel_rfl) h))
noncomputable abbrev ZG.con :V.Con:=⟨(.cons (.sl (.cons (.int .u8) .nil)) .nil),(.cons (.ptr (.cons (.sl (.cons (.int .u8) .nil)) (V.ci (V.ci .nil)))) .nil),fun(x:List Int)=>ZG x,[],[(false,1)],[(false,1)],[true],[]⟩
noncomputable abbrev ZG.E :V.Env:=V.mkE V.tys [] [(6,[0,3,4],[]),(11,[0,3,4],[])] [] [] [] []
noncomputable abbrev ZG.kt (x0:List Int):V.Kt ((Z3)):=V.ktOf ZG.E ZG.con Tryz.f22 ((x0):List Int)
noncomputable abbrev ZG.s11 (x0:List Int)(v6_1:Int)(v6_2:Int):V.St:=⟨[(0, .v false [.val (.sl (.cons (.int .u8) .nil) x0)]),(3, .v false [.vi (v6_1)]),(4, .v false [.vi (v6_2)])],[]⟩
noncomputable abbrev ZG.s6 (x0:List Int)(v6_1:Int)(v6_2:Int):V.St:=⟨[(0, .v false [.val (.sl (.cons (.int .u8) .nil) x0)]),(3, .v false [.vi (v6_1)]),(4, .v false [.vi (v6_2)])],[]⟩
theorem ZG.r11 (x0:List Int)(v6_1:Int)(v6_2:Int)(R6:V.St→Option ((Z3))):V.joinF ZG.E Tryz.f22.ntmps [1,1,0,1,0,0] [R6] (V.codeOf Tryz.f22) (ZG.kt x0) (ZG.s11 x0 v6_1 v6_2)=ZG.g11 x0 v6_1 v6_2 (fun v6_1 v6_2=>R6 (ZG.s6 x0 v6_1 v6_2)):=by kernel_rfl
theorem ZG.e11 (x0:List Int)(v6_1:Int)(v6_2:Int)(R6:V.St→Option ((Z3))):V.jn (V.joinF ZG.E Tryz.f22.ntmps [1,1,0,1,0,0] [R6] (V.codeOf Tryz.f22) (ZG.kt x0)) (ZG.s11 x0 v6_1 v6_2)=ZG.l11 x0 v6_1 v6_2 (fun v6_1 v6_2=>R6 (ZG.s6 x0 v6_1 v6_2)):=by
 rw[V.jn_eq,ZG.r11]
 rfl
theorem ZG.r6 (x0:List Int)(R:V.St→Option ((Z3)))(v6_1:Int)(v6_2:Int):V.loopF ZG.E Tryz.f22.ntmps [1,1,0,1,0] [] (V.codeOf Tryz.f22) (ZG.kt x0) R (ZG.s6 x0 v6_1 v6_2)=ZG.g6 x0 (fun v6_1 v6_2=>R (ZG.s6 x0 v6_1 v6_2)) (V.jn (V.joinF ZG.E Tryz.f22.ntmps [1,1,0,1,0,0] [R] (V.codeOf Tryz.f22) (ZG.kt x0)) (ZG.s11 x0 v6_1 v6_2)) v6_1 v6_2:=by kernel_rfl
theorem ZG.e6 (x0:List Int):∀(n:Nat) (v6_1:Int) (v6_2:Int),V.loopN (V.loopF ZG.E Tryz.f22.ntmps [1,1,0,1,0] [] (V.codeOf Tryz.f22) (ZG.kt x0)) n (ZG.s6 x0 v6_1 v6_2)=ZG.l6 x0 n v6_1 v6_2:=by
 intro n
 induction n with
 |zero=>intros;rw[V.loopN_z];rfl
 |succ n ih=>
  intro v6_1 v6_2
  rw[V.loopN_s,ZG.r6]
  simp only[ZG.e11,ih]
  first|exact(ZG.u6 ..).symm|rfl
theorem ZG.v (x0:List Int):V.evBody ZG.E ZG.con Tryz.f22 ((x0):List Int)=ZG.b x0 (fun v6_1 v6_2=>V.loopN (V.loopF ZG.E Tryz.f22.ntmps [1,1,0,1,0] [] (V.codeOf Tryz.f22) (ZG.kt x0)) V.KK (ZG.s6 x0 v6_1 v6_2)):=by kernel_rfl
theorem ZG.eq (x0:List Int):V.evBody ZG.E ZG.con Tryz.f22 ((x0):List Int)=ZG x0:=by
 rw[ZG.v]
 simp only[ZG.e6]
 rfl
theorem ZG.ok :V.Valid Tryz.prog 22 ZG.con:=
 V.fo V.tab_nil Tryz.func22 (by kernel_rfl) (fun x y h=>(show V.evBody ZG.E ZG.con Tryz.f22 x=_ from ZG.eq x).trans (V.cfl (by kernel_rfl) h))
noncomputable abbrev Wu.con :V.Con:=⟨(.cons (.ptr (.cons (.sl (.cons (.int .u8) .nil)) (V.ci (V.ci .nil)))) .nil),(.cons (.ptr (.cons (.sl (.cons (.int .u8) .nil)) (V.ci (V.ci .nil)))) (V.ci .nil)),fun(x:(Z3))=>Wu x,[(0,false)],[(false,1)],[(false,1)],[false],[]⟩
noncomputable abbrev Wu.E :V.Env:=V.mkE V.tys [] [] [(2,10),(3,9),(4,12)] [] [] []
theorem Wu.eq (x0:(Z3)):V.evBody Wu.E Wu.con Tryz.f70 ((x0):(Z3))=Wu x0:=by kernel_rfl
theorem Wu.ok :V.Valid Tryz.prog 70 Wu.con:=
 V.fo V.tab_nil Tryz.func70 (by kernel_rfl) (fun x y h=>(show V.evBody Wu.E Wu.con Tryz.f70 x=_ from Wu.eq x).trans (V.cfl (by kernel_rfl) h))
noncomputable abbrev Zd.con :V.Con:=⟨(.cons (.ptr (.cons (.sl (.cons (.int .u8) .nil)) (V.ci (V.ci .nil)))) (V.ci .nil)),(.cons (.ptr (.cons (.sl (.cons (.int .u8) .nil)) (V.ci (V.ci .nil)))) (V.ci .nil)),fun(x:(Z3)×Int)=>Zd x.1 x.2,[(0,false)],[(false,1),(false,1)],[(false,1)],[false],[]⟩
noncomputable abbrev Zd.E :V.Env:=V.mkE V.tys [(70,Wu.con)] [] [] [] [] []
theorem Zd.eq (x0:(Z3))(x1:Int):V.evBody Zd.E Zd.con Tryz.f31 ((x0,x1):(Z3)×Int)=Zd x0 x1:=by kernel_rfl
theorem Zd.ok :V.Valid Tryz.prog 31 Zd.con:=
 V.fo (V.tab_cons Wu.ok V.tab_nil) Tryz.func31 (by kernel_rfl) (fun x y h=>(show V.evBody Zd.E Zd.con Tryz.f31 x=_ from Zd.eq x.1 x.2).trans (V.cfl (by kernel_rfl) h))
noncomputable abbrev ZN.con :V.Con:=⟨(.cons (.ptr (.cons (.sl (.cons (.int .u8) .nil)) (V.ci (V.ci .nil)))) .nil),(.cons (.ptr (.cons (.sl (.cons (.int .u8) .nil)) (V.ci (V.ci .nil)))) (.cons (.sl (V.ci .nil)) (V.ci .nil))),fun(x:(Z3))=>ZN x,[(0,false)],[(false,1)],[(true,2)],[true,false],[]⟩
noncomputable abbrev ZN.E :V.Env:=V.mkE V.tys [(31,Zd.con)] [(10,[0,2,3,4,5,6],[(64000000000012292096,(V.ci .nil),true)])] [] [] [] []
noncomputable abbrev ZN.kt (x0:(Z3)):V.Kt ((Z3)×List Int×Int):=V.ktOf ZN.E ZN.con Tryz.f98 ((x0):(Z3))
noncomputable abbrev ZN.s10 (x0:(Z3))(v10_0:Int)(v10_1:Int)(v10_2:Int)(v10_4:Int)(v10_5:Int)(v10_8:List Int):V.St:=⟨[(0, .v false [.ptr 0 0]),(2, .v false [.ptr 64000 0]),(3, .v false [.vi (v10_0)]),(4, .v false [.ptr 192064 0]),(5, .v false [.vi (v10_1)]),(6, .v false [.vi (v10_2)])],[(0, .box [.val (.sl (.cons (.int .u8) .nil) x0.1), .vi (v10_4), .vi (v10_5)]),(64000, .box [.nil0, .vi ((0:Int))]),(192064, .box [.ref 64000000000012292096, .vi ((0:Int))]),(64000000000012292096, .row (V.ci .nil) true v10_8)]⟩
theorem ZN.r10 (x0:(Z3))(R:V.St→Option ((Z3)×List Int×Int))(v10_0:Int)(v10_1:Int)(v10_2:Int)(v10_4:Int)(v10_5:Int)(v10_8:List Int):V.loopF ZN.E Tryz.f98.ntmps [1,1,1,1,0,1,0] [] (V.codeOf Tryz.f98) (ZN.kt x0) R (ZN.s10 x0 v10_0 v10_1 v10_2 v10_4 v10_5 v10_8)=ZN.g10 x0 (fun v10_0 v10_1 v10_2 v10_4 v10_5 v10_8=>R (ZN.s10 x0 v10_0 v10_1 v10_2 v10_4 v10_5 v10_8)) v10_0 v10_1 v10_2 v10_4 v10_5 v10_8:=by kernel_rfl
theorem ZN.e10 (x0:(Z3)):∀(n:Nat) (v10_0:Int) (v10_1:Int) (v10_2:Int) (v10_4:Int) (v10_5:Int) (v10_8:List Int),V.loopN (V.loopF ZN.E Tryz.f98.ntmps [1,1,1,1,0,1,0] [] (V.codeOf Tryz.f98) (ZN.kt x0)) n (ZN.s10 x0 v10_0 v10_1 v10_2 v10_4 v10_5 v10_8)=ZN.l10 x0 n v10_0 v10_1 v10_2 v10_4 v10_5 v10_8:=by
 intro n
 induction n with
 |zero=>intros;rw[V.loopN_z];rfl
 |succ n ih=>
  intro v10_0 v10_1 v10_2 v10_4 v10_5 v10_8
  rw[V.loopN_s,ZN.r10]
  simp only[ih]
  first|exact(ZN.u10 ..).symm|rfl
theorem ZN.v (x0:(Z3)):V.evBody ZN.E ZN.con Tryz.f98 ((x0):(Z3))=ZN.b x0 (fun v10_0 v10_1 v10_2 v10_4 v10_5 v10_8=>V.loopN (V.loopF ZN.E Tryz.f98.ntmps [1,1,1,1,0,1,0] [] (V.codeOf Tryz.f98) (ZN.kt x0)) V.KK (ZN.s10 x0 v10_0 v10_1 v10_2 v10_4 v10_5 v10_8)):=by kernel_rfl
theorem ZN.eq (x0:(Z3)):V.evBody ZN.E ZN.con Tryz.f98 ((x0):(Z3))=ZN x0:=by
 rw[ZN.v]
 simp only[ZN.e10]
 rfl
theorem ZN.ok :V.Valid Tryz.prog 98 ZN.con:=
 V.fo (V.tab_cons Zd.ok V.tab_nil) Tryz.func98 (by kernel_rfl) (fun x y h=>(show V.evBody ZN.E ZN.con Tryz.f98 x=_ from ZN.eq x).trans (V.cfl (by kernel_rfl) h))
noncomputable abbrev Wj.con :V.Con:=⟨(.cons (.ptr (.cons (.sl (.cons (.int .u8) .nil)) (V.ci (V.ci .nil)))) (.cons (.sl (.cons .str .nil)) .nil)),(.cons (.ptr (.cons (.sl (.cons (.int .u8) .nil)) (V.ci (V.ci .nil)))) (.cons .str .nil)),fun(x:(Z3)×List ByteArray)=>Wj x.1 x.2,[(0,false)],[(false,1),(false,1)],[(false,1)],[false],[]⟩
noncomputable abbrev Wj.E :V.Env:=V.mkE V.tys [(31,Zd.con)] [] [] [] [] []
theorem Wj.eq (x0:(Z3))(x1:List ByteArray):V.evBody Wj.E Wj.con Tryz.f158 ((x0,x1):(Z3)×List ByteArray)=Wj x0 x1:=by kernel_rfl
theorem Wj.ok :V.Valid Tryz.prog 158 Wj.con:=
 V.fo (V.tab_cons Zd.ok V.tab_nil) Tryz.func158 (by kernel_rfl) (fun x y h=>(show V.evBody Wj.E Wj.con Tryz.f158 x=_ from Wj.eq x.1 x.2).trans (V.cfl (by kernel_rfl) h))
noncomputable abbrev W1.con :V.Con:=⟨(.cons (.ptr (.cons (.sl (.cons (.int .u8) .nil)) (V.ci (V.ci .nil)))) .nil),(.cons (.ptr (.cons (.sl (.cons (.int .u8) .nil)) (V.ci (V.ci .nil)))) (.cons .str .nil)),fun(x:(Z3))=>W1 x,[(0,false)],[(false,1)],[(false,1)],[false],[]⟩
noncomputable abbrev W1.E :V.Env:=V.mkE V.tys [(158,Wj.con)] [] [] [] [] []
theorem W1.eq (x0:(Z3)):V.evBody W1.E W1.con Tryz.f109 ((x0):(Z3))=W1 x0:=by kernel_rfl
theorem W1.ok :V.Valid Tryz.prog 109 W1.con:=
 V.fo (V.tab_cons Wj.ok V.tab_nil) Tryz.func109 (by kernel_rfl) (fun x y h=>(show V.evBody W1.E W1.con Tryz.f109 x=_ from W1.eq x).trans (V.cfl (by kernel_rfl) h))
noncomputable abbrev UE.con :V.Con:=⟨(.cons .str (V.ci .nil)),V.eEntry,fun(x:ByteArray×Int)=>UE x.1 x.2,[],[(false,1),(false,1)],[(true,4)],[false,false,false,true],[]⟩
noncomputable abbrev UE.E :V.Env:=V.mkE V.tys [] [] [] [] [] []
theorem UE.eq (x0:ByteArray)(x1:Int):V.evBody UE.E UE.con Tryz.f110 ((x0,x1):ByteArray×Int)=UE x0 x1:=by kernel_rfl
theorem UE.ok :V.Valid Tryz.prog 110 UE.con:=
 V.fo V.tab_nil Tryz.func110 (by kernel_rfl) (fun x y h=>(show V.evBody UE.E UE.con Tryz.f110 x=_ from UE.eq x.1 x.2).trans (V.cfl (by kernel_rfl) h))
noncomputable abbrev Yk.con :V.Con:=⟨(.cons (.ptr (.cons (.sl (.cons (.int .u8) .nil)) (V.ci (V.ci .nil)))) .nil),(.cons (.ptr (.cons (.sl (.cons (.int .u8) .nil)) (V.ci (V.ci .nil)))) (.cons (.sl (.cons .str .nil)) .nil)),fun(x:(Z3))=>Yk x,[(0,false)],[(false,1)],[(false,1)],[true],[]⟩
noncomputable abbrev Yk.E :V.Env:=V.mkE V.tys [(31,Zd.con),(109,W1.con)] [(6,[0,3,4],[(64000038400192,(.cons .str .nil),true)])] [] [] [] []
noncomputable abbrev Yk.kt (x0:(Z3)):V.Kt ((Z3)×List ByteArray):=V.ktOf Yk.E Yk.con Tryz.f112 ((x0):(Z3))
noncomputable abbrev Yk.s6 (x0:(Z3))(v6_0:Int)(v6_2:Int)(v6_3:Int)(v6_4:List ByteArray):V.St:=⟨[(0, .v false [.ptr 0 0]),(3, .v false [.ref 64000038400192]),(4, .v false [.vi (v6_0)])],[(0, .box [.val (.sl (.cons (.int .u8) .nil) x0.1), .vi (v6_2), .vi (v6_3)]),(64000038400192, .row (.cons .str .nil) true v6_4)]⟩
theorem Yk.r6 (x0:(Z3))(R:V.St→Option ((Z3)×List ByteArray))(v6_0:Int)(v6_2:Int)(v6_3:Int)(v6_4:List ByteArray):V.loopF Yk.E Tryz.f112.ntmps [1,1,0,1,0] [] (V.codeOf Tryz.f112) (Yk.kt x0) R (Yk.s6 x0 v6_0 v6_2 v6_3 v6_4)=Yk.g6 x0 (fun v6_0 v6_2 v6_3 v6_4=>R (Yk.s6 x0 v6_0 v6_2 v6_3 v6_4)) v6_0 v6_2 v6_3 v6_4:=by kernel_rfl
theorem Yk.e6 (x0:(Z3)):∀(n:Nat) (v6_0:Int) (v6_2:Int) (v6_3:Int) (v6_4:List ByteArray),V.loopN (V.loopF Yk.E Tryz.f112.ntmps [1,1,0,1,0] [] (V.codeOf Tryz.f112) (Yk.kt x0)) n (Yk.s6 x0 v6_0 v6_2 v6_3 v6_4)=Yk.l6 x0 n v6_0 v6_2 v6_3 v6_4:=by
 intro n
 induction n with
 |zero=>intros;rw[V.loopN_z];rfl
 |succ n ih=>
  intro v6_0 v6_2 v6_3 v6_4
  rw[V.loopN_s,Yk.r6]
  simp only[ih]
  first|exact(Yk.u6 ..).symm|rfl
theorem Yk.v (x0:(Z3)):V.evBody Yk.E Yk.con Tryz.f112 ((x0):(Z3))=Yk.b x0 (fun v6_0 v6_2 v6_3 v6_4=>V.loopN (V.loopF Yk.E Tryz.f112.ntmps [1,1,0,1,0] [] (V.codeOf Tryz.f112) (Yk.kt x0)) V.KK (Yk.s6 x0 v6_0 v6_2 v6_3 v6_4)):=by kernel_rfl
theorem Yk.eq (x0:(Z3)):V.evBody Yk.E Yk.con Tryz.f112 ((x0):(Z3))=Yk x0:=by
 rw[Yk.v]
 simp only[Yk.e6]
 rfl
theorem Yk.ok :V.Valid Tryz.prog 112 Yk.con:=
 V.fo (V.tab_cons Zd.ok (V.tab_cons W1.ok V.tab_nil)) Tryz.func112 (by kernel_rfl) (fun x y h=>(show V.evBody Yk.E Yk.con Tryz.f112 x=_ from Yk.eq x).trans (V.cfl (by kernel_rfl) h))
noncomputable abbrev Ww.con :V.Con:=⟨(.cons (.sl (.cons .str .nil)) .nil),(.cons (.sl (.cons .str .nil)) .nil),fun(x:List ByteArray)=>Ww x,[],[(false,1)],[(false,1)],[true],[]⟩
noncomputable abbrev Ww.E :V.Env:=V.mkE V.tys [] [] [] [] [] []
theorem Ww.eq (x0:List ByteArray):V.evBody Ww.E Ww.con Tryz.f131 ((x0):List ByteArray)=Ww x0:=by kernel_rfl
theorem Ww.ok :V.Valid Tryz.prog 131 Ww.con:=
 V.fo V.tab_nil Tryz.func131 (by kernel_rfl) (fun x y h=>(show V.evBody Ww.E Ww.con Tryz.f131 x=_ from Ww.eq x).trans (V.cfl (by kernel_rfl) h))
noncomputable abbrev UD.con :V.Con:=⟨(.cons .str (V.ci (.cons (.sl (.cons .str .nil)) .nil))),V.eEntry,fun(x:ByteArray×Int×List ByteArray)=>UD x.1 x.2.1 x.2.2,[],[(false,1),(false,1),(false,1)],[(true,4)],[false,false,false,true],[]⟩
noncomputable abbrev UD.E :V.Env:=V.mkE V.tys [(131,Ww.con)] [] [] [] [] []
theorem UD.eq (x0:ByteArray)(x1:Int)(x2:List ByteArray):V.evBody UD.E UD.con Tryz.f111 ((x0,x1,x2):ByteArray×Int×List ByteArray)=UD x0 x1 x2:=by kernel_rfl
theorem UD.ok :V.Valid Tryz.prog 111 UD.con:=
 V.fo (V.tab_cons Ww.ok V.tab_nil) Tryz.func111 (by kernel_rfl) (fun x y h=>(show V.evBody UD.E UD.con Tryz.f111 x=_ from UD.eq x.1 x.2.1 x.2.2).trans (V.cfl (by kernel_rfl) h))
noncomputable abbrev WM.con :V.Con:=⟨(.cons .str (V.ci .nil)),V.eEntry,fun(x:ByteArray×Int)=>WM x.1 x.2,[],[(false,1),(false,1)],[(true,4)],[false,false,false,true],[]⟩
noncomputable abbrev WM.E :V.Env:=V.mkE V.tys [] [] [] [] [] []
theorem WM.eq (x0:ByteArray)(x1:Int):V.evBody WM.E WM.con Tryz.f64 ((x0,x1):ByteArray×Int)=WM x0 x1:=by kernel_rfl
theorem WM.ok :V.Valid Tryz.prog 64 WM.con:=
 V.fo V.tab_nil Tryz.func64 (by kernel_rfl) (fun x y h=>(show V.evBody WM.E WM.con Tryz.f64 x=_ from WM.eq x.1 x.2).trans (V.cfl (by kernel_rfl) h))
noncomputable abbrev Wx.con :V.Con:=⟨(.cons (.ptr (.cons (.sl (.cons (.int .u8) .nil)) (V.ci (V.ci .nil)))) .nil),(.cons (.ptr (.cons (.sl (.cons (.int .u8) .nil)) (V.ci (V.ci .nil)))) (.cons .str (V.ci (V.ci (.cons (.sl (.cons .str .nil)) .nil))))),fun(x:(Z3))=>Wx x,[(0,false)],[(false,1)],[(true,4)],[false,false,false,true],[]⟩
noncomputable abbrev Wx.E :V.Env:=V.mkE V.tys [(31,Zd.con),(64,WM.con),(109,W1.con),(110,UE.con),(111,UD.con),(112,Yk.con)] [] [] [] [] []
theorem Wx.eq (x0:(Z3)):V.evBody Wx.E Wx.con Tryz.f65 ((x0):(Z3))=Wx x0:=by kernel_rfl
theorem Wx.ok :V.Valid Tryz.prog 65 Wx.con:=
 V.fo (V.tab_cons Zd.ok (V.tab_cons WM.ok (V.tab_cons W1.ok (V.tab_cons UE.ok (V.tab_cons UD.ok (V.tab_cons Yk.ok V.tab_nil)))))) Tryz.func65 (by kernel_rfl) (fun x y h=>(show V.evBody Wx.E Wx.con Tryz.f65 x=_ from Wx.eq x).trans (V.cfl (by kernel_rfl) h))
noncomputable abbrev Wq.con :V.Con:=⟨(.cons .str (.cons .str .nil)),(V.ci .nil),fun(x:ByteArray×ByteArray)=>Wq x.1 x.2,[],[(false,1),(false,1)],[(false,1)],[false],[]⟩
noncomputable abbrev Wq.E :V.Env:=V.mkE V.tys [] [] [] [] [] []
theorem Wq.eq (x0:ByteArray)(x1:ByteArray):V.evBody Wq.E Wq.con Tryz.f108 ((x0,x1):ByteArray×ByteArray)=Wq x0 x1:=by kernel_rfl
theorem Wq.ok :V.Valid Tryz.prog 108 Wq.con:=
 V.fo V.tab_nil Tryz.func108 (by kernel_rfl) (fun x y h=>(show V.evBody Wq.E Wq.con Tryz.f108 x=_ from Wq.eq x.1 x.2).trans (V.cfl (by kernel_rfl) h))
noncomputable abbrev W2.con :V.Con:=⟨V.eEntry,V.eEntry,fun(x:ByteArray×Int×Int×List ByteArray)=>W2 x,[],[(true,4)],[(true,4)],[false,false,false,true],[]⟩
noncomputable abbrev W2.E :V.Env:=V.mkE V.tys [(131,Ww.con)] [] [(1,9)] [] [] []
theorem W2.eq (x0:Z4):V.evBody W2.E W2.con Tryz.f79 ((x0.1,x0.2.1,x0.2.2.1,x0.2.2.2):ByteArray×Int×Int×List ByteArray)=W2 x0:=by kernel_rfl
theorem W2.ok :V.Valid Tryz.prog 79 W2.con:=
 V.fo (V.tab_cons Ww.ok V.tab_nil) Tryz.func79 (by kernel_rfl) (fun x y h=>(show V.evBody W2.E W2.con Tryz.f79 x=_ from W2.eq x).trans (V.cfl (by kernel_rfl) h))
noncomputable abbrev Yj.con :V.Con:=⟨(V.ci (V.ci (V.ci .nil))),(.cons .bool .nil),fun(x:Int×Int×Int)=>Yj x.1 x.2.1 x.2.2,[],[(false,1),(false,1),(false,1)],[(false,1)],[false],[]⟩
noncomputable abbrev Yj.E :V.Env:=V.mkE V.tys [] [] [] [] [] []
theorem Yj.eq (x0:Int)(x1:Int)(x2:Int):V.evBody Yj.E Yj.con Tryz.f103 ((x0,x1,x2):Int×Int×Int)=Yj x0 x1 x2:=by kernel_rfl
theorem Yj.ok :V.Valid Tryz.prog 103 Yj.con:=
 V.fo V.tab_nil Tryz.func103 (by kernel_rfl) (fun x y h=>(show V.evBody Yj.E Yj.con Tryz.f103 x=_ from Yj.eq x.1 x.2.1 x.2.2).trans (V.cfl (by kernel_rfl) h))
noncomputable abbrev ZH.con :V.Con:=⟨(.cons .str .nil),(.cons .bool .nil),fun(x:ByteArray)=>ZH x,[],[(false,1)],[(false,1)],[false],[]⟩
noncomputable abbrev ZH.E :V.Env:=V.mkE V.tys [(103,Yj.con)] [(7,[0],[]),(8,[0,3],[])] [] [] [] []
noncomputable abbrev ZH.kt (x0:ByteArray):V.Kt Bool:=V.ktOf ZH.E ZH.con Tryz.f162 ((x0):ByteArray)
noncomputable abbrev ZH.s8 (x0:ByteArray)(v8_1:Int):V.St:=⟨[(0, .v false [.val (.str x0)]),(3, .v false [.vi (v8_1)])],[]⟩
noncomputable abbrev ZH.s7 (x0:ByteArray):V.St:=⟨[(0, .v false [.val (.str x0)])],[]⟩
theorem ZH.r8 (x0:ByteArray)(R:V.St→Option Bool)(v8_1:Int):V.loopF ZH.E Tryz.f162.ntmps [1,1,0,1,0] [] (V.codeOf Tryz.f162) (ZH.kt x0) R (ZH.s8 x0 v8_1)=ZH.g8 x0 (fun v8_1=>R (ZH.s8 x0 v8_1)) v8_1:=by kernel_rfl
theorem ZH.e8 (x0:ByteArray):∀(n:Nat) (v8_1:Int),V.loopN (V.loopF ZH.E Tryz.f162.ntmps [1,1,0,1,0] [] (V.codeOf Tryz.f162) (ZH.kt x0)) n (ZH.s8 x0 v8_1)=ZH.l8 x0 n v8_1:=by
 intro n
 induction n with
 |zero=>intros;rw[V.loopN_z];rfl
 |succ n ih=>
  intro v8_1
  rw[V.loopN_s,ZH.r8]
  simp only[ih]
  first|exact(ZH.u8 ..).symm|rfl
theorem ZH.r7 (x0:ByteArray):V.joinF ZH.E Tryz.f162.ntmps [1] [] (V.codeOf Tryz.f162) (ZH.kt x0) (ZH.s7 x0)=ZH.g7 x0 (fun v8_1=>V.loopN (V.loopF ZH.E Tryz.f162.ntmps [1,1,0,1,0] [] (V.codeOf Tryz.f162) (ZH.kt x0)) V.KK (ZH.s8 x0 v8_1)):=by kernel_rfl
theorem ZH.e7 (x0:ByteArray):V.jn (V.joinF ZH.E Tryz.f162.ntmps [1] [] (V.codeOf Tryz.f162) (ZH.kt x0)) (ZH.s7 x0)=ZH.l7 x0:=by
 rw[V.jn_eq,ZH.r7]
 simp only[ZH.e8]
 rfl
theorem ZH.v (x0:ByteArray):V.evBody ZH.E ZH.con Tryz.f162 ((x0):ByteArray)=ZH.b x0 (V.jn (V.joinF ZH.E Tryz.f162.ntmps [1] [] (V.codeOf Tryz.f162) (ZH.kt x0)) (ZH.s7 x0)):=by kernel_rfl
theorem ZH.eq (x0:ByteArray):V.evBody ZH.E ZH.con Tryz.f162 ((x0):ByteArray)=ZH x0:=by
 rw[ZH.v]
 simp only[ZH.e7]
 rfl
theorem ZH.ok :V.Valid Tryz.prog 162 ZH.con:=
 V.fo (V.tab_cons Yj.ok V.tab_nil) Tryz.func162 (by kernel_rfl) (fun x y h=>(show V.evBody ZH.E ZH.con Tryz.f162 x=_ from ZH.eq x).trans (V.cfl (by kernel_rfl) h))
noncomputable abbrev Yr.con :V.Con:=⟨(.cons (.sl (.cons .str .nil)) .nil),(.cons .bool .nil),fun(x:List ByteArray)=>Yr x,[],[(false,1)],[(false,1)],[false],[]⟩
noncomputable abbrev Yr.E :V.Env:=V.mkE V.tys [(103,Yj.con),(162,ZH.con)] [(4,[0,3],[])] [] [] [] []
noncomputable abbrev Yr.kt (x0:List ByteArray):V.Kt Bool:=V.ktOf Yr.E Yr.con Tryz.f163 ((x0):List ByteArray)
noncomputable abbrev Yr.s4 (x0:List ByteArray)(v4_1:Int):V.St:=⟨[(0, .v false [.val (.sl (.cons .str .nil) x0)]),(3, .v false [.vi (v4_1)])],[]⟩
theorem Yr.r4 (x0:List ByteArray)(R:V.St→Option Bool)(v4_1:Int):V.loopF Yr.E Tryz.f163.ntmps [1,0,1,0] [] (V.codeOf Tryz.f163) (Yr.kt x0) R (Yr.s4 x0 v4_1)=Yr.g4 x0 (fun v4_1=>R (Yr.s4 x0 v4_1)) v4_1:=by kernel_rfl
theorem Yr.e4 (x0:List ByteArray):∀(n:Nat) (v4_1:Int),V.loopN (V.loopF Yr.E Tryz.f163.ntmps [1,0,1,0] [] (V.codeOf Tryz.f163) (Yr.kt x0)) n (Yr.s4 x0 v4_1)=Yr.l4 x0 n v4_1:=by
 intro n
 induction n with
 |zero=>intros;rw[V.loopN_z];rfl
 |succ n ih=>
  intro v4_1
  rw[V.loopN_s,Yr.r4]
  simp only[ih]
  first|exact(Yr.u4 ..).symm|rfl
theorem Yr.v (x0:List ByteArray):V.evBody Yr.E Yr.con Tryz.f163 ((x0):List ByteArray)=Yr.b x0 (fun v4_1=>V.loopN (V.loopF Yr.E Tryz.f163.ntmps [1,0,1,0] [] (V.codeOf Tryz.f163) (Yr.kt x0)) V.KK (Yr.s4 x0 v4_1)):=by kernel_rfl
theorem Yr.eq (x0:List ByteArray):V.evBody Yr.E Yr.con Tryz.f163 ((x0):List ByteArray)=Yr x0:=by
 rw[Yr.v]
 simp only[Yr.e4]
 rfl
theorem Yr.ok :V.Valid Tryz.prog 163 Yr.con:=
 V.fo (V.tab_cons Yj.ok (V.tab_cons ZH.ok V.tab_nil)) Tryz.func163 (by kernel_rfl) (fun x y h=>(show V.evBody Yr.E Yr.con Tryz.f163 x=_ from Yr.eq x).trans (V.cfl (by kernel_rfl) h))
noncomputable abbrev Ue.con :V.Con:=⟨V.eEntry,(.cons .bool .nil),fun(x:ByteArray×Int×Int×List ByteArray)=>Ue x,[],[(true,4)],[(false,1)],[false],[]⟩
noncomputable abbrev Ue.E :V.Env:=V.mkE V.tys [(103,Yj.con),(162,ZH.con),(163,Yr.con)] [] [] [] [] []
theorem Ue.eq (x0:Z4):V.evBody Ue.E Ue.con Tryz.f115 ((x0.1,x0.2.1,x0.2.2.1,x0.2.2.2):ByteArray×Int×Int×List ByteArray)=Ue x0:=by kernel_rfl
theorem Ue.ok :V.Valid Tryz.prog 115 Ue.con:=
 V.fo (V.tab_cons Yj.ok (V.tab_cons ZH.ok (V.tab_cons Yr.ok V.tab_nil))) Tryz.func115 (by kernel_rfl) (fun x y h=>(show V.evBody Ue.E Ue.con Tryz.f115 x=_ from Ue.eq x).trans (V.cfl (by kernel_rfl) h))
noncomputable abbrev ZU.con :V.Con:=⟨(.cons (.sl V.eEntry) .nil),(.cons .bool .nil),fun(x:List Z4)=>ZU x,[],[(false,1)],[(false,1)],[false],[]⟩
noncomputable abbrev ZU.E :V.Env:=V.mkE V.tys [(108,Wq.con),(115,Ue.con)] [(4,[0,3],[])] [(4,21)] [] [] []
noncomputable abbrev ZU.kt (x0:List Z4):V.Kt Bool:=V.ktOf ZU.E ZU.con Tryz.f67 ((x0):List Z4)
noncomputable abbrev ZU.s4 (x0:List Z4)(v4_1:Int):V.St:=⟨[(0, .v false [.val (.sl V.eEntry x0)]),(3, .v false [.vi (v4_1)])],[]⟩
theorem ZU.r4 (x0:List Z4)(R:V.St→Option Bool)(v4_1:Int):V.loopF ZU.E Tryz.f67.ntmps [1,0,1,0] [] (V.codeOf Tryz.f67) (ZU.kt x0) R (ZU.s4 x0 v4_1)=ZU.g4 x0 (fun v4_1=>R (ZU.s4 x0 v4_1)) v4_1:=by kernel_rfl
theorem ZU.e4 (x0:List Z4):∀(n:Nat) (v4_1:Int),V.loopN (V.loopF ZU.E Tryz.f67.ntmps [1,0,1,0] [] (V.codeOf Tryz.f67) (ZU.kt x0)) n (ZU.s4 x0 v4_1)=ZU.l4 x0 n v4_1:=by
 intro n
 induction n with
 |zero=>intros;rw[V.loopN_z];rfl
 |succ n ih=>
  intro v4_1
  rw[V.loopN_s,ZU.r4]
  simp only[ih]
  first|exact(ZU.u4 ..).symm|rfl
theorem ZU.v (x0:List Z4):V.evBody ZU.E ZU.con Tryz.f67 ((x0):List Z4)=ZU.b x0 (fun v4_1=>V.loopN (V.loopF ZU.E Tryz.f67.ntmps [1,0,1,0] [] (V.codeOf Tryz.f67) (ZU.kt x0)) V.KK (ZU.s4 x0 v4_1)):=by kernel_rfl
theorem ZU.eq (x0:List Z4):V.evBody ZU.E ZU.con Tryz.f67 ((x0):List Z4)=ZU x0:=by
 rw[ZU.v]
 simp only[ZU.e4]
 rfl
theorem ZU.ok :V.Valid Tryz.prog 67 ZU.con:=
 V.fo (V.tab_cons Wq.ok (V.tab_cons Ue.ok V.tab_nil)) Tryz.func67 (by kernel_rfl) (fun x y h=>(show V.evBody ZU.E ZU.con Tryz.f67 x=_ from ZU.eq x).trans (V.cfl (by kernel_rfl) h))
noncomputable abbrev Y0.con :V.Con:=⟨(.cons (.sl V.eEntry) .nil),(.cons (.sl V.eEntry) .nil),fun(x:List Z4)=>Y0 x,[],[(false,1)],[(false,1)],[true],[]⟩
noncomputable abbrev Y0.E :V.Env:=V.mkE V.tys [(79,W2.con)] [(6,[0,3,4],[(64000038400192,V.eEntry,true)])] [] [] [] []
noncomputable abbrev Y0.kt (x0:List Z4):V.Kt (List Z4):=V.ktOf Y0.E Y0.con Tryz.f40 ((x0):List Z4)
noncomputable abbrev Y0.s6 (x0:List Z4)(v6_1:Int)(v6_2:List Z4):V.St:=⟨[(0, .v false [.val (.sl V.eEntry x0)]),(3, .v false [.ref 64000038400192]),(4, .v false [.vi (v6_1)])],[(64000038400192, .row V.eEntry true v6_2)]⟩
theorem Y0.r6 (x0:List Z4)(R:V.St→Option (List Z4))(v6_1:Int)(v6_2:List Z4):V.loopF Y0.E Tryz.f40.ntmps [1,1,0,1,0] [] (V.codeOf Tryz.f40) (Y0.kt x0) R (Y0.s6 x0 v6_1 v6_2)=Y0.g6 x0 (fun v6_1 v6_2=>R (Y0.s6 x0 v6_1 v6_2)) v6_1 v6_2:=by kernel_rfl
theorem Y0.e6 (x0:List Z4):∀(n:Nat) (v6_1:Int) (v6_2:List Z4),V.loopN (V.loopF Y0.E Tryz.f40.ntmps [1,1,0,1,0] [] (V.codeOf Tryz.f40) (Y0.kt x0)) n (Y0.s6 x0 v6_1 v6_2)=Y0.l6 x0 n v6_1 v6_2:=by
 intro n
 induction n with
 |zero=>intros;rw[V.loopN_z];rfl
 |succ n ih=>
  intro v6_1 v6_2
  rw[V.loopN_s,Y0.r6]
  simp only[ih]
  first|exact(Y0.u6 ..).symm|rfl
theorem Y0.v (x0:List Z4):V.evBody Y0.E Y0.con Tryz.f40 ((x0):List Z4)=Y0.b x0 (fun v6_1 v6_2=>V.loopN (V.loopF Y0.E Tryz.f40.ntmps [1,1,0,1,0] [] (V.codeOf Tryz.f40) (Y0.kt x0)) V.KK (Y0.s6 x0 v6_1 v6_2)):=by kernel_rfl
theorem Y0.eq (x0:List Z4):V.evBody Y0.E Y0.con Tryz.f40 ((x0):List Z4)=Y0 x0:=by
 rw[Y0.v]
 simp only[Y0.e6]
 rfl
theorem Y0.ok :V.Valid Tryz.prog 40 Y0.con:=
 V.fo (V.tab_cons W2.ok V.tab_nil) Tryz.func40 (by kernel_rfl) (fun x y h=>(show V.evBody Y0.E Y0.con Tryz.f40 x=_ from Y0.eq x).trans (V.cfl (by kernel_rfl) h))
noncomputable abbrev Zq.con :V.Con:=⟨(.cons (.sl V.eEntry) (.cons .str (V.ci (V.ci (.cons (.sl (.cons .str .nil)) .nil))))),(.cons (.sl V.eEntry) (.cons .bool .nil)),fun(x:List Z4×ByteArray×Int×Int×List ByteArray)=>Zq x.1 x.2,[],[(false,1),(true,4)],[(false,1),(false,1)],[true,false],[]⟩
noncomputable abbrev Zq.E :V.Env:=V.mkE V.tys [(40,Y0.con),(67,ZU.con),(79,W2.con),(108,Wq.con)] [(8,[0,3,6,7,8],[(64000051200384,V.eEntry,true)]),(17,[0,3,6,7,8,9,30],[]),(21,[0,3,6,7,8,9],[]),(29,[0,6],[]),(31,[0,6,60],[])] [(6,7)] [] [] []
noncomputable abbrev Zq.kt (x0:List Z4)(x1:Z4):V.Kt (List Z4×Bool):=V.ktOf Zq.E Zq.con Tryz.f63 ((x0,x1.1,x1.2.1,x1.2.2.1,x1.2.2.2):List Z4×ByteArray×Int×Int×List ByteArray)
noncomputable abbrev Zq.s21 (x0:List Z4)(x1:Z4)(v8_2:Int)(y1:Int)(v21_1:Bool)(v21_8:List Z4):V.St:=⟨[(0, .v false [.val (.sl V.eEntry x0)]),(3, .v false [.ptr 64000 0]),(6, .v false [.ref 64000134400384]),(7, .v false [.val (.bool v21_1)]),(8, .v false [.vi (v8_2)]),(9, .v false [.vi (y1)])],[(64000, .box [.val (.str x1.1), .vi (x1.2.1), .vi (x1.2.2.1), .val (.sl (.cons .str .nil) x1.2.2.2)]),(64000134400384, .row V.eEntry true v21_8)]⟩
noncomputable abbrev Zq.s17 (x0:List Z4)(x1:Z4)(v8_1:Bool)(v8_2:Int)(v8_7:List Z4)(y1:Int)(v17_4:Bool):V.St:=⟨[(0, .v false [.val (.sl V.eEntry x0)]),(3, .v false [.ptr 64000 0]),(6, .v false [.ref 64000108800384]),(7, .v false [.val (.bool v8_1)]),(8, .v false [.vi (v8_2)]),(9, .v false [.vi (y1)]),(30, .v false [.val (.bool v17_4)])],[(64000, .box [.val (.str x1.1), .vi (x1.2.1), .vi (x1.2.2.1), .val (.sl (.cons .str .nil) x1.2.2.2)]),(64000108800384, .row V.eEntry true v8_7)]⟩
noncomputable abbrev Zq.s31 (x0:List Z4)(v29_1:List Z4)(v31_1:Bool):V.St:=⟨[(0, .v false [.val (.sl V.eEntry x0)]),(6, .v false [.ref 64000198400384]),(60, .v false [.val (.bool v31_1)])],[(64000198400384, .row V.eEntry true v29_1)]⟩
noncomputable abbrev Zq.s29 (x0:List Z4)(v29_1:List Z4):V.St:=⟨[(0, .v false [.val (.sl V.eEntry x0)]),(6, .v false [.ref 64000185600384])],[(64000185600384, .row V.eEntry true v29_1)]⟩
noncomputable abbrev Zq.s8 (x0:List Z4)(x1:Z4)(v8_1:Bool)(v8_2:Int)(v8_7:List Z4):V.St:=⟨[(0, .v false [.val (.sl V.eEntry x0)]),(3, .v false [.ptr 64000 0]),(6, .v false [.ref 64000051200384]),(7, .v false [.val (.bool v8_1)]),(8, .v false [.vi (v8_2)])],[(64000, .box [.val (.str x1.1), .vi (x1.2.1), .vi (x1.2.2.1), .val (.sl (.cons .str .nil) x1.2.2.2)]),(64000051200384, .row V.eEntry true v8_7)]⟩
theorem Zq.r21 (x0:List Z4)(x1:Z4)(v8_2:Int)(y1:Int)(R8:V.St→Option (List Z4×Bool))(v21_1:Bool)(v21_8:List Z4):V.joinF Zq.E Tryz.f63.ntmps [1,1,1,0,1,0,0,1,0,0,1] [R8] (V.codeOf Tryz.f63) (Zq.kt x0 x1) (Zq.s21 x0 x1 v8_2 y1 v21_1 v21_8)=Zq.g21 x0 x1 v8_2 y1 (fun v8_1 v8_2 v8_7=>R8 (Zq.s8 x0 x1 v8_1 v8_2 v8_7)) v21_1 v21_8:=by kernel_rfl
theorem Zq.e21 (x0:List Z4)(x1:Z4)(v8_2:Int)(y1:Int)(R8:V.St→Option (List Z4×Bool))(v21_1:Bool)(v21_8:List Z4):V.jn (V.joinF Zq.E Tryz.f63.ntmps [1,1,1,0,1,0,0,1,0,0,1] [R8] (V.codeOf Tryz.f63) (Zq.kt x0 x1)) (Zq.s21 x0 x1 v8_2 y1 v21_1 v21_8)=Zq.l21 x0 x1 v8_2 y1 (fun v8_1 v8_2 v8_7=>R8 (Zq.s8 x0 x1 v8_1 v8_2 v8_7)) v21_1 v21_8:=by
 rw[V.jn_eq,Zq.r21]
 rfl
theorem Zq.r17 (x0:List Z4)(x1:Z4)(v8_1:Bool)(v8_2:Int)(v8_7:List Z4)(y1:Int)(R8:V.St→Option (List Z4×Bool))(v17_4:Bool):V.joinF Zq.E Tryz.f63.ntmps [1,1,1,0,1,0,0,1,0,0,1,0] [R8] (V.codeOf Tryz.f63) (Zq.kt x0 x1) (Zq.s17 x0 x1 v8_1 v8_2 v8_7 y1 v17_4)=Zq.g17 x0 x1 v8_1 v8_2 v8_7 y1 (fun v8_1 v8_2 v8_7=>R8 (Zq.s8 x0 x1 v8_1 v8_2 v8_7)) (fun y1 v21_1 v21_8=>V.jn (V.joinF Zq.E Tryz.f63.ntmps [1,1,1,0,1,0,0,1,0,0,1] [R8] (V.codeOf Tryz.f63) (Zq.kt x0 x1)) (Zq.s21 x0 x1 v8_2 y1 v21_1 v21_8)) v17_4:=by kernel_rfl
theorem Zq.e17 (x0:List Z4)(x1:Z4)(v8_1:Bool)(v8_2:Int)(v8_7:List Z4)(y1:Int)(R8:V.St→Option (List Z4×Bool))(v17_4:Bool):V.jn (V.joinF Zq.E Tryz.f63.ntmps [1,1,1,0,1,0,0,1,0,0,1,0] [R8] (V.codeOf Tryz.f63) (Zq.kt x0 x1)) (Zq.s17 x0 x1 v8_1 v8_2 v8_7 y1 v17_4)=Zq.l17 x0 x1 v8_1 v8_2 v8_7 y1 (fun v8_1 v8_2 v8_7=>R8 (Zq.s8 x0 x1 v8_1 v8_2 v8_7)) v17_4:=by
 rw[V.jn_eq,Zq.r17]
 simp only[Zq.e21]
 rfl
theorem Zq.r31 (x0:List Z4)(x1:Z4)(v29_1:List Z4)(v31_1:Bool):V.joinF Zq.E Tryz.f63.ntmps [1,1,1,1,1,0] [] (V.codeOf Tryz.f63) (Zq.kt x0 x1) (Zq.s31 x0 v29_1 v31_1)=Zq.g31 x0 v29_1 v31_1:=by kernel_rfl
theorem Zq.e31 (x0:List Z4)(x1:Z4)(v29_1:List Z4)(v31_1:Bool):V.jn (V.joinF Zq.E Tryz.f63.ntmps [1,1,1,1,1,0] [] (V.codeOf Tryz.f63) (Zq.kt x0 x1)) (Zq.s31 x0 v29_1 v31_1)=Zq.l31 x0 v29_1 v31_1:=by
 rw[V.jn_eq,Zq.r31]
 rfl
theorem Zq.r29 (x0:List Z4)(x1:Z4)(v29_1:List Z4):V.joinF Zq.E Tryz.f63.ntmps [1,1,1,1] [] (V.codeOf Tryz.f63) (Zq.kt x0 x1) (Zq.s29 x0 v29_1)=Zq.g29 x0 (fun v31_1=>V.jn (V.joinF Zq.E Tryz.f63.ntmps [1,1,1,1,1,0] [] (V.codeOf Tryz.f63) (Zq.kt x0 x1)) (Zq.s31 x0 v29_1 v31_1)) v29_1:=by kernel_rfl
theorem Zq.e29 (x0:List Z4)(x1:Z4)(v29_1:List Z4):V.jn (V.joinF Zq.E Tryz.f63.ntmps [1,1,1,1] [] (V.codeOf Tryz.f63) (Zq.kt x0 x1)) (Zq.s29 x0 v29_1)=Zq.l29 x0 v29_1:=by
 rw[V.jn_eq,Zq.r29]
 simp only[Zq.e31]
 rfl
theorem Zq.r8 (x0:List Z4)(x1:Z4)(R:V.St→Option (List Z4×Bool))(v8_1:Bool)(v8_2:Int)(v8_7:List Z4):V.loopF Zq.E Tryz.f63.ntmps [1,1,1,0,1,0] [] (V.codeOf Tryz.f63) (Zq.kt x0 x1) R (Zq.s8 x0 x1 v8_1 v8_2 v8_7)=Zq.g8 x0 x1 (fun v8_1 v8_2 v8_7=>R (Zq.s8 x0 x1 v8_1 v8_2 v8_7)) (fun y1 v17_4=>V.jn (V.joinF Zq.E Tryz.f63.ntmps [1,1,1,0,1,0,0,1,0,0,1,0] [R] (V.codeOf Tryz.f63) (Zq.kt x0 x1)) (Zq.s17 x0 x1 v8_1 v8_2 v8_7 y1 v17_4)) (fun v29_1=>V.jn (V.joinF Zq.E Tryz.f63.ntmps [1,1,1,1] [] (V.codeOf Tryz.f63) (Zq.kt x0 x1)) (Zq.s29 x0 v29_1)) v8_1 v8_2 v8_7:=by kernel_rfl
theorem Zq.e8 (x0:List Z4)(x1:Z4):∀(n:Nat) (v8_1:Bool) (v8_2:Int) (v8_7:List Z4),V.loopN (V.loopF Zq.E Tryz.f63.ntmps [1,1,1,0,1,0] [] (V.codeOf Tryz.f63) (Zq.kt x0 x1)) n (Zq.s8 x0 x1 v8_1 v8_2 v8_7)=Zq.l8 x0 x1 n v8_1 v8_2 v8_7:=by
 intro n
 induction n with
 |zero=>intros;rw[V.loopN_z];rfl
 |succ n ih=>
  intro v8_1 v8_2 v8_7
  rw[V.loopN_s,Zq.r8]
  simp only[Zq.e17,Zq.e29,ih]
  first|exact(Zq.u8 ..).symm|rfl
theorem Zq.v (x0:List Z4)(x1:Z4):V.evBody Zq.E Zq.con Tryz.f63 ((x0,x1.1,x1.2.1,x1.2.2.1,x1.2.2.2):List Z4×ByteArray×Int×Int×List ByteArray)=Zq.b x0 x1 (fun v8_1 v8_2 v8_7=>V.loopN (V.loopF Zq.E Tryz.f63.ntmps [1,1,1,0,1,0] [] (V.codeOf Tryz.f63) (Zq.kt x0 x1)) V.KK (Zq.s8 x0 x1 v8_1 v8_2 v8_7)):=by kernel_rfl
theorem Zq.eq (x0:List Z4)(x1:Z4):V.evBody Zq.E Zq.con Tryz.f63 ((x0,x1.1,x1.2.1,x1.2.2.1,x1.2.2.2):List Z4×ByteArray×Int×Int×List ByteArray)=Zq x0 x1:=by
 rw[Zq.v]
 simp only[Zq.e8]
 rfl
theorem Zq.ok :V.Valid Tryz.prog 63 Zq.con:=
 V.fo (V.tab_cons Y0.ok (V.tab_cons ZU.ok (V.tab_cons W2.ok (V.tab_cons Wq.ok V.tab_nil)))) Tryz.func63 (by kernel_rfl) (fun x y h=>(show V.evBody Zq.E Zq.con Tryz.f63 x=_ from Zq.eq x.1 x.2).trans (V.cfl (by kernel_rfl) h))
noncomputable abbrev ZK.con :V.Con:=⟨(.cons (.ptr (.cons (.sl (.cons (.int .u8) .nil)) (V.ci (V.ci .nil)))) .nil),(.cons (.ptr (.cons (.sl (.cons (.int .u8) .nil)) (V.ci (V.ci .nil)))) (.cons (.sl V.eEntry) .nil)),fun(x:(Z3))=>ZK x,[(0,false)],[(false,1)],[(false,1)],[true],[]⟩
noncomputable abbrev ZK.E :V.Env:=V.mkE V.tys [(31,Zd.con),(63,Zq.con),(65,Wx.con)] [(6,[0,3,4],[(64000038400192,V.eEntry,true)])] [] [] [] []
noncomputable abbrev ZK.kt (x0:(Z3)):V.Kt ((Z3)×List Z4):=V.ktOf ZK.E ZK.con Tryz.f29 ((x0):(Z3))
noncomputable abbrev ZK.s6 (x0:(Z3))(v6_0:Int)(v6_2:Int)(v6_3:Int)(v6_4:List Z4):V.St:=⟨[(0, .v false [.ptr 0 0]),(3, .v false [.ref 64000038400192]),(4, .v false [.vi (v6_0)])],[(0, .box [.val (.sl (.cons (.int .u8) .nil) x0.1), .vi (v6_2), .vi (v6_3)]),(64000038400192, .row V.eEntry true v6_4)]⟩
theorem ZK.r6 (x0:(Z3))(R:V.St→Option ((Z3)×List Z4))(v6_0:Int)(v6_2:Int)(v6_3:Int)(v6_4:List Z4):V.loopF ZK.E Tryz.f29.ntmps [1,1,0,1,0] [] (V.codeOf Tryz.f29) (ZK.kt x0) R (ZK.s6 x0 v6_0 v6_2 v6_3 v6_4)=ZK.g6 x0 (fun v6_0 v6_2 v6_3 v6_4=>R (ZK.s6 x0 v6_0 v6_2 v6_3 v6_4)) v6_0 v6_2 v6_3 v6_4:=by kernel_rfl
theorem ZK.e6 (x0:(Z3)):∀(n:Nat) (v6_0:Int) (v6_2:Int) (v6_3:Int) (v6_4:List Z4),V.loopN (V.loopF ZK.E Tryz.f29.ntmps [1,1,0,1,0] [] (V.codeOf Tryz.f29) (ZK.kt x0)) n (ZK.s6 x0 v6_0 v6_2 v6_3 v6_4)=ZK.l6 x0 n v6_0 v6_2 v6_3 v6_4:=by
 intro n
 induction n with
 |zero=>intros;rw[V.loopN_z];rfl
 |succ n ih=>
  intro v6_0 v6_2 v6_3 v6_4
  rw[V.loopN_s,ZK.r6]
  simp only[ih]
  first|exact(ZK.u6 ..).symm|rfl
theorem ZK.v (x0:(Z3)):V.evBody ZK.E ZK.con Tryz.f29 ((x0):(Z3))=ZK.b x0 (fun v6_0 v6_2 v6_3 v6_4=>V.loopN (V.loopF ZK.E Tryz.f29.ntmps [1,1,0,1,0] [] (V.codeOf Tryz.f29) (ZK.kt x0)) V.KK (ZK.s6 x0 v6_0 v6_2 v6_3 v6_4)):=by kernel_rfl
theorem ZK.eq (x0:(Z3)):V.evBody ZK.E ZK.con Tryz.f29 ((x0):(Z3))=ZK x0:=by
 rw[ZK.v]
 simp only[ZK.e6]
 rfl
theorem ZK.ok :V.Valid Tryz.prog 29 ZK.con:=
 V.fo (V.tab_cons Zd.ok (V.tab_cons Zq.ok (V.tab_cons Wx.ok V.tab_nil))) Tryz.func29 (by kernel_rfl) (fun x y h=>(show V.evBody ZK.E ZK.con Tryz.f29 x=_ from ZK.eq x).trans (V.cfl (by kernel_rfl) h))
noncomputable abbrev XS.con :V.Con:=⟨(.cons (.sl (V.ci .nil)) (V.ci .nil)),(.cons (.sl (V.ci .nil)) .nil),fun(x:List Int×Int)=>XS x,[],[(true,2)],[(false,1)],[true],[]⟩
noncomputable abbrev XS.E :V.Env:=V.mkE V.tys [] [] [] [] [] []
theorem XS.eq (x0:Zc):V.evBody XS.E XS.con Tryz.f171 ((x0.1,x0.2):List Int×Int)=XS x0:=by kernel_rfl
theorem XS.ok :V.Valid Tryz.prog 171 XS.con:=
 V.fo V.tab_nil Tryz.func171 (by kernel_rfl) (fun x y h=>(show V.evBody XS.E XS.con Tryz.f171 x=_ from XS.eq x).trans (V.cfl (by kernel_rfl) h))
noncomputable abbrev Uh.con :V.Con:=⟨(V.ci (V.ci .nil)),(V.ci .nil),fun(x:Int×Int)=>Uh x.1 x.2,[],[(false,1),(false,1)],[(false,1)],[false],[]⟩
noncomputable abbrev Uh.E :V.Env:=V.mkE V.tys [(103,Yj.con)] [] [] [] [] []
theorem Uh.eq (x0:Int)(x1:Int):V.evBody Uh.E Uh.con Tryz.f186 ((x0,x1):Int×Int)=Uh x0 x1:=by kernel_rfl
theorem Uh.ok :V.Valid Tryz.prog 186 Uh.con:=
 V.fo (V.tab_cons Yj.ok V.tab_nil) Tryz.func186 (by kernel_rfl) (fun x y h=>(show V.evBody Uh.E Uh.con Tryz.f186 x=_ from Uh.eq x.1 x.2).trans (V.cfl (by kernel_rfl) h))
noncomputable abbrev ZM.con :V.Con:=⟨(.cons (.sl (V.ci .nil)) .nil),(V.ci .nil),fun(x:List Int)=>ZM x,[],[(false,1)],[(false,1)],[false],[]⟩
noncomputable abbrev ZM.E :V.Env:=V.mkE V.tys [(186,Uh.con)] [(6,[0,3,4],[])] [] [] [] []
noncomputable abbrev ZM.kt (x0:List Int):V.Kt Int:=V.ktOf ZM.E ZM.con Tryz.f161 ((x0):List Int)
noncomputable abbrev ZM.s6 (x0:List Int)(v6_1:Int)(v6_2:Int):V.St:=⟨[(0, .v false [.val (.sl (V.ci .nil) x0)]),(3, .v false [.vi (v6_1)]),(4, .v false [.vi (v6_2)])],[]⟩
theorem ZM.r6 (x0:List Int)(R:V.St→Option Int)(v6_1:Int)(v6_2:Int):V.loopF ZM.E Tryz.f161.ntmps [1,1,0,1,0] [] (V.codeOf Tryz.f161) (ZM.kt x0) R (ZM.s6 x0 v6_1 v6_2)=ZM.g6 x0 (fun v6_1 v6_2=>R (ZM.s6 x0 v6_1 v6_2)) v6_1 v6_2:=by kernel_rfl
theorem ZM.e6 (x0:List Int):∀(n:Nat) (v6_1:Int) (v6_2:Int),V.loopN (V.loopF ZM.E Tryz.f161.ntmps [1,1,0,1,0] [] (V.codeOf Tryz.f161) (ZM.kt x0)) n (ZM.s6 x0 v6_1 v6_2)=ZM.l6 x0 n v6_1 v6_2:=by
 intro n
 induction n with
 |zero=>intros;rw[V.loopN_z];rfl
 |succ n ih=>
  intro v6_1 v6_2
  rw[V.loopN_s,ZM.r6]
  simp only[ih]
  first|exact(ZM.u6 ..).symm|rfl
theorem ZM.v (x0:List Int):V.evBody ZM.E ZM.con Tryz.f161 ((x0):List Int)=ZM.b x0 (fun v6_1 v6_2=>V.loopN (V.loopF ZM.E Tryz.f161.ntmps [1,1,0,1,0] [] (V.codeOf Tryz.f161) (ZM.kt x0)) V.KK (ZM.s6 x0 v6_1 v6_2)):=by kernel_rfl
theorem ZM.eq (x0:List Int):V.evBody ZM.E ZM.con Tryz.f161 ((x0):List Int)=ZM x0:=by
 rw[ZM.v]
 simp only[ZM.e6]
 rfl
theorem ZM.ok :V.Valid Tryz.prog 161 ZM.con:=
 V.fo (V.tab_cons Uh.ok V.tab_nil) Tryz.func161 (by kernel_rfl) (fun x y h=>(show V.evBody ZM.E ZM.con Tryz.f161 x=_ from ZM.eq x).trans (V.cfl (by kernel_rfl) h))
noncomputable abbrev Wt.con :V.Con:=⟨(.cons (.sl (V.ci .nil)) (V.ci (V.ci .nil))),(V.ci .nil),fun(x:List Int×Int×Int)=>Wt (x.1,x.2.1) x.2.2,[],[(true,2),(false,1)],[(false,1)],[false],[]⟩
noncomputable abbrev Wt.E :V.Env:=V.mkE V.tys [(161,ZM.con),(171,XS.con)] [] [] [] [] []
theorem Wt.eq (x0:Zc)(x1:Int):V.evBody Wt.E Wt.con Tryz.f185 ((x0.1,x0.2,x1):List Int×Int×Int)=Wt x0 x1:=by kernel_rfl
theorem Wt.ok :V.Valid Tryz.prog 185 Wt.con:=
 V.fo (V.tab_cons ZM.ok (V.tab_cons XS.ok V.tab_nil)) Tryz.func185 (by kernel_rfl) (fun x y h=>(show V.evBody Wt.E Wt.con Tryz.f185 x=_ from Wt.eq (x.1,x.2.1) x.2.2).trans (V.cfl (by kernel_rfl) h))
noncomputable abbrev YI.con :V.Con:=⟨(.cons (.sl (.cons (.int .u8) .nil)) .nil),(.cons (.sl (V.ci .nil)) .nil),fun(x:List Int)=>YI x,[],[(false,1)],[(false,1)],[true],[]⟩
noncomputable abbrev YI.E :V.Env:=V.mkE V.tys [] [(6,[0,3,4],[])] [] [] [] []
noncomputable abbrev YI.kt (x0:List Int):V.Kt (List Int):=V.ktOf YI.E YI.con Tryz.f203 ((x0):List Int)
noncomputable abbrev YI.s6 (x0:List Int)(v6_1:Int)(v6_2:List Int):V.St:=⟨[(0, .v false [.val (.sl (.cons (.int .u8) .nil) x0)]),(3, .v false [.ref 64000038400192]),(4, .v false [.vi (v6_1)])],[(64000038400192, .row (V.ci .nil) true v6_2)]⟩
theorem YI.r6 (x0:List Int)(R:V.St→Option (List Int))(v6_1:Int)(v6_2:List Int):V.loopF YI.E Tryz.f203.ntmps [1,1,0,1,0] [] (V.codeOf Tryz.f203) (YI.kt x0) R (YI.s6 x0 v6_1 v6_2)=YI.g6 x0 (fun v6_1 v6_2=>R (YI.s6 x0 v6_1 v6_2)) v6_1 v6_2:=by kernel_rfl
theorem YI.e6 (x0:List Int):∀(n:Nat) (v6_1:Int) (v6_2:List Int),V.loopN (V.loopF YI.E Tryz.f203.ntmps [1,1,0,1,0] [] (V.codeOf Tryz.f203) (YI.kt x0)) n (YI.s6 x0 v6_1 v6_2)=YI.l6 x0 n v6_1 v6_2:=by
 intro n
 induction n with
 |zero=>intros;rw[V.loopN_z];rfl
 |succ n ih=>
  intro v6_1 v6_2
  rw[V.loopN_s,YI.r6]
  simp only[ih]
  first|exact(YI.u6 ..).symm|rfl
theorem YI.v (x0:List Int):V.evBody YI.E YI.con Tryz.f203 ((x0):List Int)=YI.b x0 (fun v6_1 v6_2=>V.loopN (V.loopF YI.E Tryz.f203.ntmps [1,1,0,1,0] [] (V.codeOf Tryz.f203) (YI.kt x0)) V.KK (YI.s6 x0 v6_1 v6_2)):=by kernel_rfl
theorem YI.eq (x0:List Int):V.evBody YI.E YI.con Tryz.f203 ((x0):List Int)=YI x0:=by
 rw[YI.v]
 simp only[YI.e6]
 rfl
theorem YI.ok :V.Valid Tryz.prog 203 YI.con:=
 V.fo V.tab_nil Tryz.func203 (by kernel_rfl) (fun x y h=>(show V.evBody YI.E YI.con Tryz.f203 x=_ from YI.eq x).trans (V.cfl (by kernel_rfl) h))
noncomputable abbrev WC.con :V.Con:=⟨(.cons .str .nil),(.cons (.sl (V.ci .nil)) .nil),fun(x:ByteArray)=>WC x,[],[(false,1)],[(false,1)],[true],[]⟩
noncomputable abbrev WC.E :V.Env:=V.mkE V.tys [(203,YI.con)] [] [] [] [] []
theorem WC.eq (x0:ByteArray):V.evBody WC.E WC.con Tryz.f198 ((x0):ByteArray)=WC x0:=by kernel_rfl
theorem WC.ok :V.Valid Tryz.prog 198 WC.con:=
 V.fo (V.tab_cons YI.ok V.tab_nil) Tryz.func198 (by kernel_rfl) (fun x y h=>(show V.evBody WC.E WC.con Tryz.f198 x=_ from WC.eq x).trans (V.cfl (by kernel_rfl) h))
noncomputable abbrev YJ.con :V.Con:=⟨V.eEntry,(.cons (.sl (V.ci .nil)) .nil),fun(x:ByteArray×Int×Int×List ByteArray)=>YJ x,[],[(true,4)],[(false,1)],[true],[]⟩
noncomputable abbrev YJ.E :V.Env:=V.mkE V.tys [(198,WC.con)] [(6,[1,3,4],[])] [(1,11)] [] [] []
noncomputable abbrev YJ.kt (x0:Z4):V.Kt (List Int):=V.ktOf YJ.E YJ.con Tryz.f188 ((x0.1,x0.2.1,x0.2.2.1,x0.2.2.2):ByteArray×Int×Int×List ByteArray)
noncomputable abbrev YJ.s6 (x0:Z4)(v6_0:Int)(v6_5:List Int):V.St:=⟨[(1, .v false [.ptr 64000 0]),(3, .v false [.ref 64000038400192]),(4, .v false [.vi (v6_0)])],[(64000, .box [.val (.str x0.1), .vi (x0.2.1), .vi (x0.2.2.1), .val (.sl (.cons .str .nil) x0.2.2.2)]),(64000038400192, .row (V.ci .nil) true v6_5)]⟩
theorem YJ.r6 (x0:Z4)(R:V.St→Option (List Int))(v6_0:Int)(v6_5:List Int):V.loopF YJ.E Tryz.f188.ntmps [1,1,0,1,0] [] (V.codeOf Tryz.f188) (YJ.kt x0) R (YJ.s6 x0 v6_0 v6_5)=YJ.g6 x0 (fun v6_0 v6_5=>R (YJ.s6 x0 v6_0 v6_5)) v6_0 v6_5:=by kernel_rfl
theorem YJ.e6 (x0:Z4):∀(n:Nat) (v6_0:Int) (v6_5:List Int),V.loopN (V.loopF YJ.E Tryz.f188.ntmps [1,1,0,1,0] [] (V.codeOf Tryz.f188) (YJ.kt x0)) n (YJ.s6 x0 v6_0 v6_5)=YJ.l6 x0 n v6_0 v6_5:=by
 intro n
 induction n with
 |zero=>intros;rw[V.loopN_z];rfl
 |succ n ih=>
  intro v6_0 v6_5
  rw[V.loopN_s,YJ.r6]
  simp only[ih]
  first|exact(YJ.u6 ..).symm|rfl
theorem YJ.v (x0:Z4):V.evBody YJ.E YJ.con Tryz.f188 ((x0.1,x0.2.1,x0.2.2.1,x0.2.2.2):ByteArray×Int×Int×List ByteArray)=YJ.b x0 (fun v6_0 v6_5=>V.loopN (V.loopF YJ.E Tryz.f188.ntmps [1,1,0,1,0] [] (V.codeOf Tryz.f188) (YJ.kt x0)) V.KK (YJ.s6 x0 v6_0 v6_5)):=by kernel_rfl
theorem YJ.eq (x0:Z4):V.evBody YJ.E YJ.con Tryz.f188 ((x0.1,x0.2.1,x0.2.2.1,x0.2.2.2):ByteArray×Int×Int×List ByteArray)=YJ x0:=by
 rw[YJ.v]
 simp only[YJ.e6]
 rfl
theorem YJ.ok :V.Valid Tryz.prog 188 YJ.con:=
 V.fo (V.tab_cons WC.ok V.tab_nil) Tryz.func188 (by kernel_rfl) (fun x y h=>(show V.evBody YJ.E YJ.con Tryz.f188 x=_ from YJ.eq x).trans (V.cfl (by kernel_rfl) h))
noncomputable abbrev WL.con :V.Con:=⟨V.eEntry,(V.ci .nil),fun(x:ByteArray×Int×Int×List ByteArray)=>WL x,[],[(true,4)],[(false,1)],[false],[]⟩
noncomputable abbrev WL.E :V.Env:=V.mkE V.tys [(161,ZM.con),(188,YJ.con)] [] [] [] [] []
theorem WL.eq (x0:Z4):V.evBody WL.E WL.con Tryz.f165 ((x0.1,x0.2.1,x0.2.2.1,x0.2.2.2):ByteArray×Int×Int×List ByteArray)=WL x0:=by kernel_rfl
theorem WL.ok :V.Valid Tryz.prog 165 WL.con:=
 V.fo (V.tab_cons ZM.ok (V.tab_cons YJ.ok V.tab_nil)) Tryz.func165 (by kernel_rfl) (fun x y h=>(show V.evBody WL.E WL.con Tryz.f165 x=_ from WL.eq x).trans (V.cfl (by kernel_rfl) h))
noncomputable abbrev YK.con :V.Con:=⟨(.cons (.sl V.eEntry) .nil),(.cons (.sl (V.ci .nil)) .nil),fun(x:List Z4)=>YK x,[],[(false,1)],[(false,1)],[true],[]⟩
noncomputable abbrev YK.E :V.Env:=V.mkE V.tys [(165,WL.con)] [(6,[0,3,4],[(64000038400192,(V.ci .nil),true)])] [] [] [] []
noncomputable abbrev YK.kt (x0:List Z4):V.Kt (List Int):=V.ktOf YK.E YK.con Tryz.f118 ((x0):List Z4)
noncomputable abbrev YK.s6 (x0:List Z4)(v6_1:Int)(v6_2:List Int):V.St:=⟨[(0, .v false [.val (.sl V.eEntry x0)]),(3, .v false [.ref 64000038400192]),(4, .v false [.vi (v6_1)])],[(64000038400192, .row (V.ci .nil) true v6_2)]⟩
theorem YK.r6 (x0:List Z4)(R:V.St→Option (List Int))(v6_1:Int)(v6_2:List Int):V.loopF YK.E Tryz.f118.ntmps [1,1,0,1,0] [] (V.codeOf Tryz.f118) (YK.kt x0) R (YK.s6 x0 v6_1 v6_2)=YK.g6 x0 (fun v6_1 v6_2=>R (YK.s6 x0 v6_1 v6_2)) v6_1 v6_2:=by kernel_rfl
theorem YK.e6 (x0:List Z4):∀(n:Nat) (v6_1:Int) (v6_2:List Int),V.loopN (V.loopF YK.E Tryz.f118.ntmps [1,1,0,1,0] [] (V.codeOf Tryz.f118) (YK.kt x0)) n (YK.s6 x0 v6_1 v6_2)=YK.l6 x0 n v6_1 v6_2:=by
 intro n
 induction n with
 |zero=>intros;rw[V.loopN_z];rfl
 |succ n ih=>
  intro v6_1 v6_2
  rw[V.loopN_s,YK.r6]
  simp only[ih]
  first|exact(YK.u6 ..).symm|rfl
theorem YK.v (x0:List Z4):V.evBody YK.E YK.con Tryz.f118 ((x0):List Z4)=YK.b x0 (fun v6_1 v6_2=>V.loopN (V.loopF YK.E Tryz.f118.ntmps [1,1,0,1,0] [] (V.codeOf Tryz.f118) (YK.kt x0)) V.KK (YK.s6 x0 v6_1 v6_2)):=by kernel_rfl
theorem YK.eq (x0:List Z4):V.evBody YK.E YK.con Tryz.f118 ((x0):List Z4)=YK x0:=by
 rw[YK.v]
 simp only[YK.e6]
 rfl
theorem YK.ok :V.Valid Tryz.prog 118 YK.con:=
 V.fo (V.tab_cons WL.ok V.tab_nil) Tryz.func118 (by kernel_rfl) (fun x y h=>(show V.evBody YK.E YK.con Tryz.f118 x=_ from YK.eq x).trans (V.cfl (by kernel_rfl) h))
noncomputable abbrev Ui.con :V.Con:=⟨(V.ci (V.ci .nil)),(V.ci .nil),fun(x:Int×Int)=>Ui x.1 x.2,[],[(false,1),(false,1)],[(false,1)],[false],[]⟩
noncomputable abbrev Ui.E :V.Env:=V.mkE V.tys [(161,ZM.con)] [] [] [] [] []
theorem Ui.eq (x0:Int)(x1:Int):V.evBody Ui.E Ui.con Tryz.f187 ((x0,x1):Int×Int)=Ui x0 x1:=by kernel_rfl
theorem Ui.ok :V.Valid Tryz.prog 187 Ui.con:=
 V.fo (V.tab_cons ZM.ok V.tab_nil) Tryz.func187 (by kernel_rfl) (fun x y h=>(show V.evBody Ui.E Ui.con Tryz.f187 x=_ from Ui.eq x.1 x.2).trans (V.cfl (by kernel_rfl) h))
noncomputable abbrev Yz.con :V.Con:=⟨(.cons (.sl (V.ci .nil)) .nil),(.cons (.sl (V.ci .nil)) .nil),fun(x:List Int)=>Yz x,[],[(false,1)],[(false,1)],[true],[]⟩
noncomputable abbrev Yz.E :V.Env:=V.mkE V.tys [(187,Ui.con)] [(6,[0,3,4],[(64000038400192,(V.ci .nil),true)])] [(6,12)] [] [] []
noncomputable abbrev Yz.kt (x0:List Int):V.Kt (List Int):=V.ktOf Yz.E Yz.con Tryz.f164 ((x0):List Int)
noncomputable abbrev Yz.s6 (x0:List Int)(v6_1:Int)(v6_2:List Int):V.St:=⟨[(0, .v false [.val (.sl (V.ci .nil) x0)]),(3, .v false [.ref 64000038400192]),(4, .v false [.vi (v6_1)])],[(64000038400192, .row (V.ci .nil) true v6_2)]⟩
theorem Yz.r6 (x0:List Int)(R:V.St→Option (List Int))(v6_1:Int)(v6_2:List Int):V.loopF Yz.E Tryz.f164.ntmps [1,1,0,1,0] [] (V.codeOf Tryz.f164) (Yz.kt x0) R (Yz.s6 x0 v6_1 v6_2)=Yz.g6 x0 (fun v6_1 v6_2=>R (Yz.s6 x0 v6_1 v6_2)) v6_1 v6_2:=by kernel_rfl
theorem Yz.e6 (x0:List Int):∀(n:Nat) (v6_1:Int) (v6_2:List Int),V.loopN (V.loopF Yz.E Tryz.f164.ntmps [1,1,0,1,0] [] (V.codeOf Tryz.f164) (Yz.kt x0)) n (Yz.s6 x0 v6_1 v6_2)=Yz.l6 x0 n v6_1 v6_2:=by
 intro n
 induction n with
 |zero=>intros;rw[V.loopN_z];rfl
 |succ n ih=>
  intro v6_1 v6_2
  rw[V.loopN_s,Yz.r6]
  simp only[ih]
  first|exact(Yz.u6 ..).symm|rfl
theorem Yz.v (x0:List Int):V.evBody Yz.E Yz.con Tryz.f164 ((x0):List Int)=Yz.b x0 (fun v6_1 v6_2=>V.loopN (V.loopF Yz.E Tryz.f164.ntmps [1,1,0,1,0] [] (V.codeOf Tryz.f164) (Yz.kt x0)) V.KK (Yz.s6 x0 v6_1 v6_2)):=by kernel_rfl
theorem Yz.eq (x0:List Int):V.evBody Yz.E Yz.con Tryz.f164 ((x0):List Int)=Yz x0:=by
 rw[Yz.v]
 simp only[Yz.e6]
 rfl
theorem Yz.ok :V.Valid Tryz.prog 164 Yz.con:=
 V.fo (V.tab_cons Ui.ok V.tab_nil) Tryz.func164 (by kernel_rfl) (fun x y h=>(show V.evBody Yz.E Yz.con Tryz.f164 x=_ from Yz.eq x).trans (V.cfl (by kernel_rfl) h))
noncomputable abbrev Yy.con :V.Con:=⟨(.cons (.sl (V.ci .nil)) .nil),(V.ci .nil),fun(x:List Int)=>Yy x,[],[(false,1)],[(false,1)],[false],[]⟩
noncomputable abbrev Yy.E :V.Env:=V.mkE V.tys [(161,ZM.con),(164,Yz.con)] [(8,[3],[(3,(V.ci .nil),false)])] [] [] [] []
noncomputable abbrev Yy.kt (x0:List Int):V.Kt Int:=V.ktOf Yy.E Yy.con Tryz.f117 ((x0):List Int)
noncomputable abbrev Yy.s8 (v8_0:List Int):V.St:=⟨[(3, .v false [.val (.sl (V.ci .nil) v8_0)])],[]⟩
theorem Yy.r8 (x0:List Int)(R:V.St→Option Int)(v8_0:List Int):V.loopF Yy.E Tryz.f117.ntmps [1,1,1,0,0] [] (V.codeOf Tryz.f117) (Yy.kt x0) R (Yy.s8 v8_0)=Yy.g8 (fun v8_0=>R (Yy.s8 v8_0)) v8_0:=by kernel_rfl
theorem Yy.e8 (x0:List Int):∀(n:Nat) (v8_0:List Int),V.loopN (V.loopF Yy.E Tryz.f117.ntmps [1,1,1,0,0] [] (V.codeOf Tryz.f117) (Yy.kt x0)) n (Yy.s8 v8_0)=Yy.l8 n v8_0:=by
 intro n
 induction n with
 |zero=>intros;rw[V.loopN_z];rfl
 |succ n ih=>
  intro v8_0
  rw[V.loopN_s,Yy.r8]
  simp only[ih]
  first|exact(Yy.u8 ..).symm|rfl
theorem Yy.v (x0:List Int):V.evBody Yy.E Yy.con Tryz.f117 ((x0):List Int)=Yy.b x0 (fun v8_0=>V.loopN (V.loopF Yy.E Tryz.f117.ntmps [1,1,1,0,0] [] (V.codeOf Tryz.f117) (Yy.kt x0)) V.KK (Yy.s8 v8_0)):=by kernel_rfl
theorem Yy.eq (x0:List Int):V.evBody Yy.E Yy.con Tryz.f117 ((x0):List Int)=Yy x0:=by
 rw[Yy.v]
 simp only[Yy.e8]
 rfl
theorem Yy.ok :V.Valid Tryz.prog 117 Yy.con:=
 V.fo (V.tab_cons ZM.ok (V.tab_cons Yz.ok V.tab_nil)) Tryz.func117 (by kernel_rfl) (fun x y h=>(show V.evBody Yy.E Yy.con Tryz.f117 x=_ from Yy.eq x).trans (V.cfl (by kernel_rfl) h))
noncomputable abbrev Uy.con :V.Con:=⟨(V.ci (V.ci .nil)),(V.ci .nil),fun(x:Int×Int)=>Uy x.1 x.2,[],[(false,1),(false,1)],[(false,1)],[false],[]⟩
noncomputable abbrev Uy.E :V.Env:=V.mkE V.tys [(161,ZM.con)] [] [] [] [] []
theorem Uy.eq (x0:Int)(x1:Int):V.evBody Uy.E Uy.con Tryz.f116 ((x0,x1):Int×Int)=Uy x0 x1:=by kernel_rfl
theorem Uy.ok :V.Valid Tryz.prog 116 Uy.con:=
 V.fo (V.tab_cons ZM.ok V.tab_nil) Tryz.func116 (by kernel_rfl) (fun x y h=>(show V.evBody Uy.E Uy.con Tryz.f116 x=_ from Uy.eq x.1 x.2).trans (V.cfl (by kernel_rfl) h))
noncomputable abbrev XP.con :V.Con:=⟨(.cons (.sl V.eEntry) .nil),(V.ci .nil),fun(x:List Z4)=>XP x,[],[(false,1)],[(false,1)],[false],[]⟩
noncomputable abbrev XP.E :V.Env:=V.mkE V.tys [(116,Uy.con),(117,Yy.con),(118,YK.con)] [] [] [] [] []
theorem XP.eq (x0:List Z4):V.evBody XP.E XP.con Tryz.f68 ((x0):List Z4)=XP x0:=by kernel_rfl
theorem XP.ok :V.Valid Tryz.prog 68 XP.con:=
 V.fo (V.tab_cons Uy.ok (V.tab_cons Yy.ok (V.tab_cons YK.ok V.tab_nil))) Tryz.func68 (by kernel_rfl) (fun x y h=>(show V.evBody XP.E XP.con Tryz.f68 x=_ from XP.eq x).trans (V.cfl (by kernel_rfl) h))
noncomputable abbrev XT.con :V.Con:=⟨(.cons (.sl (V.ci .nil)) (V.ci .nil)),(.cons (.sl (V.ci .nil)) (V.ci .nil)),fun(x:List Int×Int)=>XT x,[],[(true,2)],[(true,2)],[true,false],[]⟩
noncomputable abbrev XT.E :V.Env:=V.mkE V.tys [] [] [(1,6)] [] [] []
theorem XT.eq (x0:Zc):V.evBody XT.E XT.con Tryz.f105 ((x0.1,x0.2):List Int×Int)=XT x0:=by kernel_rfl
theorem XT.ok :V.Valid Tryz.prog 105 XT.con:=
 V.fo V.tab_nil Tryz.func105 (by kernel_rfl) (fun x y h=>(show V.evBody XT.E XT.con Tryz.f105 x=_ from XT.eq x).trans (V.cfl (by kernel_rfl) h))
noncomputable abbrev ZT.con :V.Con:=⟨(.cons (.sl (V.ci .nil)) (V.ci .nil)),(.cons .bool .nil),fun(x:List Int×Int)=>ZT x,[],[(true,2)],[(false,1)],[false],[]⟩
noncomputable abbrev ZT.E :V.Env:=V.mkE V.tys [(103,Yj.con)] [(4,[1,3],[])] [(4,22)] [] [] []
noncomputable abbrev ZT.kt (x0:Zc):V.Kt Bool:=V.ktOf ZT.E ZT.con Tryz.f159 ((x0.1,x0.2):List Int×Int)
noncomputable abbrev ZT.s4 (x0:Zc)(v4_0:Int):V.St:=⟨[(1, .v false [.ptr 64000 0]),(3, .v false [.vi (v4_0)])],[(64000, .box [.val (.sl (V.ci .nil) x0.1), .vi (x0.2)])]⟩
theorem ZT.r4 (x0:Zc)(R:V.St→Option Bool)(v4_0:Int):V.loopF ZT.E Tryz.f159.ntmps [1,0,1,0] [] (V.codeOf Tryz.f159) (ZT.kt x0) R (ZT.s4 x0 v4_0)=ZT.g4 x0 (fun v4_0=>R (ZT.s4 x0 v4_0)) v4_0:=by kernel_rfl
theorem ZT.e4 (x0:Zc):∀(n:Nat) (v4_0:Int),V.loopN (V.loopF ZT.E Tryz.f159.ntmps [1,0,1,0] [] (V.codeOf Tryz.f159) (ZT.kt x0)) n (ZT.s4 x0 v4_0)=ZT.l4 x0 n v4_0:=by
 intro n
 induction n with
 |zero=>intros;rw[V.loopN_z];rfl
 |succ n ih=>
  intro v4_0
  rw[V.loopN_s,ZT.r4]
  simp only[ih]
  first|exact(ZT.u4 ..).symm|rfl
theorem ZT.v (x0:Zc):V.evBody ZT.E ZT.con Tryz.f159 ((x0.1,x0.2):List Int×Int)=ZT.b x0 (fun v4_0=>V.loopN (V.loopF ZT.E Tryz.f159.ntmps [1,0,1,0] [] (V.codeOf Tryz.f159) (ZT.kt x0)) V.KK (ZT.s4 x0 v4_0)):=by kernel_rfl
theorem ZT.eq (x0:Zc):V.evBody ZT.E ZT.con Tryz.f159 ((x0.1,x0.2):List Int×Int)=ZT x0:=by
 rw[ZT.v]
 simp only[ZT.e4]
 rfl
theorem ZT.ok :V.Valid Tryz.prog 159 ZT.con:=
 V.fo (V.tab_cons Yj.ok V.tab_nil) Tryz.func159 (by kernel_rfl) (fun x y h=>(show V.evBody ZT.E ZT.con Tryz.f159 x=_ from ZT.eq x).trans (V.cfl (by kernel_rfl) h))
noncomputable abbrev XX.con :V.Con:=⟨(.cons (.sl (V.ci .nil)) (V.ci .nil)),(.cons .bool .nil),fun(x:List Int×Int)=>XX x,[],[(true,2)],[(false,1)],[false],[]⟩
noncomputable abbrev XX.E :V.Env:=V.mkE V.tys [] [] [] [] [] []
theorem XX.eq (x0:Zc):V.evBody XX.E XX.con Tryz.f160 ((x0.1,x0.2):List Int×Int)=XX x0:=by kernel_rfl
theorem XX.ok :V.Valid Tryz.prog 160 XX.con:=
 V.fo V.tab_nil Tryz.func160 (by kernel_rfl) (fun x y h=>(show V.evBody XX.E XX.con Tryz.f160 x=_ from XX.eq x).trans (V.cfl (by kernel_rfl) h))
noncomputable abbrev Zw.con :V.Con:=⟨V.A0,(.cons .bool .nil),fun(x:V.D0)=>Zw (V.p0_0 x),[],[(true,16)],[(false,1)],[false],[]⟩
noncomputable abbrev Zw.E :V.Env:=V.mkE V.tys [(103,Yj.con),(159,ZT.con),(160,XX.con)] [(7,[1],[]),(11,[1],[]),(21,[1],[])] [] [] [] []
noncomputable abbrev Zw.kt (x0:Z6):V.Kt Bool:=V.ktOf Zw.E Zw.con Tryz.f113 (V.fl0 x0)
noncomputable abbrev Zw.s21 (x0:Z6):V.St:=⟨[(1, .v false [.ptr 64000 0])],[(64000, .box (V.lsHead x0))]⟩
noncomputable abbrev Zw.s11 (x0:Z6):V.St:=⟨[(1, .v false [.ptr 64000 0])],[(64000, .box (V.lsHead x0))]⟩
noncomputable abbrev Zw.s7 (x0:Z6):V.St:=⟨[(1, .v false [.ptr 64000 0])],[(64000, .box (V.lsHead x0))]⟩
theorem Zw.r21 (x0:Z6):V.joinF Zw.E Tryz.f113.ntmps [1,1,1] [] (V.codeOf Tryz.f113) (Zw.kt x0) (Zw.s21 x0)=Zw.g21 x0:=by kernel_rfl
theorem Zw.e21 (x0:Z6):V.jn (V.joinF Zw.E Tryz.f113.ntmps [1,1,1] [] (V.codeOf Tryz.f113) (Zw.kt x0)) (Zw.s21 x0)=Zw.l21 x0:=by
 rw[V.jn_eq,Zw.r21]
 rfl
theorem Zw.r11 (x0:Z6):V.joinF Zw.E Tryz.f113.ntmps [1,1] [] (V.codeOf Tryz.f113) (Zw.kt x0) (Zw.s11 x0)=Zw.g11 x0 (V.jn (V.joinF Zw.E Tryz.f113.ntmps [1,1,1] [] (V.codeOf Tryz.f113) (Zw.kt x0)) (Zw.s21 x0)):=by kernel_rfl
theorem Zw.e11 (x0:Z6):V.jn (V.joinF Zw.E Tryz.f113.ntmps [1,1] [] (V.codeOf Tryz.f113) (Zw.kt x0)) (Zw.s11 x0)=Zw.l11 x0:=by
 rw[V.jn_eq,Zw.r11]
 simp only[Zw.e21]
 rfl
theorem Zw.r7 (x0:Z6):V.joinF Zw.E Tryz.f113.ntmps [1] [] (V.codeOf Tryz.f113) (Zw.kt x0) (Zw.s7 x0)=Zw.g7 x0 (V.jn (V.joinF Zw.E Tryz.f113.ntmps [1,1] [] (V.codeOf Tryz.f113) (Zw.kt x0)) (Zw.s11 x0)):=by kernel_rfl
theorem Zw.e7 (x0:Z6):V.jn (V.joinF Zw.E Tryz.f113.ntmps [1] [] (V.codeOf Tryz.f113) (Zw.kt x0)) (Zw.s7 x0)=Zw.l7 x0:=by
 rw[V.jn_eq,Zw.r7]
 simp only[Zw.e11]
 rfl
noncomputable abbrev Zw.s (x0:Z6):V.St:=⟨[(0, .v true (V.lsHead x0))],[]⟩
theorem Zw.v0 (x0:Z6):V.evBody Zw.E Zw.con Tryz.f113 (V.fl0 x0)=V.evC Zw.E Tryz.f113.ntmps (V.codeOf Tryz.f113) (Zw.kt x0) (Zw.s x0):=by kernel_rfl
theorem Zw.v (x0:Z6):V.evC Zw.E Tryz.f113.ntmps (V.codeOf Tryz.f113) (Zw.kt x0) (Zw.s x0)=Zw.b x0 (V.jn (V.joinF Zw.E Tryz.f113.ntmps [1] [] (V.codeOf Tryz.f113) (Zw.kt x0)) (Zw.s7 x0)):=by kernel_rfl
theorem Zw.eq (x0:Z6):V.evBody Zw.E Zw.con Tryz.f113 (V.fl0 x0)=Zw x0:=by
 rw[Zw.v0,Zw.v]
 simp only[Zw.e7]
 rfl
theorem Zw.ok :V.Valid Tryz.prog 113 Zw.con:=
 V.fo (V.tab_cons Yj.ok (V.tab_cons ZT.ok (V.tab_cons XX.ok V.tab_nil))) Tryz.func113 (by kernel_rfl) (fun x y h=>(show V.evBody Zw.E Zw.con Tryz.f113 x=_ from Zw.eq (V.p0_0 x)).trans (V.cfl (by kernel_rfl) h))
noncomputable abbrev Yg.con :V.Con:=⟨V.eRKeysIntListIntInt,V.eRHeadBool,fun(x:List Int×Int×Int×List Z4×Int×Int)=>Yg (x.1,x.2.1) x.2.2.1 x.2.2.2.1 x.2.2.2.2.1 x.2.2.2.2.2,[],[(true,2),(false,1),(false,1),(false,1),(false,1)],[(true,16),(false,1)],[false,false,false,false,false,false,false,false,true,false,true,false,false,true,false,false,false],[]⟩
noncomputable abbrev Yg.E :V.Env:=V.mkE V.tys [(67,ZU.con),(68,XP.con),(103,Yj.con),(105,XT.con),(113,Zw.con),(185,Wt.con)] [(5,[1,2,3,4,5,10,25],[])] [(3,16)] [] [] []
noncomputable abbrev Yg.kt (x0:Zc)(x1:Int)(x2:List Z4)(x3:Int)(x4:Int):V.Kt ZA:=V.ktOf Yg.E Yg.con Tryz.f152 ((x0.1,x0.2,x1,x2,x3,x4):List Int×Int×Int×List Z4×Int×Int)
noncomputable abbrev Yg.s5 (x0:Zc)(x1:Int)(x2:List Z4)(x3:Int)(x4:Int)(v5_4:Bool):V.St:=⟨[(1, .v false [.vi (x1)]),(2, .v false [.val (.sl V.eEntry x2)]),(3, .v false [.vi (x3)]),(4, .v false [.vi (x4)]),(5, .v false [.ptr 64000 0]),(10, .v false [.ptr 64064 0]),(25, .v false [.val (.bool v5_4)])],[(64000, .box [.val (.sl (V.ci .nil) x0.1), .vi (x0.2)]),(64064, .box [.vi ((0:Int)), .vi ((0:Int)), .vi ((0:Int)), .vi ((0:Int)), .vi ((0:Int)), .vi ((0:Int)), .vi ((0:Int)), .vi ((0:Int)), .nil0, .vi ((0:Int)), .nil0, .vi ((0:Int)), .vi ((0:Int)), .nil0, .vi ((0:Int)), .val (.bool false)])]⟩
theorem Yg.r5 (x0:Zc)(x1:Int)(x2:List Z4)(x3:Int)(x4:Int)(v5_4:Bool):V.joinF Yg.E Tryz.f152.ntmps [1,0] [] (V.codeOf Tryz.f152) (Yg.kt x0 x1 x2 x3 x4) (Yg.s5 x0 x1 x2 x3 x4 v5_4)=Yg.g5 x0 x1 x2 x3 x4 v5_4:=by kernel_rfl
theorem Yg.e5 (x0:Zc)(x1:Int)(x2:List Z4)(x3:Int)(x4:Int)(v5_4:Bool):V.jn (V.joinF Yg.E Tryz.f152.ntmps [1,0] [] (V.codeOf Tryz.f152) (Yg.kt x0 x1 x2 x3 x4)) (Yg.s5 x0 x1 x2 x3 x4 v5_4)=Yg.l5 x0 x1 x2 x3 x4 v5_4:=by
 rw[V.jn_eq,Yg.r5]
 rfl
theorem Yg.v (x0:Zc)(x1:Int)(x2:List Z4)(x3:Int)(x4:Int):V.evBody Yg.E Yg.con Tryz.f152 ((x0.1,x0.2,x1,x2,x3,x4):List Int×Int×Int×List Z4×Int×Int)=Yg.b x0 x1 x2 x3 x4 (fun v5_4=>V.jn (V.joinF Yg.E Tryz.f152.ntmps [1,0] [] (V.codeOf Tryz.f152) (Yg.kt x0 x1 x2 x3 x4)) (Yg.s5 x0 x1 x2 x3 x4 v5_4)):=by kernel_rfl
theorem Yg.eq (x0:Zc)(x1:Int)(x2:List Z4)(x3:Int)(x4:Int):V.evBody Yg.E Yg.con Tryz.f152 ((x0.1,x0.2,x1,x2,x3,x4):List Int×Int×Int×List Z4×Int×Int)=Yg x0 x1 x2 x3 x4:=by
 rw[Yg.v]
 simp only[Yg.e5]
 rfl
theorem Yg.ok :V.Valid Tryz.prog 152 Yg.con:=
 V.fo (V.tab_cons ZU.ok (V.tab_cons XP.ok (V.tab_cons Yj.ok (V.tab_cons XT.ok (V.tab_cons Zw.ok (V.tab_cons Wt.ok V.tab_nil)))))) Tryz.func152 (by kernel_rfl) (fun x y h=>(show V.evBody Yg.E Yg.con Tryz.f152 x=_ from Yg.eq (x.1,x.2.1) x.2.2.1 x.2.2.2.1 x.2.2.2.2.1 x.2.2.2.2.2).trans (V.cfl (by kernel_rfl) h))
noncomputable abbrev YX.con :V.Con:=⟨V.A0,V.eHead,fun(x:V.D0)=>YX (V.p0_0 x),[],[(true,16)],[(true,16)],[false,false,false,false,false,false,false,false,true,false,true,false,false,true,false,false],[]⟩
noncomputable abbrev YX.E :V.Env:=V.mkE V.tys [(105,XT.con)] [] [] [] [] []
noncomputable abbrev YX.kt (x0:Z6):V.Kt Z6:=V.ktOf YX.E YX.con Tryz.f59 (V.fl0 x0)
noncomputable abbrev YX.s (x0:Z6):V.St:=⟨[(0, .v true (V.lsHead x0))],[]⟩
theorem YX.v0 (x0:Z6):V.evBody YX.E YX.con Tryz.f59 (V.fl0 x0)=V.evC YX.E Tryz.f59.ntmps (V.codeOf Tryz.f59) (YX.kt x0) (YX.s x0):=by kernel_rfl
theorem YX.v (x0:Z6):V.evC YX.E Tryz.f59.ntmps (V.codeOf Tryz.f59) (YX.kt x0) (YX.s x0)=YX x0:=by kernel_rfl
theorem YX.eq (x0:Z6):V.evBody YX.E YX.con Tryz.f59 (V.fl0 x0)=YX x0:=(YX.v0 x0).trans (YX.v x0)
theorem YX.ok :V.Valid Tryz.prog 59 YX.con:=
 V.fo (V.tab_cons XT.ok V.tab_nil) Tryz.func59 (by kernel_rfl) (fun x y h=>(show V.evBody YX.E YX.con Tryz.f59 x=_ from YX.eq (V.p0_0 x)).trans (V.cfl (by kernel_rfl) h))
noncomputable abbrev X0.con :V.Con:=⟨V.A0,(.cons (.sl (V.ci .nil)) .nil),fun(x:V.D0)=>X0 (V.p0_0 x),[],[(true,16)],[(false,1)],[true],[]⟩
noncomputable abbrev X0.E :V.Env:=V.mkE V.tys [(171,XS.con)] [] [] [] [] []
noncomputable abbrev X0.kt (x0:Z6):V.Kt (List Int):=V.ktOf X0.E X0.con Tryz.f129 (V.fl0 x0)
noncomputable abbrev X0.s (x0:Z6):V.St:=⟨[(0, .v true (V.lsHead x0))],[]⟩
theorem X0.v0 (x0:Z6):V.evBody X0.E X0.con Tryz.f129 (V.fl0 x0)=V.evC X0.E Tryz.f129.ntmps (V.codeOf Tryz.f129) (X0.kt x0) (X0.s x0):=by kernel_rfl
theorem X0.v (x0:Z6):V.evC X0.E Tryz.f129.ntmps (V.codeOf Tryz.f129) (X0.kt x0) (X0.s x0)=X0 x0:=by kernel_rfl
theorem X0.eq (x0:Z6):V.evBody X0.E X0.con Tryz.f129 (V.fl0 x0)=X0 x0:=(X0.v0 x0).trans (X0.v x0)
theorem X0.ok :V.Valid Tryz.prog 129 X0.con:=
 V.fo (V.tab_cons XS.ok V.tab_nil) Tryz.func129 (by kernel_rfl) (fun x y h=>(show V.evBody X0.E X0.con Tryz.f129 x=_ from X0.eq (V.p0_0 x)).trans (V.cfl (by kernel_rfl) h))
noncomputable abbrev Ys.con :V.Con:=⟨(.cons (.sl (V.ci .nil)) (V.ci .nil)),(.cons .bool .nil),fun(x:List Int×Int)=>Ys x.1 x.2,[],[(false,1),(false,1)],[(false,1)],[false],[]⟩
noncomputable abbrev Ys.E :V.Env:=V.mkE V.tys [] [(4,[0,1,5],[])] [] [] [] []
noncomputable abbrev Ys.kt (x0:List Int)(x1:Int):V.Kt Bool:=V.ktOf Ys.E Ys.con Tryz.f172 ((x0,x1):List Int×Int)
noncomputable abbrev Ys.s4 (x0:List Int)(x1:Int)(v4_2:Int):V.St:=⟨[(0, .v false [.val (.sl (V.ci .nil) x0)]),(1, .v false [.vi (x1)]),(5, .v false [.vi (v4_2)])],[]⟩
theorem Ys.r4 (x0:List Int)(x1:Int)(R:V.St→Option Bool)(v4_2:Int):V.loopF Ys.E Tryz.f172.ntmps [1,0,1,0] [] (V.codeOf Tryz.f172) (Ys.kt x0 x1) R (Ys.s4 x0 x1 v4_2)=Ys.g4 x0 x1 (fun v4_2=>R (Ys.s4 x0 x1 v4_2)) v4_2:=by kernel_rfl
theorem Ys.e4 (x0:List Int)(x1:Int):∀(n:Nat) (v4_2:Int),V.loopN (V.loopF Ys.E Tryz.f172.ntmps [1,0,1,0] [] (V.codeOf Tryz.f172) (Ys.kt x0 x1)) n (Ys.s4 x0 x1 v4_2)=Ys.l4 x0 x1 n v4_2:=by
 intro n
 induction n with
 |zero=>intros;rw[V.loopN_z];rfl
 |succ n ih=>
  intro v4_2
  rw[V.loopN_s,Ys.r4]
  simp only[ih]
  first|exact(Ys.u4 ..).symm|rfl
theorem Ys.v (x0:List Int)(x1:Int):V.evBody Ys.E Ys.con Tryz.f172 ((x0,x1):List Int×Int)=Ys.b x0 x1 (fun v4_2=>V.loopN (V.loopF Ys.E Tryz.f172.ntmps [1,0,1,0] [] (V.codeOf Tryz.f172) (Ys.kt x0 x1)) V.KK (Ys.s4 x0 x1 v4_2)):=by kernel_rfl
theorem Ys.eq (x0:List Int)(x1:Int):V.evBody Ys.E Ys.con Tryz.f172 ((x0,x1):List Int×Int)=Ys x0 x1:=by
 rw[Ys.v]
 simp only[Ys.e4]
 rfl
theorem Ys.ok :V.Valid Tryz.prog 172 Ys.con:=
 V.fo V.tab_nil Tryz.func172 (by kernel_rfl) (fun x y h=>(show V.evBody Ys.E Ys.con Tryz.f172 x=_ from Ys.eq x.1 x.2).trans (V.cfl (by kernel_rfl) h))
noncomputable abbrev Ug.con :V.Con:=⟨(V.ci (.cons (.sl (V.ci .nil)) .nil)),(V.ci .nil),fun(x:Int×List Int)=>Ug x.1 x.2,[],[(false,1),(false,1)],[(false,1)],[false],[]⟩
noncomputable abbrev Ug.E :V.Env:=V.mkE V.tys [(161,ZM.con)] [] [] [] [] []
theorem Ug.eq (x0:Int)(x1:List Int):V.evBody Ug.E Ug.con Tryz.f192 ((x0,x1):Int×List Int)=Ug x0 x1:=by kernel_rfl
theorem Ug.ok :V.Valid Tryz.prog 192 Ug.con:=
 V.fo (V.tab_cons ZM.ok V.tab_nil) Tryz.func192 (by kernel_rfl) (fun x y h=>(show V.evBody Ug.E Ug.con Tryz.f192 x=_ from Ug.eq x.1 x.2).trans (V.cfl (by kernel_rfl) h))
noncomputable abbrev Ws.con :V.Con:=⟨(V.ci (.cons (.sl (V.ci .nil)) .nil)),(V.ci .nil),fun(x:Int×List Int)=>Ws x.1 x.2,[],[(false,1),(false,1)],[(false,1)],[false],[]⟩
noncomputable abbrev Ws.E :V.Env:=V.mkE V.tys [(192,Ug.con)] [] [] [] [] []
theorem Ws.eq (x0:Int)(x1:List Int):V.evBody Ws.E Ws.con Tryz.f173 ((x0,x1):Int×List Int)=Ws x0 x1:=by kernel_rfl
theorem Ws.ok :V.Valid Tryz.prog 173 Ws.con:=
 V.fo (V.tab_cons Ug.ok V.tab_nil) Tryz.func173 (by kernel_rfl) (fun x y h=>(show V.evBody Ws.E Ws.con Tryz.f173 x=_ from Ws.eq x.1 x.2).trans (V.cfl (by kernel_rfl) h))
noncomputable abbrev Y6.con :V.Con:=⟨(.cons (.sl (V.ci .nil)) (.cons (.sl (V.ci .nil)) (V.ci (.cons (.sl (V.ci .nil)) .nil)))),(.cons (.sl (V.ci (V.ci .nil))) .nil),fun(x:List Int×List Int×Int×List Int)=>Y6 x.1 (x.2.1,x.2.2.1) x.2.2.2,[],[(false,1),(true,2),(false,1)],[(false,1)],[true],[]⟩
noncomputable abbrev Y6.E :V.Env:=V.mkE V.tys [(172,Ys.con),(173,Ws.con)] [(6,[0,2,4,7,8],[(64000038400448,(V.ci (V.ci .nil)),true)])] [(6,15)] [] [] []
noncomputable abbrev Y6.kt (x0:List Int)(x1:Zc)(x2:List Int):V.Kt (List Zb):=V.ktOf Y6.E Y6.con Tryz.f130 ((x0,x1.1,x1.2,x2):List Int×List Int×Int×List Int)
noncomputable abbrev Y6.s6 (x0:List Int)(x1:Zc)(x2:List Int)(v6_2:Int)(v6_5:List Zb):V.St:=⟨[(0, .v false [.val (.sl (V.ci .nil) x0)]),(2, .v false [.val (.sl (V.ci .nil) x2)]),(4, .v false [.ptr 64000 0]),(7, .v false [.ref 64000038400448]),(8, .v false [.vi (v6_2)])],[(64000, .box [.val (.sl (V.ci .nil) x1.1), .vi (x1.2)]),(64000038400448, .row (V.ci (V.ci .nil)) true v6_5)]⟩
theorem Y6.r6 (x0:List Int)(x1:Zc)(x2:List Int)(R:V.St→Option (List Zb))(v6_2:Int)(v6_5:List Zb):V.loopF Y6.E Tryz.f130.ntmps [1,1,0,1,0] [] (V.codeOf Tryz.f130) (Y6.kt x0 x1 x2) R (Y6.s6 x0 x1 x2 v6_2 v6_5)=Y6.g6 x0 x1 x2 (fun v6_2 v6_5=>R (Y6.s6 x0 x1 x2 v6_2 v6_5)) v6_2 v6_5:=by kernel_rfl
theorem Y6.e6 (x0:List Int)(x1:Zc)(x2:List Int):∀(n:Nat) (v6_2:Int) (v6_5:List Zb),V.loopN (V.loopF Y6.E Tryz.f130.ntmps [1,1,0,1,0] [] (V.codeOf Tryz.f130) (Y6.kt x0 x1 x2)) n (Y6.s6 x0 x1 x2 v6_2 v6_5)=Y6.l6 x0 x1 x2 n v6_2 v6_5:=by
 intro n
 induction n with
 |zero=>intros;rw[V.loopN_z];rfl
 |succ n ih=>
  intro v6_2 v6_5
  rw[V.loopN_s,Y6.r6]
  simp only[ih]
  first|exact(Y6.u6 ..).symm|rfl
theorem Y6.v (x0:List Int)(x1:Zc)(x2:List Int):V.evBody Y6.E Y6.con Tryz.f130 ((x0,x1.1,x1.2,x2):List Int×List Int×Int×List Int)=Y6.b x0 x1 x2 (fun v6_2 v6_5=>V.loopN (V.loopF Y6.E Tryz.f130.ntmps [1,1,0,1,0] [] (V.codeOf Tryz.f130) (Y6.kt x0 x1 x2)) V.KK (Y6.s6 x0 x1 x2 v6_2 v6_5)):=by kernel_rfl
theorem Y6.eq (x0:List Int)(x1:Zc)(x2:List Int):V.evBody Y6.E Y6.con Tryz.f130 ((x0,x1.1,x1.2,x2):List Int×List Int×Int×List Int)=Y6 x0 x1 x2:=by
 rw[Y6.v]
 simp only[Y6.e6]
 rfl
theorem Y6.ok :V.Valid Tryz.prog 130 Y6.con:=
 V.fo (V.tab_cons Ys.ok (V.tab_cons Ws.ok V.tab_nil)) Tryz.func130 (by kernel_rfl) (fun x y h=>(show V.evBody Y6.E Y6.con Tryz.f130 x=_ from Y6.eq x.1 (x.2.1,x.2.2.1) x.2.2.2).trans (V.cfl (by kernel_rfl) h))
noncomputable abbrev YS.con :V.Con:=⟨V.A1,V.eSigned,fun(x:V.D1)=>YS (V.p1_0 x) (V.p1_1 x) (V.p1_2 x),[],[(false,1),(true,2),(true,16)],[(true,17)],[false,false,false,false,false,false,false,false,true,false,true,false,false,true,false,false,true],[]⟩
noncomputable abbrev YS.E :V.Env:=V.mkE V.tys [(59,YX.con),(129,X0.con),(130,Y6.con)] [] [(1,6)] [] [] []
noncomputable abbrev YS.kt (x0:List Int)(x1:Zc)(x2:Z6):V.Kt Z5:=V.ktOf YS.E YS.con Tryz.f78 (V.fl1 x0 x1 x2)
noncomputable abbrev YS.s (x0:List Int)(x1:Zc)(x2:Z6):V.St:=⟨[(0, .v false [.val (.sl (V.ci .nil) x0)]),(1, .v true [.val (.sl (V.ci .nil) x1.1), .vi (x1.2)]),(2, .v true (V.lsHead x2))],[]⟩
theorem YS.v0 (x0:List Int)(x1:Zc)(x2:Z6):V.evBody YS.E YS.con Tryz.f78 (V.fl1 x0 x1 x2)=V.evC YS.E Tryz.f78.ntmps (V.codeOf Tryz.f78) (YS.kt x0 x1 x2) (YS.s x0 x1 x2):=by kernel_rfl
theorem YS.v (x0:List Int)(x1:Zc)(x2:Z6):V.evC YS.E Tryz.f78.ntmps (V.codeOf Tryz.f78) (YS.kt x0 x1 x2) (YS.s x0 x1 x2)=YS x0 x1 x2:=by kernel_rfl
theorem YS.eq (x0:List Int)(x1:Zc)(x2:Z6):V.evBody YS.E YS.con Tryz.f78 (V.fl1 x0 x1 x2)=YS x0 x1 x2:=(YS.v0 x0 x1 x2).trans (YS.v x0 x1 x2)
theorem YS.ok :V.Valid Tryz.prog 78 YS.con:=
 V.fo (V.tab_cons YX.ok (V.tab_cons X0.ok (V.tab_cons Y6.ok V.tab_nil))) Tryz.func78 (by kernel_rfl) (fun x y h=>(show V.evBody YS.E YS.con Tryz.f78 x=_ from YS.eq (V.p1_0 x) (V.p1_1 x) (V.p1_2 x)).trans (V.cfl (by kernel_rfl) h))
noncomputable abbrev ZX.con :V.Con:=⟨V.eRKeysIntListIntInt,(.cons (.sl V.eSigned) (.cons (.sl V.eEntry) (.cons .bool .nil))),fun(x:List Int×Int×Int×List Z4×Int×Int)=>ZX (x.1,x.2.1) x.2.2.1 x.2.2.2.1 x.2.2.2.2.1 x.2.2.2.2.2,[],[(true,2),(false,1),(false,1),(false,1),(false,1)],[(true,2),(false,1)],[true,true,false],[]⟩
noncomputable abbrev ZX.E :V.Env:=V.mkE V.tys [(40,Y0.con),(78,YS.con),(152,Yg.con)] [] [] [] [] []
theorem ZX.eq (x0:Zc)(x1:Int)(x2:List Z4)(x3:Int)(x4:Int):V.evBody ZX.E ZX.con Tryz.f99 ((x0.1,x0.2,x1,x2,x3,x4):List Int×Int×Int×List Z4×Int×Int)=ZX x0 x1 x2 x3 x4:=by kernel_rfl
theorem ZX.ok :V.Valid Tryz.prog 99 ZX.con:=
 V.fo (V.tab_cons Y0.ok (V.tab_cons YS.ok (V.tab_cons Yg.ok V.tab_nil))) Tryz.func99 (by kernel_rfl) (fun x y h=>(show V.evBody ZX.E ZX.con Tryz.f99 x=_ from ZX.eq (x.1,x.2.1) x.2.2.1 x.2.2.2.1 x.2.2.2.2.1 x.2.2.2.2.2).trans (V.cfl (by kernel_rfl) h))
noncomputable abbrev Uf.con :V.Con:=⟨(V.ci (V.ci (.cons (.sl (V.ci .nil)) .nil))),(.cons .bool .nil),fun(x:Int×Int×List Int)=>Uf (x.1,x.2.1) x.2.2,[],[(true,2),(false,1)],[(false,1)],[false],[]⟩
noncomputable abbrev Uf.E :V.Env:=V.mkE V.tys [(103,Yj.con),(173,Ws.con)] [] [(1,10)] [] [] []
theorem Uf.eq (x0:Zb)(x1:List Int):V.evBody Uf.E Uf.con Tryz.f191 ((x0.1,x0.2,x1):Int×Int×List Int)=Uf x0 x1:=by kernel_rfl
theorem Uf.ok :V.Valid Tryz.prog 191 Uf.con:=
 V.fo (V.tab_cons Yj.ok (V.tab_cons Ws.ok V.tab_nil)) Tryz.func191 (by kernel_rfl) (fun x y h=>(show V.evBody Uf.E Uf.con Tryz.f191 x=_ from Uf.eq (x.1,x.2.1) x.2.2).trans (V.cfl (by kernel_rfl) h))
noncomputable abbrev Zu.con :V.Con:=⟨(.cons (.sl (V.ci .nil)) (V.ci (.cons (.sl (V.ci .nil)) (.cons (.sl (V.ci (V.ci .nil))) .nil)))),(V.ci .nil),fun(x:List Int×Int×List Int×List Zb)=>Zu (x.1,x.2.1) x.2.2.1 x.2.2.2,[],[(true,2),(false,1),(false,1)],[(false,1)],[false],[]⟩
noncomputable abbrev Zu.E :V.Env:=V.mkE V.tys [(191,Uf.con)] [(6,[1,2,3,7,8],[]),(12,[1,2,3,7,8,9],[]),(19,[1,2,3,7,8,9,41],[])] [(8,17)] [] [] []
noncomputable abbrev Zu.kt (x0:Zc)(x1:List Int)(x2:List Zb):V.Kt Int:=V.ktOf Zu.E Zu.con Tryz.f170 ((x0.1,x0.2,x1,x2):List Int×Int×List Int×List Zb)
noncomputable abbrev Zu.s19 (x0:Zc)(x1:List Int)(x2:List Zb)(v6_2:Int)(v6_3:Int)(v12_4:Int)(v19_5:Bool):V.St:=⟨[(1, .v false [.val (.sl (V.ci .nil) x1)]),(2, .v false [.val (.sl (V.ci (V.ci .nil)) x2)]),(3, .v false [.ptr 64000 0]),(7, .v false [.vi (v6_2)]),(8, .v false [.vi (v6_3)]),(9, .v false [.vi (v12_4)]),(41, .v false [.val (.bool v19_5)])],[(64000, .box [.val (.sl (V.ci .nil) x0.1), .vi (x0.2)])]⟩
noncomputable abbrev Zu.s12 (x0:Zc)(x1:List Int)(x2:List Zb)(v6_2:Int)(v6_3:Int)(v12_4:Int):V.St:=⟨[(1, .v false [.val (.sl (V.ci .nil) x1)]),(2, .v false [.val (.sl (V.ci (V.ci .nil)) x2)]),(3, .v false [.ptr 64000 0]),(7, .v false [.vi (v6_2)]),(8, .v false [.vi (v6_3)]),(9, .v false [.vi (v12_4)])],[(64000, .box [.val (.sl (V.ci .nil) x0.1), .vi (x0.2)])]⟩
noncomputable abbrev Zu.s6 (x0:Zc)(x1:List Int)(x2:List Zb)(v6_2:Int)(v6_3:Int):V.St:=⟨[(1, .v false [.val (.sl (V.ci .nil) x1)]),(2, .v false [.val (.sl (V.ci (V.ci .nil)) x2)]),(3, .v false [.ptr 64000 0]),(7, .v false [.vi (v6_2)]),(8, .v false [.vi (v6_3)])],[(64000, .box [.val (.sl (V.ci .nil) x0.1), .vi (x0.2)])]⟩
theorem Zu.r19 (x0:Zc)(x1:List Int)(x2:List Zb)(v12_4:Int)(v6_2:Int)(v6_3:Int)(R6:V.St→Option Int)(R12:V.St→Option Int)(v19_5:Bool):V.joinF Zu.E Tryz.f170.ntmps [1,1,0,1,0,0,1,0,0,1,0,0,1,0,0] [R6,R12] (V.codeOf Tryz.f170) (Zu.kt x0 x1 x2) (Zu.s19 x0 x1 x2 v6_2 v6_3 v12_4 v19_5)=Zu.g19 x0 x1 x2 v6_2 v6_3 v12_4 (fun v6_2 v6_3=>R6 (Zu.s6 x0 x1 x2 v6_2 v6_3)) (fun v12_4=>R12 (Zu.s12 x0 x1 x2 v6_2 v6_3 v12_4)) v19_5:=by kernel_rfl
theorem Zu.e19 (x0:Zc)(x1:List Int)(x2:List Zb)(v12_4:Int)(v6_2:Int)(v6_3:Int)(R6:V.St→Option Int)(R12:V.St→Option Int)(v19_5:Bool):V.jn (V.joinF Zu.E Tryz.f170.ntmps [1,1,0,1,0,0,1,0,0,1,0,0,1,0,0] [R6,R12] (V.codeOf Tryz.f170) (Zu.kt x0 x1 x2)) (Zu.s19 x0 x1 x2 v6_2 v6_3 v12_4 v19_5)=Zu.l19 x0 x1 x2 v6_2 v6_3 v12_4 (fun v6_2 v6_3=>R6 (Zu.s6 x0 x1 x2 v6_2 v6_3)) (fun v12_4=>R12 (Zu.s12 x0 x1 x2 v6_2 v6_3 v12_4)) v19_5:=by
 rw[V.jn_eq,Zu.r19]
 rfl
theorem Zu.r12 (x0:Zc)(x1:List Int)(x2:List Zb)(v6_2:Int)(v6_3:Int)(R6:V.St→Option Int)(R:V.St→Option Int)(v12_4:Int):V.loopF Zu.E Tryz.f170.ntmps [1,1,0,1,0,0,1,0,0,1,0] [R6] (V.codeOf Tryz.f170) (Zu.kt x0 x1 x2) R (Zu.s12 x0 x1 x2 v6_2 v6_3 v12_4)=Zu.g12 x0 x1 x2 v6_2 v6_3 (fun v6_2 v6_3=>R6 (Zu.s6 x0 x1 x2 v6_2 v6_3)) (fun v12_4=>R (Zu.s12 x0 x1 x2 v6_2 v6_3 v12_4)) (fun v19_5=>V.jn (V.joinF Zu.E Tryz.f170.ntmps [1,1,0,1,0,0,1,0,0,1,0,0,1,0,0] [R6,R] (V.codeOf Tryz.f170) (Zu.kt x0 x1 x2)) (Zu.s19 x0 x1 x2 v6_2 v6_3 v12_4 v19_5)) v12_4:=by kernel_rfl
theorem Zu.e12 (x0:Zc)(x1:List Int)(x2:List Zb)(v6_2:Int)(v6_3:Int)(R6:V.St→Option Int):∀(n:Nat) (v12_4:Int),V.loopN (V.loopF Zu.E Tryz.f170.ntmps [1,1,0,1,0,0,1,0,0,1,0] [R6] (V.codeOf Tryz.f170) (Zu.kt x0 x1 x2)) n (Zu.s12 x0 x1 x2 v6_2 v6_3 v12_4)=Zu.l12 x0 x1 x2 v6_2 v6_3 (fun v6_2 v6_3=>R6 (Zu.s6 x0 x1 x2 v6_2 v6_3)) n v12_4:=by
 intro n
 induction n with
 |zero=>intros;rw[V.loopN_z];rfl
 |succ n ih=>
  intro v12_4
  rw[V.loopN_s,Zu.r12]
  simp only[Zu.e19,ih]
  first|exact(Zu.u12 ..).symm|rfl
theorem Zu.r6 (x0:Zc)(x1:List Int)(x2:List Zb)(R:V.St→Option Int)(v6_2:Int)(v6_3:Int):V.loopF Zu.E Tryz.f170.ntmps [1,1,0,1,0] [] (V.codeOf Tryz.f170) (Zu.kt x0 x1 x2) R (Zu.s6 x0 x1 x2 v6_2 v6_3)=Zu.g6 x0 x1 x2 (fun v6_2 v6_3=>R (Zu.s6 x0 x1 x2 v6_2 v6_3)) (fun v12_4=>V.loopN (V.loopF Zu.E Tryz.f170.ntmps [1,1,0,1,0,0,1,0,0,1,0] [R] (V.codeOf Tryz.f170) (Zu.kt x0 x1 x2)) V.KK (Zu.s12 x0 x1 x2 v6_2 v6_3 v12_4)) v6_2 v6_3:=by kernel_rfl
theorem Zu.e6 (x0:Zc)(x1:List Int)(x2:List Zb):∀(n:Nat) (v6_2:Int) (v6_3:Int),V.loopN (V.loopF Zu.E Tryz.f170.ntmps [1,1,0,1,0] [] (V.codeOf Tryz.f170) (Zu.kt x0 x1 x2)) n (Zu.s6 x0 x1 x2 v6_2 v6_3)=Zu.l6 x0 x1 x2 n v6_2 v6_3:=by
 intro n
 induction n with
 |zero=>intros;rw[V.loopN_z];rfl
 |succ n ih=>
  intro v6_2 v6_3
  rw[V.loopN_s,Zu.r6]
  simp only[Zu.e12,ih]
  first|exact(Zu.u6 ..).symm|rfl
theorem Zu.v (x0:Zc)(x1:List Int)(x2:List Zb):V.evBody Zu.E Zu.con Tryz.f170 ((x0.1,x0.2,x1,x2):List Int×Int×List Int×List Zb)=Zu.b x0 x1 x2 (fun v6_2 v6_3=>V.loopN (V.loopF Zu.E Tryz.f170.ntmps [1,1,0,1,0] [] (V.codeOf Tryz.f170) (Zu.kt x0 x1 x2)) V.KK (Zu.s6 x0 x1 x2 v6_2 v6_3)):=by kernel_rfl
theorem Zu.eq (x0:Zc)(x1:List Int)(x2:List Zb):V.evBody Zu.E Zu.con Tryz.f170 ((x0.1,x0.2,x1,x2):List Int×Int×List Int×List Zb)=Zu x0 x1 x2:=by
 rw[Zu.v]
 simp only[Zu.e6]
 rfl
theorem Zu.ok :V.Valid Tryz.prog 170 Zu.con:=
 V.fo (V.tab_cons Uf.ok V.tab_nil) Tryz.func170 (by kernel_rfl) (fun x y h=>(show V.evBody Zu.E Zu.con Tryz.f170 x=_ from Zu.eq (x.1,x.2.1) x.2.2.1 x.2.2.2).trans (V.cfl (by kernel_rfl) h))
noncomputable abbrev Wr.con :V.Con:=⟨(.cons (.sl (V.ci .nil)) (V.ci (.cons (.sl (V.ci .nil)) (.cons (.sl (V.ci (V.ci .nil))) .nil)))),(.cons .bool .nil),fun(x:List Int×Int×List Int×List Zb)=>Wr (x.1,x.2.1) x.2.2.1 x.2.2.2,[],[(true,2),(false,1),(false,1)],[(false,1)],[false],[]⟩
noncomputable abbrev Wr.E :V.Env:=V.mkE V.tys [(159,ZT.con),(170,Zu.con)] [] [(1,9)] [] [] []
theorem Wr.eq (x0:Zc)(x1:List Int)(x2:List Zb):V.evBody Wr.E Wr.con Tryz.f128 ((x0.1,x0.2,x1,x2):List Int×Int×List Int×List Zb)=Wr x0 x1 x2:=by kernel_rfl
theorem Wr.ok :V.Valid Tryz.prog 128 Wr.con:=
 V.fo (V.tab_cons ZT.ok (V.tab_cons Zu.ok V.tab_nil)) Tryz.func128 (by kernel_rfl) (fun x y h=>(show V.evBody Wr.E Wr.con Tryz.f128 x=_ from Wr.eq (x.1,x.2.1) x.2.2.1 x.2.2.2).trans (V.cfl (by kernel_rfl) h))
noncomputable abbrev Xu.con :V.Con:=⟨V.A2,(.cons .bool .nil),fun(x:V.D2)=>Xu (V.p2_0 x),[],[(true,17)],[(false,1)],[false],[]⟩
noncomputable abbrev Xu.E :V.Env:=V.mkE V.tys [(113,Zw.con),(128,Wr.con),(129,X0.con),(185,Wt.con)] [] [(2,34)] [] [] []
noncomputable abbrev Xu.kt (x0:Z5):V.Kt Bool:=V.ktOf Xu.E Xu.con Tryz.f156 (V.fl2 x0)
noncomputable abbrev Xu.s (x0:Z5):V.St:=⟨[(0, .v true (V.lsSigned x0))],[]⟩
theorem Xu.v0 (x0:Z5):V.evBody Xu.E Xu.con Tryz.f156 (V.fl2 x0)=V.evC Xu.E Tryz.f156.ntmps (V.codeOf Tryz.f156) (Xu.kt x0) (Xu.s x0):=by kernel_rfl
theorem Xu.v (x0:Z5):V.evC Xu.E Tryz.f156.ntmps (V.codeOf Tryz.f156) (Xu.kt x0) (Xu.s x0)=Xu x0:=by kernel_rfl
theorem Xu.eq (x0:Z5):V.evBody Xu.E Xu.con Tryz.f156 (V.fl2 x0)=Xu x0:=(Xu.v0 x0).trans (Xu.v x0)
theorem Xu.ok :V.Valid Tryz.prog 156 Xu.con:=
 V.fo (V.tab_cons Zw.ok (V.tab_cons Wr.ok (V.tab_cons X0.ok (V.tab_cons Wt.ok V.tab_nil)))) Tryz.func156 (by kernel_rfl) (fun x y h=>(show V.evBody Xu.E Xu.con Tryz.f156 x=_ from Xu.eq (V.p2_0 x)).trans (V.cfl (by kernel_rfl) h))
noncomputable abbrev X5.con :V.Con:=⟨V.A0,(V.ci .nil),fun(x:V.D0)=>X5 (V.p0_0 x),[],[(true,16)],[(false,1)],[false],[]⟩
noncomputable abbrev X5.E :V.Env:=V.mkE V.tys [(129,X0.con),(161,ZM.con)] [] [] [] [] []
noncomputable abbrev X5.kt (x0:Z6):V.Kt Int:=V.ktOf X5.E X5.con Tryz.f114 (V.fl0 x0)
noncomputable abbrev X5.s (x0:Z6):V.St:=⟨[(0, .v true (V.lsHead x0))],[]⟩
theorem X5.v0 (x0:Z6):V.evBody X5.E X5.con Tryz.f114 (V.fl0 x0)=V.evC X5.E Tryz.f114.ntmps (V.codeOf Tryz.f114) (X5.kt x0) (X5.s x0):=by kernel_rfl
theorem X5.v (x0:Z6):V.evC X5.E Tryz.f114.ntmps (V.codeOf Tryz.f114) (X5.kt x0) (X5.s x0)=X5 x0:=by kernel_rfl
theorem X5.eq (x0:Z6):V.evBody X5.E X5.con Tryz.f114 (V.fl0 x0)=X5 x0:=(X5.v0 x0).trans (X5.v x0)
theorem X5.ok :V.Valid Tryz.prog 114 X5.con:=
 V.fo (V.tab_cons X0.ok (V.tab_cons ZM.ok V.tab_nil)) Tryz.func114 (by kernel_rfl) (fun x y h=>(show V.evBody X5.E X5.con Tryz.f114 x=_ from X5.eq (V.p0_0 x)).trans (V.cfl (by kernel_rfl) h))
noncomputable abbrev Xx.con :V.Con:=⟨V.A3,(V.ci .nil),fun(x:V.D3)=>Xx (V.p3_0 x) (V.p3_1 x),[],[(true,16),(true,16)],[(false,1)],[false],[]⟩
noncomputable abbrev Xx.E :V.Env:=V.mkE V.tys [] [] [] [] [] []
noncomputable abbrev Xx.kt (x0:Z6)(x1:Z6):V.Kt Int:=V.ktOf Xx.E Xx.con Tryz.f125 (V.fl3 x0 x1)
noncomputable abbrev Xx.s (x0:Z6)(x1:Z6):V.St:=⟨[(0, .v true (V.lsHead x0)),(1, .v true (V.lsHead x1))],[]⟩
theorem Xx.v0 (x0:Z6)(x1:Z6):V.evBody Xx.E Xx.con Tryz.f125 (V.fl3 x0 x1)=V.evC Xx.E Tryz.f125.ntmps (V.codeOf Tryz.f125) (Xx.kt x0 x1) (Xx.s x0 x1):=by kernel_rfl
theorem Xx.v (x0:Z6)(x1:Z6):V.evC Xx.E Tryz.f125.ntmps (V.codeOf Tryz.f125) (Xx.kt x0 x1) (Xx.s x0 x1)=Xx x0 x1:=by kernel_rfl
theorem Xx.eq (x0:Z6)(x1:Z6):V.evBody Xx.E Xx.con Tryz.f125 (V.fl3 x0 x1)=Xx x0 x1:=(Xx.v0 x0 x1).trans (Xx.v x0 x1)
theorem Xx.ok :V.Valid Tryz.prog 125 Xx.con:=
 V.fo V.tab_nil Tryz.func125 (by kernel_rfl) (fun x y h=>(show V.evBody Xx.E Xx.con Tryz.f125 x=_ from Xx.eq (V.p3_0 x) (V.p3_1 x)).trans (V.cfl (by kernel_rfl) h))
noncomputable abbrev Y8.con :V.Con:=⟨(.cons (.sl (V.ci .nil)) (.cons (.sl (V.ci .nil)) .nil)),(.cons .bool .nil),fun(x:List Int×List Int)=>Y8 x.1 x.2,[],[(false,1),(false,1)],[(false,1)],[false],[]⟩
noncomputable abbrev Y8.E :V.Env:=V.mkE V.tys [] [(8,[0,1,5],[])] [(6,8)] [] [] []
noncomputable abbrev Y8.kt (x0:List Int)(x1:List Int):V.Kt Bool:=V.ktOf Y8.E Y8.con Tryz.f190 ((x0,x1):List Int×List Int)
noncomputable abbrev Y8.s8 (x0:List Int)(x1:List Int)(v8_2:Int):V.St:=⟨[(0, .v false [.val (.sl (V.ci .nil) x0)]),(1, .v false [.val (.sl (V.ci .nil) x1)]),(5, .v false [.vi (v8_2)])],[]⟩
theorem Y8.r8 (x0:List Int)(x1:List Int)(R:V.St→Option Bool)(v8_2:Int):V.loopF Y8.E Tryz.f190.ntmps [1,1,0,1,0] [] (V.codeOf Tryz.f190) (Y8.kt x0 x1) R (Y8.s8 x0 x1 v8_2)=Y8.g8 x0 x1 (fun v8_2=>R (Y8.s8 x0 x1 v8_2)) v8_2:=by kernel_rfl
theorem Y8.e8 (x0:List Int)(x1:List Int):∀(n:Nat) (v8_2:Int),V.loopN (V.loopF Y8.E Tryz.f190.ntmps [1,1,0,1,0] [] (V.codeOf Tryz.f190) (Y8.kt x0 x1)) n (Y8.s8 x0 x1 v8_2)=Y8.l8 x0 x1 n v8_2:=by
 intro n
 induction n with
 |zero=>intros;rw[V.loopN_z];rfl
 |succ n ih=>
  intro v8_2
  rw[V.loopN_s,Y8.r8]
  simp only[ih]
  first|exact(Y8.u8 ..).symm|rfl
theorem Y8.v (x0:List Int)(x1:List Int):V.evBody Y8.E Y8.con Tryz.f190 ((x0,x1):List Int×List Int)=Y8.b x0 x1 (fun v8_2=>V.loopN (V.loopF Y8.E Tryz.f190.ntmps [1,1,0,1,0] [] (V.codeOf Tryz.f190) (Y8.kt x0 x1)) V.KK (Y8.s8 x0 x1 v8_2)):=by kernel_rfl
theorem Y8.eq (x0:List Int)(x1:List Int):V.evBody Y8.E Y8.con Tryz.f190 ((x0,x1):List Int×List Int)=Y8 x0 x1:=by
 rw[Y8.v]
 simp only[Y8.e8]
 rfl
theorem Y8.ok :V.Valid Tryz.prog 190 Y8.con:=
 V.fo V.tab_nil Tryz.func190 (by kernel_rfl) (fun x y h=>(show V.evBody Y8.E Y8.con Tryz.f190 x=_ from Y8.eq x.1 x.2).trans (V.cfl (by kernel_rfl) h))
noncomputable abbrev W9.con :V.Con:=⟨(.cons (.sl (V.ci .nil)) (V.ci (.cons (.sl (V.ci .nil)) (V.ci .nil)))),(.cons .bool .nil),fun(x:List Int×Int×List Int×Int)=>W9 (x.1,x.2.1) x.2.2,[],[(true,2),(true,2)],[(false,1)],[false],[]⟩
noncomputable abbrev W9.E :V.Env:=V.mkE V.tys [(190,Y8.con)] [] [] [] [] []
theorem W9.eq (x0:Zc)(x1:Zc):V.evBody W9.E W9.con Tryz.f168 ((x0.1,x0.2,x1.1,x1.2):List Int×Int×List Int×Int)=W9 x0 x1:=by kernel_rfl
theorem W9.ok :V.Valid Tryz.prog 168 W9.con:=
 V.fo (V.tab_cons Y8.ok V.tab_nil) Tryz.func168 (by kernel_rfl) (fun x y h=>(show V.evBody W9.E W9.con Tryz.f168 x=_ from W9.eq (x.1,x.2.1) x.2.2).trans (V.cfl (by kernel_rfl) h))
noncomputable abbrev Xk.con :V.Con:=⟨V.A3,(.cons .bool .nil),fun(x:V.D3)=>Xk (V.p3_0 x) (V.p3_1 x),[],[(true,16),(true,16)],[(false,1)],[false],[]⟩
noncomputable abbrev Xk.E :V.Env:=V.mkE V.tys [] [] [] [] [] []
noncomputable abbrev Xk.kt (x0:Z6)(x1:Z6):V.Kt Bool:=V.ktOf Xk.E Xk.con Tryz.f169 (V.fl3 x0 x1)
noncomputable abbrev Xk.s (x0:Z6)(x1:Z6):V.St:=⟨[(0, .v true (V.lsHead x0)),(1, .v true (V.lsHead x1))],[]⟩
theorem Xk.v0 (x0:Z6)(x1:Z6):V.evBody Xk.E Xk.con Tryz.f169 (V.fl3 x0 x1)=V.evC Xk.E Tryz.f169.ntmps (V.codeOf Tryz.f169) (Xk.kt x0 x1) (Xk.s x0 x1):=by kernel_rfl
theorem Xk.v (x0:Z6)(x1:Z6):V.evC Xk.E Tryz.f169.ntmps (V.codeOf Tryz.f169) (Xk.kt x0 x1) (Xk.s x0 x1)=Xk x0 x1:=by kernel_rfl
theorem Xk.eq (x0:Z6)(x1:Z6):V.evBody Xk.E Xk.con Tryz.f169 (V.fl3 x0 x1)=Xk x0 x1:=(Xk.v0 x0 x1).trans (Xk.v x0 x1)
theorem Xk.ok :V.Valid Tryz.prog 169 Xk.con:=
 V.fo V.tab_nil Tryz.func169 (by kernel_rfl) (fun x y h=>(show V.evBody Xk.E Xk.con Tryz.f169 x=_ from Xk.eq (V.p3_0 x) (V.p3_1 x)).trans (V.cfl (by kernel_rfl) h))
noncomputable abbrev Yb.con :V.Con:=⟨V.A3,(V.ci .nil),fun(x:V.D3)=>Yb (V.p3_0 x) (V.p3_1 x),[],[(true,16),(true,16)],[(false,1)],[false],[]⟩
noncomputable abbrev Yb.E :V.Env:=V.mkE V.tys [(160,XX.con),(168,W9.con),(169,Xk.con)] [(9,[2,3,8],[])] [] [] [] []
noncomputable abbrev Yb.kt (x0:Z6)(x1:Z6):V.Kt Int:=V.ktOf Yb.E Yb.con Tryz.f126 (V.fl3 x0 x1)
noncomputable abbrev Yb.s9 (x0:Z6)(x1:Z6)(v9_0:Bool):V.St:=⟨[(2, .v false [.ptr 64000 0]),(3, .v false [.ptr 64064 0]),(8, .v false [.val (.bool v9_0)])],[(64000, .box (V.lsHead x0)),(64064, .box (V.lsHead x1))]⟩
theorem Yb.r9 (x0:Z6)(x1:Z6)(v9_0:Bool):V.joinF Yb.E Tryz.f126.ntmps [1,0,0,1,1] [] (V.codeOf Tryz.f126) (Yb.kt x0 x1) (Yb.s9 x0 x1 v9_0)=Yb.g9 x0 x1 v9_0:=by kernel_rfl
theorem Yb.e9 (x0:Z6)(x1:Z6)(v9_0:Bool):V.jn (V.joinF Yb.E Tryz.f126.ntmps [1,0,0,1,1] [] (V.codeOf Tryz.f126) (Yb.kt x0 x1)) (Yb.s9 x0 x1 v9_0)=Yb.l9 x0 x1 v9_0:=by
 rw[V.jn_eq,Yb.r9]
 rfl
noncomputable abbrev Yb.s (x0:Z6)(x1:Z6):V.St:=⟨[(0, .v true (V.lsHead x0)),(1, .v true (V.lsHead x1))],[]⟩
theorem Yb.v0 (x0:Z6)(x1:Z6):V.evBody Yb.E Yb.con Tryz.f126 (V.fl3 x0 x1)=V.evC Yb.E Tryz.f126.ntmps (V.codeOf Tryz.f126) (Yb.kt x0 x1) (Yb.s x0 x1):=by kernel_rfl
theorem Yb.v (x0:Z6)(x1:Z6):V.evC Yb.E Tryz.f126.ntmps (V.codeOf Tryz.f126) (Yb.kt x0 x1) (Yb.s x0 x1)=Yb.b x0 x1 (fun v9_0=>V.jn (V.joinF Yb.E Tryz.f126.ntmps [1,0,0,1,1] [] (V.codeOf Tryz.f126) (Yb.kt x0 x1)) (Yb.s9 x0 x1 v9_0)):=by kernel_rfl
theorem Yb.eq (x0:Z6)(x1:Z6):V.evBody Yb.E Yb.con Tryz.f126 (V.fl3 x0 x1)=Yb x0 x1:=by
 rw[Yb.v0,Yb.v]
 simp only[Yb.e9]
 rfl
theorem Yb.ok :V.Valid Tryz.prog 126 Yb.con:=
 V.fo (V.tab_cons XX.ok (V.tab_cons W9.ok (V.tab_cons Xk.ok V.tab_nil))) Tryz.func126 (by kernel_rfl) (fun x y h=>(show V.evBody Yb.E Yb.con Tryz.f126 x=_ from Yb.eq (V.p3_0 x) (V.p3_1 x)).trans (V.cfl (by kernel_rfl) h))
noncomputable abbrev Yc.con :V.Con:=⟨V.A3,(V.ci .nil),fun(x:V.D3)=>Yc (V.p3_0 x) (V.p3_1 x),[],[(true,16),(true,16)],[(false,1)],[false],[]⟩
noncomputable abbrev Yc.E :V.Env:=V.mkE V.tys [(160,XX.con),(168,W9.con),(169,Xk.con)] [(9,[2,3,9],[])] [] [] [] []
noncomputable abbrev Yc.kt (x0:Z6)(x1:Z6):V.Kt Int:=V.ktOf Yc.E Yc.con Tryz.f127 (V.fl3 x0 x1)
noncomputable abbrev Yc.s9 (x0:Z6)(x1:Z6)(v9_0:Bool):V.St:=⟨[(2, .v false [.ptr 64000 0]),(3, .v false [.ptr 64064 0]),(9, .v false [.val (.bool v9_0)])],[(64000, .box (V.lsHead x0)),(64064, .box (V.lsHead x1))]⟩
theorem Yc.r9 (x0:Z6)(x1:Z6)(v9_0:Bool):V.joinF Yc.E Tryz.f127.ntmps [1,0,0,1,1] [] (V.codeOf Tryz.f127) (Yc.kt x0 x1) (Yc.s9 x0 x1 v9_0)=Yc.g9 x0 x1 v9_0:=by kernel_rfl
theorem Yc.e9 (x0:Z6)(x1:Z6)(v9_0:Bool):V.jn (V.joinF Yc.E Tryz.f127.ntmps [1,0,0,1,1] [] (V.codeOf Tryz.f127) (Yc.kt x0 x1)) (Yc.s9 x0 x1 v9_0)=Yc.l9 x0 x1 v9_0:=by
 rw[V.jn_eq,Yc.r9]
 rfl
noncomputable abbrev Yc.s (x0:Z6)(x1:Z6):V.St:=⟨[(0, .v true (V.lsHead x0)),(1, .v true (V.lsHead x1))],[]⟩
theorem Yc.v0 (x0:Z6)(x1:Z6):V.evBody Yc.E Yc.con Tryz.f127 (V.fl3 x0 x1)=V.evC Yc.E Tryz.f127.ntmps (V.codeOf Tryz.f127) (Yc.kt x0 x1) (Yc.s x0 x1):=by kernel_rfl
theorem Yc.v (x0:Z6)(x1:Z6):V.evC Yc.E Tryz.f127.ntmps (V.codeOf Tryz.f127) (Yc.kt x0 x1) (Yc.s x0 x1)=Yc.b x0 x1 (fun v9_0=>V.jn (V.joinF Yc.E Tryz.f127.ntmps [1,0,0,1,1] [] (V.codeOf Tryz.f127) (Yc.kt x0 x1)) (Yc.s9 x0 x1 v9_0)):=by kernel_rfl
theorem Yc.eq (x0:Z6)(x1:Z6):V.evBody Yc.E Yc.con Tryz.f127 (V.fl3 x0 x1)=Yc x0 x1:=by
 rw[Yc.v0,Yc.v]
 simp only[Yc.e9]
 rfl
theorem Yc.ok :V.Valid Tryz.prog 127 Yc.con:=
 V.fo (V.tab_cons XX.ok (V.tab_cons W9.ok (V.tab_cons Xk.ok V.tab_nil))) Tryz.func127 (by kernel_rfl) (fun x y h=>(show V.evBody Yc.E Yc.con Tryz.f127 x=_ from Yc.eq (V.p3_0 x) (V.p3_1 x)).trans (V.cfl (by kernel_rfl) h))
noncomputable abbrev Zy.con :V.Con:=⟨V.A4,(V.ci .nil),fun(x:V.D4)=>Zy (V.p4_0 x) (V.p4_1 x),[],[(true,16),(true,17)],[(false,1)],[false],[]⟩
noncomputable abbrev Zy.E :V.Env:=V.mkE V.tys [(113,Zw.con),(114,X5.con),(125,Xx.con),(126,Yb.con),(127,Yc.con),(128,Wr.con),(129,X0.con)] [(9,[2,3,5],[]),(13,[2,3,5],[]),(31,[3,5,6,7],[])] [(4,25),(15,8)] [] [] []
noncomputable abbrev Zy.kt (x0:Z6)(x1:Z5):V.Kt Int:=V.ktOf Zy.E Zy.con Tryz.f76 (V.fl4 x0 x1)
noncomputable abbrev Zy.s31 (x1:Z5)(v31_0:Int)(v31_34:List Int)(v31_35:Int):V.St:=⟨[(3, .v false [.ptr 64064 0]),(5, .v false [.ptr 128128 0]),(6, .v false [.vi (v31_0)]),(7, .v false [.ptr 512128 0])],[(64064, .box (V.lsSigned x1)),(128128, .box [.vi (x1.1), .vi (x1.2.1), .vi (x1.2.2.1), .vi (x1.2.2.2.1), .vi (x1.2.2.2.2.1), .vi (x1.2.2.2.2.2.1), .vi (x1.2.2.2.2.2.2.1), .vi (x1.2.2.2.2.2.2.2.1), .val (.sl (V.ci .nil) x1.2.2.2.2.2.2.2.2.1), .vi (x1.2.2.2.2.2.2.2.2.2.1), .val (.sl (V.ci .nil) x1.2.2.2.2.2.2.2.2.2.2.1), .vi (x1.2.2.2.2.2.2.2.2.2.2.2.1), .vi (x1.2.2.2.2.2.2.2.2.2.2.2.2.1), .val (.sl (V.ci .nil) x1.2.2.2.2.2.2.2.2.2.2.2.2.2.1), .vi (x1.2.2.2.2.2.2.2.2.2.2.2.2.2.2.1), .val (.bool x1.2.2.2.2.2.2.2.2.2.2.2.2.2.2.2.1)]),(512128, .box [.val (.sl (V.ci .nil) v31_34), .vi (v31_35)])]⟩
noncomputable abbrev Zy.s13 (x0:Z6)(x1:Z5):V.St:=⟨[(2, .v false [.ptr 64000 0]),(3, .v false [.ptr 64064 0]),(5, .v false [.ptr 128128 0])],[(64000, .box (V.lsHead x0)),(64064, .box (V.lsSigned x1)),(128128, .box [.vi (x1.1), .vi (x1.2.1), .vi (x1.2.2.1), .vi (x1.2.2.2.1), .vi (x1.2.2.2.2.1), .vi (x1.2.2.2.2.2.1), .vi (x1.2.2.2.2.2.2.1), .vi (x1.2.2.2.2.2.2.2.1), .val (.sl (V.ci .nil) x1.2.2.2.2.2.2.2.2.1), .vi (x1.2.2.2.2.2.2.2.2.2.1), .val (.sl (V.ci .nil) x1.2.2.2.2.2.2.2.2.2.2.1), .vi (x1.2.2.2.2.2.2.2.2.2.2.2.1), .vi (x1.2.2.2.2.2.2.2.2.2.2.2.2.1), .val (.sl (V.ci .nil) x1.2.2.2.2.2.2.2.2.2.2.2.2.2.1), .vi (x1.2.2.2.2.2.2.2.2.2.2.2.2.2.2.1), .val (.bool x1.2.2.2.2.2.2.2.2.2.2.2.2.2.2.2.1)])]⟩
noncomputable abbrev Zy.s9 (x0:Z6)(x1:Z5):V.St:=⟨[(2, .v false [.ptr 64000 0]),(3, .v false [.ptr 64064 0]),(5, .v false [.ptr 128128 0])],[(64000, .box (V.lsHead x0)),(64064, .box (V.lsSigned x1)),(128128, .box [.vi (x1.1), .vi (x1.2.1), .vi (x1.2.2.1), .vi (x1.2.2.2.1), .vi (x1.2.2.2.2.1), .vi (x1.2.2.2.2.2.1), .vi (x1.2.2.2.2.2.2.1), .vi (x1.2.2.2.2.2.2.2.1), .val (.sl (V.ci .nil) x1.2.2.2.2.2.2.2.2.1), .vi (x1.2.2.2.2.2.2.2.2.2.1), .val (.sl (V.ci .nil) x1.2.2.2.2.2.2.2.2.2.2.1), .vi (x1.2.2.2.2.2.2.2.2.2.2.2.1), .vi (x1.2.2.2.2.2.2.2.2.2.2.2.2.1), .val (.sl (V.ci .nil) x1.2.2.2.2.2.2.2.2.2.2.2.2.2.1), .vi (x1.2.2.2.2.2.2.2.2.2.2.2.2.2.2.1), .val (.bool x1.2.2.2.2.2.2.2.2.2.2.2.2.2.2.2.1)])]⟩
theorem Zy.r31 (x0:Z6)(x1:Z5)(v31_0:Int)(v31_34:List Int)(v31_35:Int):V.joinF Zy.E Tryz.f76.ntmps [1,1,1,1,1,1] [] (V.codeOf Tryz.f76) (Zy.kt x0 x1) (Zy.s31 x1 v31_0 v31_34 v31_35)=Zy.g31 x1 v31_0 v31_34 v31_35:=by kernel_rfl
theorem Zy.e31 (x0:Z6)(x1:Z5)(v31_0:Int)(v31_34:List Int)(v31_35:Int):V.jn (V.joinF Zy.E Tryz.f76.ntmps [1,1,1,1,1,1] [] (V.codeOf Tryz.f76) (Zy.kt x0 x1)) (Zy.s31 x1 v31_0 v31_34 v31_35)=Zy.l31 x1 v31_0 v31_34 v31_35:=by
 rw[V.jn_eq,Zy.r31]
 rfl
theorem Zy.r13 (x0:Z6)(x1:Z5):V.joinF Zy.E Tryz.f76.ntmps [1,1,1] [] (V.codeOf Tryz.f76) (Zy.kt x0 x1) (Zy.s13 x0 x1)=Zy.g13 x0 x1 (fun v31_0 v31_34 v31_35=>V.jn (V.joinF Zy.E Tryz.f76.ntmps [1,1,1,1,1,1] [] (V.codeOf Tryz.f76) (Zy.kt x0 x1)) (Zy.s31 x1 v31_0 v31_34 v31_35)):=by kernel_rfl
theorem Zy.e13 (x0:Z6)(x1:Z5):V.jn (V.joinF Zy.E Tryz.f76.ntmps [1,1,1] [] (V.codeOf Tryz.f76) (Zy.kt x0 x1)) (Zy.s13 x0 x1)=Zy.l13 x0 x1:=by
 rw[V.jn_eq,Zy.r13]
 simp only[Zy.e31]
 rfl
theorem Zy.r9 (x0:Z6)(x1:Z5):V.joinF Zy.E Tryz.f76.ntmps [1,1] [] (V.codeOf Tryz.f76) (Zy.kt x0 x1) (Zy.s9 x0 x1)=Zy.g9 x0 x1 (V.jn (V.joinF Zy.E Tryz.f76.ntmps [1,1,1] [] (V.codeOf Tryz.f76) (Zy.kt x0 x1)) (Zy.s13 x0 x1)):=by kernel_rfl
theorem Zy.e9 (x0:Z6)(x1:Z5):V.jn (V.joinF Zy.E Tryz.f76.ntmps [1,1] [] (V.codeOf Tryz.f76) (Zy.kt x0 x1)) (Zy.s9 x0 x1)=Zy.l9 x0 x1:=by
 rw[V.jn_eq,Zy.r9]
 simp only[Zy.e13]
 rfl
noncomputable abbrev Zy.s (x0:Z6)(x1:Z5):V.St:=⟨[(0, .v true (V.lsHead x0)),(1, .v true (V.lsSigned x1))],[]⟩
theorem Zy.v0 (x0:Z6)(x1:Z5):V.evBody Zy.E Zy.con Tryz.f76 (V.fl4 x0 x1)=V.evC Zy.E Tryz.f76.ntmps (V.codeOf Tryz.f76) (Zy.kt x0 x1) (Zy.s x0 x1):=by kernel_rfl
theorem Zy.v (x0:Z6)(x1:Z5):V.evC Zy.E Tryz.f76.ntmps (V.codeOf Tryz.f76) (Zy.kt x0 x1) (Zy.s x0 x1)=Zy.b x0 x1 (V.jn (V.joinF Zy.E Tryz.f76.ntmps [1,1] [] (V.codeOf Tryz.f76) (Zy.kt x0 x1)) (Zy.s9 x0 x1)):=by kernel_rfl
theorem Zy.eq (x0:Z6)(x1:Z5):V.evBody Zy.E Zy.con Tryz.f76 (V.fl4 x0 x1)=Zy x0 x1:=by
 rw[Zy.v0,Zy.v]
 simp only[Zy.e9]
 rfl
theorem Zy.ok :V.Valid Tryz.prog 76 Zy.con:=
 V.fo (V.tab_cons Zw.ok (V.tab_cons X5.ok (V.tab_cons Xx.ok (V.tab_cons Yb.ok (V.tab_cons Yc.ok (V.tab_cons Wr.ok (V.tab_cons X0.ok V.tab_nil))))))) Tryz.func76 (by kernel_rfl) (fun x y h=>(show V.evBody Zy.E Zy.con Tryz.f76 x=_ from Zy.eq (V.p4_0 x) (V.p4_1 x)).trans (V.cfl (by kernel_rfl) h))
noncomputable abbrev Xv.con :V.Con:=⟨V.A4,(.cons .bool .nil),fun(x:V.D4)=>Xv (V.p4_0 x) (V.p4_1 x),[],[(true,16),(true,17)],[(false,1)],[false],[]⟩
noncomputable abbrev Xv.E :V.Env:=V.mkE V.tys [(76,Zy.con)] [] [] [] [] []
noncomputable abbrev Xv.kt (x0:Z6)(x1:Z5):V.Kt Bool:=V.ktOf Xv.E Xv.con Tryz.f157 (V.fl4 x0 x1)
noncomputable abbrev Xv.s (x0:Z6)(x1:Z5):V.St:=⟨[(0, .v true (V.lsHead x0)),(1, .v true (V.lsSigned x1))],[]⟩
theorem Xv.v0 (x0:Z6)(x1:Z5):V.evBody Xv.E Xv.con Tryz.f157 (V.fl4 x0 x1)=V.evC Xv.E Tryz.f157.ntmps (V.codeOf Tryz.f157) (Xv.kt x0 x1) (Xv.s x0 x1):=by kernel_rfl
theorem Xv.v (x0:Z6)(x1:Z5):V.evC Xv.E Tryz.f157.ntmps (V.codeOf Tryz.f157) (Xv.kt x0 x1) (Xv.s x0 x1)=Xv x0 x1:=by kernel_rfl
theorem Xv.eq (x0:Z6)(x1:Z5):V.evBody Xv.E Xv.con Tryz.f157 (V.fl4 x0 x1)=Xv x0 x1:=(Xv.v0 x0 x1).trans (Xv.v x0 x1)
theorem Xv.ok :V.Valid Tryz.prog 157 Xv.con:=
 V.fo (V.tab_cons Zy.ok V.tab_nil) Tryz.func157 (by kernel_rfl) (fun x y h=>(show V.evBody Xv.E Xv.con Tryz.f157 x=_ from Xv.eq (V.p4_0 x) (V.p4_1 x)).trans (V.cfl (by kernel_rfl) h))
noncomputable abbrev Yh.con :V.Con:=⟨(.cons (.sl V.eSigned) .nil),(V.ci .nil),fun(x:List Z5)=>Yh x,[],[(false,1)],[(false,1)],[false],[]⟩
noncomputable abbrev Yh.E :V.Env:=V.mkE V.tys [(156,Xu.con),(157,Xv.con)] [(4,[0,3],[])] [(4,23)] [] [] []
noncomputable abbrev Yh.kt (x0:List Z5):V.Kt Int:=V.ktOf Yh.E Yh.con Tryz.f104 ((x0):List Z5)
noncomputable abbrev Yh.s4 (x0:List Z5)(v4_1:Int):V.St:=⟨[(0, .v false [.val (.sl V.eSigned x0)]),(3, .v false [.vi (v4_1)])],[]⟩
theorem Yh.r4 (x0:List Z5)(R:V.St→Option Int)(v4_1:Int):V.loopF Yh.E Tryz.f104.ntmps [1,0,1,0] [] (V.codeOf Tryz.f104) (Yh.kt x0) R (Yh.s4 x0 v4_1)=Yh.g4 x0 (fun v4_1=>R (Yh.s4 x0 v4_1)) v4_1:=by kernel_rfl
theorem Yh.e4 (x0:List Z5):∀(n:Nat) (v4_1:Int),V.loopN (V.loopF Yh.E Tryz.f104.ntmps [1,0,1,0] [] (V.codeOf Tryz.f104) (Yh.kt x0)) n (Yh.s4 x0 v4_1)=Yh.l4 x0 n v4_1:=by
 intro n
 induction n with
 |zero=>intros;rw[V.loopN_z];rfl
 |succ n ih=>
  intro v4_1
  rw[V.loopN_s,Yh.r4]
  simp only[ih]
  first|exact(Yh.u4 ..).symm|rfl
theorem Yh.v (x0:List Z5):V.evBody Yh.E Yh.con Tryz.f104 ((x0):List Z5)=Yh.b x0 (fun v4_1=>V.loopN (V.loopF Yh.E Tryz.f104.ntmps [1,0,1,0] [] (V.codeOf Tryz.f104) (Yh.kt x0)) V.KK (Yh.s4 x0 v4_1)):=by kernel_rfl
theorem Yh.eq (x0:List Z5):V.evBody Yh.E Yh.con Tryz.f104 ((x0):List Z5)=Yh x0:=by
 rw[Yh.v]
 simp only[Yh.e4]
 rfl
theorem Yh.ok :V.Valid Tryz.prog 104 Yh.con:=
 V.fo (V.tab_cons Xu.ok (V.tab_cons Xv.ok V.tab_nil)) Tryz.func104 (by kernel_rfl) (fun x y h=>(show V.evBody Yh.E Yh.con Tryz.f104 x=_ from Yh.eq x).trans (V.cfl (by kernel_rfl) h))
noncomputable abbrev Ud.con :V.Con:=⟨(.cons (.sl V.eSigned) .nil),(.cons .bool .nil),fun(x:List Z5)=>Ud x,[],[(false,1)],[(false,1)],[false],[]⟩
noncomputable abbrev Ud.E :V.Env:=V.mkE V.tys [(103,Yj.con),(104,Yh.con)] [] [] [] [] []
theorem Ud.eq (x0:List Z5):V.evBody Ud.E Ud.con Tryz.f58 ((x0):List Z5)=Ud x0:=by kernel_rfl
theorem Ud.ok :V.Valid Tryz.prog 58 Ud.con:=
 V.fo (V.tab_cons Yj.ok (V.tab_cons Yh.ok V.tab_nil)) Tryz.func58 (by kernel_rfl) (fun x y h=>(show V.evBody Ud.E Ud.con Tryz.f58 x=_ from Ud.eq x).trans (V.cfl (by kernel_rfl) h))
noncomputable abbrev Xb.con :V.Con:=⟨(.cons (.sl V.eSigned) .nil),V.eRHeadBool,fun(x:List Z5)=>Xb x,[],[(false,1)],[(true,16),(false,1)],[false,false,false,false,false,false,false,false,true,false,true,false,false,true,false,false,false],[]⟩
noncomputable abbrev Xb.E :V.Env:=V.mkE V.tys [(58,Ud.con),(59,YX.con)] [] [] [] [] []
theorem Xb.eq (x0:List Z5):V.evBody Xb.E Xb.con Tryz.f25 ((x0):List Z5)=Xb x0:=by kernel_rfl
theorem Xb.ok :V.Valid Tryz.prog 25 Xb.con:=
 V.fo (V.tab_cons Ud.ok (V.tab_cons YX.ok V.tab_nil)) Tryz.func25 (by kernel_rfl) (fun x y h=>(show V.evBody Xb.E Xb.con Tryz.f25 x=_ from Xb.eq x).trans (V.cfl (by kernel_rfl) h))
noncomputable abbrev Xn.con :V.Con:=⟨(.cons (.ptr (.cons (.sl (.cons (.int .u8) .nil)) (V.ci (V.ci .nil)))) (V.ci .nil)),(.cons (.ptr (.cons (.sl (.cons (.int .u8) .nil)) (V.ci (V.ci .nil)))) (.cons .bool .nil)),fun(x:(Z3)×Int)=>Xn x.1 x.2,[(0,false)],[(false,1),(false,1)],[(false,1)],[false],[]⟩
noncomputable abbrev Xn.E :V.Env:=V.mkE V.tys [(31,Zd.con)] [] [] [] [] []
theorem Xn.eq (x0:(Z3))(x1:Int):V.evBody Xn.E Xn.con Tryz.f26 ((x0,x1):(Z3)×Int)=Xn x0 x1:=by kernel_rfl
theorem Xn.ok :V.Valid Tryz.prog 26 Xn.con:=
 V.fo (V.tab_cons Zd.ok V.tab_nil) Tryz.func26 (by kernel_rfl) (fun x y h=>(show V.evBody Xn.E Xn.con Tryz.f26 x=_ from Xn.eq x.1 x.2).trans (V.cfl (by kernel_rfl) h))
noncomputable abbrev Zh.con :V.Con:=⟨V.A5,(.cons (.ptr (.cons (.sl (.cons (.int .u8) .nil)) (V.ci (V.ci .nil)))) (V.ci (V.ci (V.ci (V.ci (V.ci (V.ci (V.ci (V.ci (.cons (.sl (V.ci .nil)) (V.ci (.cons (.sl (V.ci .nil)) (V.ci (V.ci (.cons (.sl (V.ci .nil)) (V.ci (.cons .bool (.cons (.sl (V.ci (V.ci .nil))) .nil)))))))))))))))))),fun(x:V.D5)=>Zh (V.p5_0 x) (V.p5_1 x),[(0,false)],[(false,1),(true,16)],[(true,17)],[false,false,false,false,false,false,false,false,true,false,true,false,false,true,false,false,true],[]⟩
noncomputable abbrev Zh.E :V.Env:=V.mkE V.tys [(26,Xn.con),(29,ZK.con),(31,Zd.con),(59,YX.con),(68,XP.con),(78,YS.con),(98,ZN.con),(105,XT.con),(114,X5.con)] [(11,[0,3,4,5],[]),(13,[0,3,4,5],[]),(25,[0,3,4,5,6],[]),(27,[0,3,4,5,6],[]),(41,[0,4,5,6,73],[]),(63,[0,4,5,6],[])] [] [] [] [(4,[1000]),(5,[1000]),(11,[1000]),(12,[1000])]
noncomputable abbrev Zh.kt (x0:(Z3))(x1:Z6):V.Kt ((Z3)×Int×Int×Int×Int×Int×Int×Int×Int×List Int×Int×List Int×Int×Int×List Int×Int×Bool×List Zb):=V.ktOf Zh.E Zh.con Tryz.f153 (V.fl5 x0 x1)
noncomputable abbrev Zh.s63 (x0:(Z3))(v11_33:Int)(y1:Z6)(y2:Int)(v63_1:Int)(v63_2:Int)(v63_18:Int)(v63_19:Int)(v63_20:Int)(v63_21:Int)(v63_22:Int)(v63_24:Int)(v63_25:Int)(v63_26:Int)(v63_27:Int)(v63_28:Bool)(v63_29:List Int)(v63_30:List Int)(v63_31:List Int)(v63_32:List Int)(v63_33:Int):V.St:=⟨[(0, .v false [.ptr 0 0]),(4, .v false [.ptr 64064 0]),(5, .v false [.ptr 128128 0]),(6, .v false [.ptr 512128 0])],[(0, .box [.val (.sl (.cons (.int .u8) .nil) x0.1), .vi (v63_1), .vi (v63_2)]),(64064, .box [.vi ((0:Int)), .vi ((0:Int)), .vi ((0:Int)), .vi ((0:Int)), .vi ((0:Int)), .vi ((0:Int)), .vi ((0:Int)), .vi ((0:Int)), .nil0, .vi ((0:Int)), .nil0, .vi ((0:Int)), .vi ((0:Int)), .nil0, .vi ((0:Int)), .val (.bool false), .nil0]),(128128, .box [.vi (y1.1), .vi (v11_33), .vi (v63_18), .vi (v63_19), .vi (v63_20), .vi (v63_21), .vi (v63_22), .vi (y2), .ref 64000000000008200200, .vi (v63_24), .ref 64000000000008200202, .vi (v63_25), .vi (v63_26), .ref 64000000000008200205, .vi (v63_27), .val (.bool v63_28)]),(64000000000008200200, .row (V.ci .nil) true v63_29),(64000000000008200202, .row (V.ci .nil) true v63_30),(64000000000008200205, .row (V.ci .nil) true v63_31),(512128, .box [.val (.sl (V.ci .nil) v63_32), .vi (v63_33)])]⟩
noncomputable abbrev Zh.s27 (x0:(Z3))(x1:Z6)(v11_33:Int)(v25_35:Int)(y1:Z6)(y2:Int)(v27_1:Int)(v27_2:Int)(v27_36:Int):V.St:=⟨[(0, .v false [.ptr 0 0]),(3, .v false [.ptr 64000 0]),(4, .v false [.ptr 64064 0]),(5, .v false [.ptr 128128 0]),(6, .v false [.ptr 512128 0])],[(0, .box [.val (.sl (.cons (.int .u8) .nil) x0.1), .vi (v27_1), .vi (v27_2)]),(64000, .box (V.lsHead x1)),(64064, .box [.vi ((0:Int)), .vi ((0:Int)), .vi ((0:Int)), .vi ((0:Int)), .vi ((0:Int)), .vi ((0:Int)), .vi ((0:Int)), .vi ((0:Int)), .nil0, .vi ((0:Int)), .nil0, .vi ((0:Int)), .vi ((0:Int)), .nil0, .vi ((0:Int)), .val (.bool false), .nil0]),(128128, .box [.vi (y1.1), .vi (v11_33), .vi ((2:Int)), .vi (v25_35), .vi (v27_36), .vi (y1.2.2.2.2.2.1), .vi (y1.2.2.2.2.2.2.1), .vi (y2), .ref 64000000000008200200, .vi (y1.2.2.2.2.2.2.2.2.2.1), .ref 64000000000008200202, .vi (y1.2.2.2.2.2.2.2.2.2.2.2.1), .vi (y1.2.2.2.2.2.2.2.2.2.2.2.2.1), .ref 64000000000008200205, .vi (y1.2.2.2.2.2.2.2.2.2.2.2.2.2.2.1), .val (.bool y1.2.2.2.2.2.2.2.2.2.2.2.2.2.2.2)]),(64000000000008200200, .row (V.ci .nil) true y1.2.2.2.2.2.2.2.2.1),(64000000000008200202, .row (V.ci .nil) true y1.2.2.2.2.2.2.2.2.2.2.1),(64000000000008200205, .row (V.ci .nil) true y1.2.2.2.2.2.2.2.2.2.2.2.2.2.1),(512128, .box [.val (.sl (V.ci .nil) x1.2.2.2.2.2.2.2.2.1), .vi (x1.2.2.2.2.2.2.2.2.2.1)])]⟩
noncomputable abbrev Zh.s25 (x0:(Z3))(x1:Z6)(v11_33:Int)(v13_36:Int)(y1:Z6)(y2:Int)(v25_1:Int)(v25_2:Int)(v25_35:Int):V.St:=⟨[(0, .v false [.ptr 0 0]),(3, .v false [.ptr 64000 0]),(4, .v false [.ptr 64064 0]),(5, .v false [.ptr 128128 0]),(6, .v false [.ptr 512128 0])],[(0, .box [.val (.sl (.cons (.int .u8) .nil) x0.1), .vi (v25_1), .vi (v25_2)]),(64000, .box (V.lsHead x1)),(64064, .box [.vi ((0:Int)), .vi ((0:Int)), .vi ((0:Int)), .vi ((0:Int)), .vi ((0:Int)), .vi ((0:Int)), .vi ((0:Int)), .vi ((0:Int)), .nil0, .vi ((0:Int)), .nil0, .vi ((0:Int)), .vi ((0:Int)), .nil0, .vi ((0:Int)), .val (.bool false), .nil0]),(128128, .box [.vi (y1.1), .vi (v11_33), .vi ((2:Int)), .vi (v25_35), .vi (v13_36), .vi (y1.2.2.2.2.2.1), .vi (y1.2.2.2.2.2.2.1), .vi (y2), .ref 64000000000008200200, .vi (y1.2.2.2.2.2.2.2.2.2.1), .ref 64000000000008200202, .vi (y1.2.2.2.2.2.2.2.2.2.2.2.1), .vi (y1.2.2.2.2.2.2.2.2.2.2.2.2.1), .ref 64000000000008200205, .vi (y1.2.2.2.2.2.2.2.2.2.2.2.2.2.2.1), .val (.bool y1.2.2.2.2.2.2.2.2.2.2.2.2.2.2.2)]),(64000000000008200200, .row (V.ci .nil) true y1.2.2.2.2.2.2.2.2.1),(64000000000008200202, .row (V.ci .nil) true y1.2.2.2.2.2.2.2.2.2.2.1),(64000000000008200205, .row (V.ci .nil) true y1.2.2.2.2.2.2.2.2.2.2.2.2.2.1),(512128, .box [.val (.sl (V.ci .nil) x1.2.2.2.2.2.2.2.2.1), .vi (x1.2.2.2.2.2.2.2.2.2.1)])]⟩
noncomputable abbrev Zh.s41 (x0:(Z3))(x1:Z6)(v11_33:Int)(v11_35:Int)(v13_36:Int)(y1:Z6)(y2:Int)(v41_0:Bool)(v41_2:Int)(v41_3:Int)(v41_29:Bool):V.St:=⟨[(0, .v false [.ptr 0 0]),(4, .v false [.ptr 64064 0]),(5, .v false [.ptr 128128 0]),(6, .v false [.ptr 512128 0]),(73, .v false [.val (.bool v41_0)])],[(0, .box [.val (.sl (.cons (.int .u8) .nil) x0.1), .vi (v41_2), .vi (v41_3)]),(64064, .box [.vi ((0:Int)), .vi ((0:Int)), .vi ((0:Int)), .vi ((0:Int)), .vi ((0:Int)), .vi ((0:Int)), .vi ((0:Int)), .vi ((0:Int)), .nil0, .vi ((0:Int)), .nil0, .vi ((0:Int)), .vi ((0:Int)), .nil0, .vi ((0:Int)), .val (.bool false), .nil0]),(128128, .box [.vi (y1.1), .vi (v11_33), .vi ((3:Int)), .vi (v11_35), .vi (v13_36), .vi (y1.2.2.2.2.2.1), .vi (y1.2.2.2.2.2.2.1), .vi (y2), .ref 64000000000008200200, .vi (y1.2.2.2.2.2.2.2.2.2.1), .ref 64000000000008200202, .vi (y1.2.2.2.2.2.2.2.2.2.2.2.1), .vi (y1.2.2.2.2.2.2.2.2.2.2.2.2.1), .ref 64000000000008200205, .vi (y1.2.2.2.2.2.2.2.2.2.2.2.2.2.2.1), .val (.bool v41_29)]),(64000000000008200200, .row (V.ci .nil) true y1.2.2.2.2.2.2.2.2.1),(64000000000008200202, .row (V.ci .nil) true y1.2.2.2.2.2.2.2.2.2.2.1),(64000000000008200205, .row (V.ci .nil) true y1.2.2.2.2.2.2.2.2.2.2.2.2.2.1),(512128, .box [.val (.sl (V.ci .nil) x1.2.2.2.2.2.2.2.2.2.2.2.2.2.1), .vi (x1.2.2.2.2.2.2.2.2.2.2.2.2.2.2.1)])]⟩
noncomputable abbrev Zh.s13 (x0:(Z3))(x1:Z6)(v11_33:Int)(v11_35:Int)(y1:Z6)(y2:Int)(v13_1:Int)(v13_2:Int)(v13_36:Int):V.St:=⟨[(0, .v false [.ptr 0 0]),(3, .v false [.ptr 64000 0]),(4, .v false [.ptr 64064 0]),(5, .v false [.ptr 128128 0])],[(0, .box [.val (.sl (.cons (.int .u8) .nil) x0.1), .vi (v13_1), .vi (v13_2)]),(64000, .box (V.lsHead x1)),(64064, .box [.vi ((0:Int)), .vi ((0:Int)), .vi ((0:Int)), .vi ((0:Int)), .vi ((0:Int)), .vi ((0:Int)), .vi ((0:Int)), .vi ((0:Int)), .nil0, .vi ((0:Int)), .nil0, .vi ((0:Int)), .vi ((0:Int)), .nil0, .vi ((0:Int)), .val (.bool false), .nil0]),(128128, .box [.vi (y1.1), .vi (v11_33), .vi (y1.2.2.1), .vi (v11_35), .vi (v13_36), .vi (y1.2.2.2.2.2.1), .vi (y1.2.2.2.2.2.2.1), .vi (y2), .ref 64000000000008200200, .vi (y1.2.2.2.2.2.2.2.2.2.1), .ref 64000000000008200202, .vi (y1.2.2.2.2.2.2.2.2.2.2.2.1), .vi (y1.2.2.2.2.2.2.2.2.2.2.2.2.1), .ref 64000000000008200205, .vi (y1.2.2.2.2.2.2.2.2.2.2.2.2.2.2.1), .val (.bool y1.2.2.2.2.2.2.2.2.2.2.2.2.2.2.2)]),(64000000000008200200, .row (V.ci .nil) true y1.2.2.2.2.2.2.2.2.1),(64000000000008200202, .row (V.ci .nil) true y1.2.2.2.2.2.2.2.2.2.2.1),(64000000000008200205, .row (V.ci .nil) true y1.2.2.2.2.2.2.2.2.2.2.2.2.2.1)]⟩
noncomputable abbrev Zh.s11 (x0:(Z3))(x1:Z6)(y1:Z6)(y2:Int)(v11_1:Int)(v11_2:Int)(v11_33:Int)(v11_35:Int):V.St:=⟨[(0, .v false [.ptr 0 0]),(3, .v false [.ptr 64000 0]),(4, .v false [.ptr 64064 0]),(5, .v false [.ptr 128128 0])],[(0, .box [.val (.sl (.cons (.int .u8) .nil) x0.1), .vi (v11_1), .vi (v11_2)]),(64000, .box (V.lsHead x1)),(64064, .box [.vi ((0:Int)), .vi ((0:Int)), .vi ((0:Int)), .vi ((0:Int)), .vi ((0:Int)), .vi ((0:Int)), .vi ((0:Int)), .vi ((0:Int)), .nil0, .vi ((0:Int)), .nil0, .vi ((0:Int)), .vi ((0:Int)), .nil0, .vi ((0:Int)), .val (.bool false), .nil0]),(128128, .box [.vi (y1.1), .vi (v11_33), .vi (y1.2.2.1), .vi (v11_35), .vi (y1.2.2.2.2.1), .vi (y1.2.2.2.2.2.1), .vi (y1.2.2.2.2.2.2.1), .vi (y2), .ref 64000000000008200200, .vi (y1.2.2.2.2.2.2.2.2.2.1), .ref 64000000000008200202, .vi (y1.2.2.2.2.2.2.2.2.2.2.2.1), .vi (y1.2.2.2.2.2.2.2.2.2.2.2.2.1), .ref 64000000000008200205, .vi (y1.2.2.2.2.2.2.2.2.2.2.2.2.2.2.1), .val (.bool y1.2.2.2.2.2.2.2.2.2.2.2.2.2.2.2)]),(64000000000008200200, .row (V.ci .nil) true y1.2.2.2.2.2.2.2.2.1),(64000000000008200202, .row (V.ci .nil) true y1.2.2.2.2.2.2.2.2.2.2.1),(64000000000008200205, .row (V.ci .nil) true y1.2.2.2.2.2.2.2.2.2.2.2.2.2.1)]⟩
theorem Zh.r63 (x0:(Z3))(x1:Z6)(v11_33:Int)(y1:Z6)(y2:Int)(v63_1:Int)(v63_2:Int)(v63_18:Int)(v63_19:Int)(v63_20:Int)(v63_21:Int)(v63_22:Int)(v63_24:Int)(v63_25:Int)(v63_26:Int)(v63_27:Int)(v63_28:Bool)(v63_29:List Int)(v63_30:List Int)(v63_31:List Int)(v63_32:List Int)(v63_33:Int):V.joinF Zh.E Tryz.f153.ntmps [1,1,1,1,1,1,1,1] [] (V.codeOf Tryz.f153) (Zh.kt x0 x1) (Zh.s63 x0 v11_33 y1 y2 v63_1 v63_2 v63_18 v63_19 v63_20 v63_21 v63_22 v63_24 v63_25 v63_26 v63_27 v63_28 v63_29 v63_30 v63_31 v63_32 v63_33)=Zh.g63 x0 v11_33 y1 y2 v63_1 v63_2 v63_18 v63_19 v63_20 v63_21 v63_22 v63_24 v63_25 v63_26 v63_27 v63_28 v63_29 v63_30 v63_31 v63_32 v63_33:=by kernel_rfl
theorem Zh.e63 (x0:(Z3))(x1:Z6)(v11_33:Int)(y1:Z6)(y2:Int)(v63_1:Int)(v63_2:Int)(v63_18:Int)(v63_19:Int)(v63_20:Int)(v63_21:Int)(v63_22:Int)(v63_24:Int)(v63_25:Int)(v63_26:Int)(v63_27:Int)(v63_28:Bool)(v63_29:List Int)(v63_30:List Int)(v63_31:List Int)(v63_32:List Int)(v63_33:Int):V.jn (V.joinF Zh.E Tryz.f153.ntmps [1,1,1,1,1,1,1,1] [] (V.codeOf Tryz.f153) (Zh.kt x0 x1)) (Zh.s63 x0 v11_33 y1 y2 v63_1 v63_2 v63_18 v63_19 v63_20 v63_21 v63_22 v63_24 v63_25 v63_26 v63_27 v63_28 v63_29 v63_30 v63_31 v63_32 v63_33)=Zh.l63 x0 v11_33 y1 y2 v63_1 v63_2 v63_18 v63_19 v63_20 v63_21 v63_22 v63_24 v63_25 v63_26 v63_27 v63_28 v63_29 v63_30 v63_31 v63_32 v63_33:=by
 rw[V.jn_eq,Zh.r63]
 rfl
theorem Zh.r27 (x0:(Z3))(x1:Z6)(v11_33:Int)(v25_35:Int)(y1:Z6)(y2:Int)(v27_1:Int)(v27_2:Int)(v27_36:Int):V.joinF Zh.E Tryz.f153.ntmps [1,1,1,1,1,1,1,1,0,1,0,1,0,1,1] [] (V.codeOf Tryz.f153) (Zh.kt x0 x1) (Zh.s27 x0 x1 v11_33 v25_35 y1 y2 v27_1 v27_2 v27_36)=Zh.g27 x0 x1 v11_33 v25_35 y1 y2 (fun y1 y2 v63_1 v63_2 v63_18 v63_19 v63_20 v63_21 v63_22 v63_24 v63_25 v63_26 v63_27 v63_28 v63_29 v63_30 v63_31 v63_32 v63_33=>V.jn (V.joinF Zh.E Tryz.f153.ntmps [1,1,1,1,1,1,1,1] [] (V.codeOf Tryz.f153) (Zh.kt x0 x1)) (Zh.s63 x0 v11_33 y1 y2 v63_1 v63_2 v63_18 v63_19 v63_20 v63_21 v63_22 v63_24 v63_25 v63_26 v63_27 v63_28 v63_29 v63_30 v63_31 v63_32 v63_33)) v27_1 v27_2 v27_36:=by kernel_rfl
theorem Zh.e27 (x0:(Z3))(x1:Z6)(v11_33:Int)(v25_35:Int)(y1:Z6)(y2:Int)(v27_1:Int)(v27_2:Int)(v27_36:Int):V.jn (V.joinF Zh.E Tryz.f153.ntmps [1,1,1,1,1,1,1,1,0,1,0,1,0,1,1] [] (V.codeOf Tryz.f153) (Zh.kt x0 x1)) (Zh.s27 x0 x1 v11_33 v25_35 y1 y2 v27_1 v27_2 v27_36)=Zh.l27 x0 x1 v11_33 v25_35 y1 y2 v27_1 v27_2 v27_36:=by
 rw[V.jn_eq,Zh.r27]
 simp only[Zh.e63]
 rfl
theorem Zh.r25 (x0:(Z3))(x1:Z6)(v11_33:Int)(v13_36:Int)(y1:Z6)(y2:Int)(v25_1:Int)(v25_2:Int)(v25_35:Int):V.joinF Zh.E Tryz.f153.ntmps [1,1,1,1,1,1,1,1,0,1,0,1,0,1] [] (V.codeOf Tryz.f153) (Zh.kt x0 x1) (Zh.s25 x0 x1 v11_33 v13_36 y1 y2 v25_1 v25_2 v25_35)=Zh.g25 x0 x1 v11_33 v13_36 y1 y2 (fun y1 y2 v27_1 v27_2 v27_36=>V.jn (V.joinF Zh.E Tryz.f153.ntmps [1,1,1,1,1,1,1,1,0,1,0,1,0,1,1] [] (V.codeOf Tryz.f153) (Zh.kt x0 x1)) (Zh.s27 x0 x1 v11_33 v25_35 y1 y2 v27_1 v27_2 v27_36)) v25_1 v25_2 v25_35:=by kernel_rfl
theorem Zh.e25 (x0:(Z3))(x1:Z6)(v11_33:Int)(v13_36:Int)(y1:Z6)(y2:Int)(v25_1:Int)(v25_2:Int)(v25_35:Int):V.jn (V.joinF Zh.E Tryz.f153.ntmps [1,1,1,1,1,1,1,1,0,1,0,1,0,1] [] (V.codeOf Tryz.f153) (Zh.kt x0 x1)) (Zh.s25 x0 x1 v11_33 v13_36 y1 y2 v25_1 v25_2 v25_35)=Zh.l25 x0 x1 v11_33 v13_36 y1 y2 v25_1 v25_2 v25_35:=by
 rw[V.jn_eq,Zh.r25]
 simp only[Zh.e27]
 rfl
theorem Zh.r41 (x0:(Z3))(x1:Z6)(v11_33:Int)(v11_35:Int)(v13_36:Int)(y1:Z6)(y2:Int)(v41_0:Bool)(v41_2:Int)(v41_3:Int)(v41_29:Bool):V.joinF Zh.E Tryz.f153.ntmps [1,1,1,1,1,1,1,1,0,1,0,1,1,1,0,1,1,1] [] (V.codeOf Tryz.f153) (Zh.kt x0 x1) (Zh.s41 x0 x1 v11_33 v11_35 v13_36 y1 y2 v41_0 v41_2 v41_3 v41_29)=Zh.g41 x0 x1 v11_33 v11_35 v13_36 y1 y2 (fun y1 y2 v63_1 v63_2 v63_18 v63_19 v63_20 v63_21 v63_22 v63_24 v63_25 v63_26 v63_27 v63_28 v63_29 v63_30 v63_31 v63_32 v63_33=>V.jn (V.joinF Zh.E Tryz.f153.ntmps [1,1,1,1,1,1,1,1] [] (V.codeOf Tryz.f153) (Zh.kt x0 x1)) (Zh.s63 x0 v11_33 y1 y2 v63_1 v63_2 v63_18 v63_19 v63_20 v63_21 v63_22 v63_24 v63_25 v63_26 v63_27 v63_28 v63_29 v63_30 v63_31 v63_32 v63_33)) v41_0 v41_2 v41_3 v41_29:=by kernel_rfl
theorem Zh.e41 (x0:(Z3))(x1:Z6)(v11_33:Int)(v11_35:Int)(v13_36:Int)(y1:Z6)(y2:Int)(v41_0:Bool)(v41_2:Int)(v41_3:Int)(v41_29:Bool):V.jn (V.joinF Zh.E Tryz.f153.ntmps [1,1,1,1,1,1,1,1,0,1,0,1,1,1,0,1,1,1] [] (V.codeOf Tryz.f153) (Zh.kt x0 x1)) (Zh.s41 x0 x1 v11_33 v11_35 v13_36 y1 y2 v41_0 v41_2 v41_3 v41_29)=Zh.l41 x0 x1 v11_33 v11_35 v13_36 y1 y2 v41_0 v41_2 v41_3 v41_29:=by
 rw[V.jn_eq,Zh.r41]
 simp only[Zh.e63]
 rfl
theorem Zh.r13 (x0:(Z3))(x1:Z6)(v11_33:Int)(v11_35:Int)(y1:Z6)(y2:Int)(v13_1:Int)(v13_2:Int)(v13_36:Int):V.joinF Zh.E Tryz.f153.ntmps [1,1,1,1,1] [] (V.codeOf Tryz.f153) (Zh.kt x0 x1) (Zh.s13 x0 x1 v11_33 v11_35 y1 y2 v13_1 v13_2 v13_36)=Zh.g13 x0 x1 v11_33 v11_35 y1 y2 (fun y1 y2 v25_1 v25_2 v25_35=>V.jn (V.joinF Zh.E Tryz.f153.ntmps [1,1,1,1,1,1,1,1,0,1,0,1,0,1] [] (V.codeOf Tryz.f153) (Zh.kt x0 x1)) (Zh.s25 x0 x1 v11_33 v13_36 y1 y2 v25_1 v25_2 v25_35)) (fun y1 y2 v41_0 v41_2 v41_3 v41_29=>V.jn (V.joinF Zh.E Tryz.f153.ntmps [1,1,1,1,1,1,1,1,0,1,0,1,1,1,0,1,1,1] [] (V.codeOf Tryz.f153) (Zh.kt x0 x1)) (Zh.s41 x0 x1 v11_33 v11_35 v13_36 y1 y2 v41_0 v41_2 v41_3 v41_29)) (fun y1 y2 v63_1 v63_2 v63_18 v63_19 v63_20 v63_21 v63_22 v63_24 v63_25 v63_26 v63_27 v63_28 v63_29 v63_30 v63_31 v63_32 v63_33=>V.jn (V.joinF Zh.E Tryz.f153.ntmps [1,1,1,1,1,1,1,1] [] (V.codeOf Tryz.f153) (Zh.kt x0 x1)) (Zh.s63 x0 v11_33 y1 y2 v63_1 v63_2 v63_18 v63_19 v63_20 v63_21 v63_22 v63_24 v63_25 v63_26 v63_27 v63_28 v63_29 v63_30 v63_31 v63_32 v63_33)) v13_1 v13_2 v13_36:=by kernel_rfl
theorem Zh.e13 (x0:(Z3))(x1:Z6)(v11_33:Int)(v11_35:Int)(y1:Z6)(y2:Int)(v13_1:Int)(v13_2:Int)(v13_36:Int):V.jn (V.joinF Zh.E Tryz.f153.ntmps [1,1,1,1,1] [] (V.codeOf Tryz.f153) (Zh.kt x0 x1)) (Zh.s13 x0 x1 v11_33 v11_35 y1 y2 v13_1 v13_2 v13_36)=Zh.l13 x0 x1 v11_33 v11_35 y1 y2 v13_1 v13_2 v13_36:=by
 rw[V.jn_eq,Zh.r13]
 simp only[Zh.e25,Zh.e41,Zh.e63]
 rfl
theorem Zh.r11 (x0:(Z3))(x1:Z6)(y1:Z6)(y2:Int)(v11_1:Int)(v11_2:Int)(v11_33:Int)(v11_35:Int):V.joinF Zh.E Tryz.f153.ntmps [1,1,1,1] [] (V.codeOf Tryz.f153) (Zh.kt x0 x1) (Zh.s11 x0 x1 y1 y2 v11_1 v11_2 v11_33 v11_35)=Zh.g11 x0 x1 y1 y2 (fun y1 y2 v13_1 v13_2 v13_36=>V.jn (V.joinF Zh.E Tryz.f153.ntmps [1,1,1,1,1] [] (V.codeOf Tryz.f153) (Zh.kt x0 x1)) (Zh.s13 x0 x1 v11_33 v11_35 y1 y2 v13_1 v13_2 v13_36)) v11_1 v11_2 v11_33 v11_35:=by kernel_rfl
theorem Zh.e11 (x0:(Z3))(x1:Z6)(y1:Z6)(y2:Int)(v11_1:Int)(v11_2:Int)(v11_33:Int)(v11_35:Int):V.jn (V.joinF Zh.E Tryz.f153.ntmps [1,1,1,1] [] (V.codeOf Tryz.f153) (Zh.kt x0 x1)) (Zh.s11 x0 x1 y1 y2 v11_1 v11_2 v11_33 v11_35)=Zh.l11 x0 x1 y1 y2 v11_1 v11_2 v11_33 v11_35:=by
 rw[V.jn_eq,Zh.r11]
 simp only[Zh.e13]
 rfl
noncomputable abbrev Zh.s (x0:(Z3))(x1:Z6):V.St:=⟨[(0, .v false [.ptr 0 0]),(1, .v true (V.lsHead x1))],[(0, .box [.val (.sl (.cons (.int .u8) .nil) x0.1), .vi (x0.2.1), .vi (x0.2.2)])]⟩
theorem Zh.v0 (x0:(Z3))(x1:Z6):V.evBody Zh.E Zh.con Tryz.f153 (V.fl5 x0 x1)=V.evC Zh.E Tryz.f153.ntmps (V.codeOf Tryz.f153) (Zh.kt x0 x1) (Zh.s x0 x1):=by kernel_rfl
theorem Zh.v (x0:(Z3))(x1:Z6):V.evC Zh.E Tryz.f153.ntmps (V.codeOf Tryz.f153) (Zh.kt x0 x1) (Zh.s x0 x1)=Zh.b x0 x1 (fun y1 y2 v11_1 v11_2 v11_33 v11_35=>V.jn (V.joinF Zh.E Tryz.f153.ntmps [1,1,1,1] [] (V.codeOf Tryz.f153) (Zh.kt x0 x1)) (Zh.s11 x0 x1 y1 y2 v11_1 v11_2 v11_33 v11_35)):=by kernel_rfl
theorem Zh.eq (x0:(Z3))(x1:Z6):V.evBody Zh.E Zh.con Tryz.f153 (V.fl5 x0 x1)=Zh x0 x1:=by
 rw[Zh.v0,Zh.v]
 simp only[Zh.e11]
 rfl
theorem Zh.ok :V.Valid Tryz.prog 153 Zh.con:=
 V.fo (V.tab_cons Xn.ok (V.tab_cons ZK.ok (V.tab_cons Zd.ok (V.tab_cons YX.ok (V.tab_cons XP.ok (V.tab_cons YS.ok (V.tab_cons ZN.ok (V.tab_cons XT.ok (V.tab_cons X5.ok V.tab_nil))))))))) Tryz.func153 (by kernel_rfl) (fun x y h=>(show V.evBody Zh.E Zh.con Tryz.f153 x=_ from Zh.eq (V.p5_0 x) (V.p5_1 x)).trans (V.cfl (by kernel_rfl) h))
noncomputable abbrev Xd.con :V.Con:=⟨V.A0,V.eRHeadBool,fun(x:V.D0)=>Xd (V.p0_0 x),[],[(true,16)],[(true,16),(false,1)],[false,false,false,false,false,false,false,false,false,false,false,false,false,false,false,false,false],[]⟩
noncomputable abbrev Xd.E :V.Env:=V.mkE V.tys [(113,Zw.con)] [] [] [] [] []
noncomputable abbrev Xd.kt (x0:Z6):V.Kt ZA:=V.ktOf Xd.E Xd.con Tryz.f69 (V.fl0 x0)
noncomputable abbrev Xd.s (x0:Z6):V.St:=⟨[(0, .v true (V.lsHead x0))],[]⟩
theorem Xd.v0 (x0:Z6):V.evBody Xd.E Xd.con Tryz.f69 (V.fl0 x0)=V.evC Xd.E Tryz.f69.ntmps (V.codeOf Tryz.f69) (Xd.kt x0) (Xd.s x0):=by kernel_rfl
theorem Xd.v (x0:Z6):V.evC Xd.E Tryz.f69.ntmps (V.codeOf Tryz.f69) (Xd.kt x0) (Xd.s x0)=Xd x0:=by kernel_rfl
theorem Xd.eq (x0:Z6):V.evBody Xd.E Xd.con Tryz.f69 (V.fl0 x0)=Xd x0:=(Xd.v0 x0).trans (Xd.v x0)
theorem Xd.ok :V.Valid Tryz.prog 69 Xd.con:=
 V.fo (V.tab_cons Zw.ok V.tab_nil) Tryz.func69 (by kernel_rfl) (fun x y h=>(show V.evBody Xd.E Xd.con Tryz.f69 x=_ from Xd.eq (V.p0_0 x)).trans (V.cfl (by kernel_rfl) h))
noncomputable abbrev Yi.con :V.Con:=⟨V.A6,V.eRHeadBool,fun(x:V.D6)=>Yi (V.p6_0 x) (V.p6_1 x) (V.p6_2 x) (V.p6_3 x),[],[(true,16),(false,1),(false,1),(false,1)],[(true,16),(false,1)],[false,false,false,false,false,false,false,false,false,false,false,false,false,false,false,false,false],[]⟩
noncomputable abbrev Yi.E :V.Env:=V.mkE V.tys [(59,YX.con),(69,Xd.con),(103,Yj.con),(113,Zw.con),(114,X5.con)] [(5,[1,2,3,4,8,25],[])] [] [] [] []
noncomputable abbrev Yi.kt (x0:Z6)(x1:Int)(x2:Int)(x3:Int):V.Kt ZA:=V.ktOf Yi.E Yi.con Tryz.f66 (V.fl6 x0 x1 x2 x3)
noncomputable abbrev Yi.s5 (x0:Z6)(x1:Int)(x2:Int)(x3:Int)(v5_3:Bool):V.St:=⟨[(1, .v false [.vi (x1)]),(2, .v false [.vi (x2)]),(3, .v false [.vi (x3)]),(4, .v false [.ptr 64000 0]),(8, .v false [.ptr 64064 0]),(25, .v false [.val (.bool v5_3)])],[(64000, .box (V.lsHead x0)),(64064, .box [.vi ((0:Int)), .vi ((0:Int)), .vi ((0:Int)), .vi ((0:Int)), .vi ((0:Int)), .vi ((0:Int)), .vi ((0:Int)), .vi ((0:Int)), .nil0, .vi ((0:Int)), .nil0, .vi ((0:Int)), .vi ((0:Int)), .nil0, .vi ((0:Int)), .val (.bool false)])]⟩
theorem Yi.r5 (x0:Z6)(x1:Int)(x2:Int)(x3:Int)(v5_3:Bool):V.joinF Yi.E Tryz.f66.ntmps [1,0] [] (V.codeOf Tryz.f66) (Yi.kt x0 x1 x2 x3) (Yi.s5 x0 x1 x2 x3 v5_3)=Yi.g5 x0 x1 x2 x3 v5_3:=by kernel_rfl
theorem Yi.e5 (x0:Z6)(x1:Int)(x2:Int)(x3:Int)(v5_3:Bool):V.jn (V.joinF Yi.E Tryz.f66.ntmps [1,0] [] (V.codeOf Tryz.f66) (Yi.kt x0 x1 x2 x3)) (Yi.s5 x0 x1 x2 x3 v5_3)=Yi.l5 x0 x1 x2 x3 v5_3:=by
 rw[V.jn_eq,Yi.r5]
 rfl
noncomputable abbrev Yi.s (x0:Z6)(x1:Int)(x2:Int)(x3:Int):V.St:=⟨[(0, .v true (V.lsHead x0)),(1, .v false [.vi (x1)]),(2, .v false [.vi (x2)]),(3, .v false [.vi (x3)])],[]⟩
theorem Yi.v0 (x0:Z6)(x1:Int)(x2:Int)(x3:Int):V.evBody Yi.E Yi.con Tryz.f66 (V.fl6 x0 x1 x2 x3)=V.evC Yi.E Tryz.f66.ntmps (V.codeOf Tryz.f66) (Yi.kt x0 x1 x2 x3) (Yi.s x0 x1 x2 x3):=by kernel_rfl
theorem Yi.v (x0:Z6)(x1:Int)(x2:Int)(x3:Int):V.evC Yi.E Tryz.f66.ntmps (V.codeOf Tryz.f66) (Yi.kt x0 x1 x2 x3) (Yi.s x0 x1 x2 x3)=Yi.b x0 x1 x2 x3 (fun v5_3=>V.jn (V.joinF Yi.E Tryz.f66.ntmps [1,0] [] (V.codeOf Tryz.f66) (Yi.kt x0 x1 x2 x3)) (Yi.s5 x0 x1 x2 x3 v5_3)):=by kernel_rfl
theorem Yi.eq (x0:Z6)(x1:Int)(x2:Int)(x3:Int):V.evBody Yi.E Yi.con Tryz.f66 (V.fl6 x0 x1 x2 x3)=Yi x0 x1 x2 x3:=by
 rw[Yi.v0,Yi.v]
 simp only[Yi.e5]
 rfl
theorem Yi.ok :V.Valid Tryz.prog 66 Yi.con:=
 V.fo (V.tab_cons YX.ok (V.tab_cons Xd.ok (V.tab_cons Yj.ok (V.tab_cons Zw.ok (V.tab_cons X5.ok V.tab_nil))))) Tryz.func66 (by kernel_rfl) (fun x y h=>(show V.evBody Yi.E Yi.con Tryz.f66 x=_ from Yi.eq (V.p6_0 x) (V.p6_1 x) (V.p6_2 x) (V.p6_3 x)).trans (V.cfl (by kernel_rfl) h))
noncomputable abbrev Zj.con :V.Con:=⟨V.A7,V.eRHeadBool,fun(x:V.D7)=>Zj (V.p7_0 x) (V.p7_1 x) (V.p7_2 x) (V.p7_3 x),[],[(true,16),(false,1),(false,1),(false,1)],[(true,16),(false,1)],[false,false,false,false,false,false,false,false,false,false,false,false,false,false,false,false,false],[]⟩
noncomputable abbrev Zj.E :V.Env:=V.mkE V.tys [(66,Yi.con),(67,ZU.con),(68,XP.con),(69,Xd.con)] [(7,[1,8,10,25],[])] [] [] [] []
noncomputable abbrev Zj.kt (x0:Z6)(x1:List Z4)(x2:Int)(x3:Int):V.Kt ZA:=V.ktOf Zj.E Zj.con Tryz.f30 (V.fl7 x0 x1 x2 x3)
noncomputable abbrev Zj.s7 (x1:List Z4)(y1:ZA)(v7_1:Bool):V.St:=⟨[(1, .v false [.val (.sl V.eEntry x1)]),(8, .v false [.ptr 64064 0]),(10, .v false [.ptr 128448 0]),(25, .v false [.val (.bool v7_1)])],[(64064, .box [.vi ((0:Int)), .vi ((0:Int)), .vi ((0:Int)), .vi ((0:Int)), .vi ((0:Int)), .vi ((0:Int)), .vi ((0:Int)), .vi ((0:Int)), .nil0, .vi ((0:Int)), .nil0, .vi ((0:Int)), .vi ((0:Int)), .nil0, .vi ((0:Int)), .val (.bool false)]),(128448, .box [.vi (y1.1), .vi (y1.2.1), .vi (y1.2.2.1), .vi (y1.2.2.2.1), .vi (y1.2.2.2.2.1), .vi (y1.2.2.2.2.2.1), .vi (y1.2.2.2.2.2.2.1), .vi (y1.2.2.2.2.2.2.2.1), .val (.sl (V.ci .nil) y1.2.2.2.2.2.2.2.2.1), .vi (y1.2.2.2.2.2.2.2.2.2.1), .val (.sl (V.ci .nil) y1.2.2.2.2.2.2.2.2.2.2.1), .vi (y1.2.2.2.2.2.2.2.2.2.2.2.1), .vi (y1.2.2.2.2.2.2.2.2.2.2.2.2.1), .val (.sl (V.ci .nil) y1.2.2.2.2.2.2.2.2.2.2.2.2.2.1), .vi (y1.2.2.2.2.2.2.2.2.2.2.2.2.2.2.1), .val (.bool y1.2.2.2.2.2.2.2.2.2.2.2.2.2.2.2.1)])]⟩
theorem Zj.r7 (x0:Z6)(x1:List Z4)(x2:Int)(x3:Int)(y1:ZA)(v7_1:Bool):V.joinF Zj.E Tryz.f30.ntmps [1,1,0] [] (V.codeOf Tryz.f30) (Zj.kt x0 x1 x2 x3) (Zj.s7 x1 y1 v7_1)=Zj.g7 x1 y1 v7_1:=by kernel_rfl
theorem Zj.e7 (x0:Z6)(x1:List Z4)(x2:Int)(x3:Int)(y1:ZA)(v7_1:Bool):V.jn (V.joinF Zj.E Tryz.f30.ntmps [1,1,0] [] (V.codeOf Tryz.f30) (Zj.kt x0 x1 x2 x3)) (Zj.s7 x1 y1 v7_1)=Zj.l7 x1 y1 v7_1:=by
 rw[V.jn_eq,Zj.r7]
 rfl
noncomputable abbrev Zj.s (x0:Z6)(x1:List Z4)(x2:Int)(x3:Int):V.St:=⟨[(0, .v true (V.lsHead x0)),(1, .v false [.val (.sl V.eEntry x1)]),(2, .v false [.vi (x2)]),(3, .v false [.vi (x3)])],[]⟩
theorem Zj.v0 (x0:Z6)(x1:List Z4)(x2:Int)(x3:Int):V.evBody Zj.E Zj.con Tryz.f30 (V.fl7 x0 x1 x2 x3)=V.evC Zj.E Tryz.f30.ntmps (V.codeOf Tryz.f30) (Zj.kt x0 x1 x2 x3) (Zj.s x0 x1 x2 x3):=by kernel_rfl
theorem Zj.v (x0:Z6)(x1:List Z4)(x2:Int)(x3:Int):V.evC Zj.E Tryz.f30.ntmps (V.codeOf Tryz.f30) (Zj.kt x0 x1 x2 x3) (Zj.s x0 x1 x2 x3)=Zj.b x0 x1 x2 x3 (fun y1 v7_1=>V.jn (V.joinF Zj.E Tryz.f30.ntmps [1,1,0] [] (V.codeOf Tryz.f30) (Zj.kt x0 x1 x2 x3)) (Zj.s7 x1 y1 v7_1)):=by kernel_rfl
theorem Zj.eq (x0:Z6)(x1:List Z4)(x2:Int)(x3:Int):V.evBody Zj.E Zj.con Tryz.f30 (V.fl7 x0 x1 x2 x3)=Zj x0 x1 x2 x3:=by
 rw[Zj.v0,Zj.v]
 simp only[Zj.e7]
 rfl
theorem Zj.ok :V.Valid Tryz.prog 30 Zj.con:=
 V.fo (V.tab_cons Yi.ok (V.tab_cons ZU.ok (V.tab_cons XP.ok (V.tab_cons Xd.ok V.tab_nil)))) Tryz.func30 (by kernel_rfl) (fun x y h=>(show V.evBody Zj.E Zj.con Tryz.f30 x=_ from Zj.eq (V.p7_0 x) (V.p7_1 x) (V.p7_2 x) (V.p7_3 x)).trans (V.cfl (by kernel_rfl) h))
noncomputable abbrev Ua.con :V.Con:=⟨(V.ci (.cons (.sl V.eEntry) .nil)),(.cons .bool .nil),fun(x:Int×List Z4)=>Ua x.1 x.2,[],[(false,1),(false,1)],[(false,1)],[false],[]⟩
noncomputable abbrev Ua.E :V.Env:=V.mkE V.tys [(67,ZU.con),(68,XP.con)] [] [] [] [] []
theorem Ua.eq (x0:Int)(x1:List Z4):V.evBody Ua.E Ua.con Tryz.f44 ((x0,x1):Int×List Z4)=Ua x0 x1:=by kernel_rfl
theorem Ua.ok :V.Valid Tryz.prog 44 Ua.con:=
 V.fo (V.tab_cons ZU.ok (V.tab_cons XP.ok V.tab_nil)) Tryz.func44 (by kernel_rfl) (fun x y h=>(show V.evBody Ua.E Ua.con Tryz.f44 x=_ from Ua.eq x.1 x.2).trans (V.cfl (by kernel_rfl) h))
noncomputable abbrev XI.con :V.Con:=⟨(.cons (.sl V.eSigned) (.cons (.sl V.eEntry) .nil)),(.cons .bool .nil),fun(x:List Z5×List Z4)=>XI x,[],[(true,2)],[(false,1)],[false],[]⟩
noncomputable abbrev XI.E :V.Env:=V.mkE V.tys [(25,Xb.con),(44,Ua.con)] [] [] [] [] []
theorem XI.eq (x0:Zt):V.evBody XI.E XI.con Tryz.f10 ((x0.1,x0.2):List Z5×List Z4)=XI x0:=by kernel_rfl
theorem XI.ok :V.Valid Tryz.prog 10 XI.con:=
 V.fo (V.tab_cons Xb.ok (V.tab_cons Ua.ok V.tab_nil)) Tryz.func10 (by kernel_rfl) (fun x y h=>(show V.evBody XI.E XI.con Tryz.f10 x=_ from XI.eq x).trans (V.cfl (by kernel_rfl) h))
noncomputable abbrev Xc.con :V.Con:=⟨V.A2,V.eSigned,fun(x:V.D2)=>Xc (V.p2_0 x),[],[(true,17)],[(true,17)],[false,false,false,false,false,false,false,false,true,false,true,false,false,true,false,false,true],[]⟩
noncomputable abbrev Xc.E :V.Env:=V.mkE V.tys [(59,YX.con)] [] [(1,6)] [] [] []
noncomputable abbrev Xc.kt (x0:Z5):V.Kt Z5:=V.ktOf Xc.E Xc.con Tryz.f77 (V.fl2 x0)
noncomputable abbrev Xc.s (x0:Z5):V.St:=⟨[(0, .v true (V.lsSigned x0))],[]⟩
theorem Xc.v0 (x0:Z5):V.evBody Xc.E Xc.con Tryz.f77 (V.fl2 x0)=V.evC Xc.E Tryz.f77.ntmps (V.codeOf Tryz.f77) (Xc.kt x0) (Xc.s x0):=by kernel_rfl
theorem Xc.v (x0:Z5):V.evC Xc.E Tryz.f77.ntmps (V.codeOf Tryz.f77) (Xc.kt x0) (Xc.s x0)=Xc x0:=by kernel_rfl
theorem Xc.eq (x0:Z5):V.evBody Xc.E Xc.con Tryz.f77 (V.fl2 x0)=Xc x0:=(Xc.v0 x0).trans (Xc.v x0)
theorem Xc.ok :V.Valid Tryz.prog 77 Xc.con:=
 V.fo (V.tab_cons YX.ok V.tab_nil) Tryz.func77 (by kernel_rfl) (fun x y h=>(show V.evBody Xc.E Xc.con Tryz.f77 x=_ from Xc.eq (V.p2_0 x)).trans (V.cfl (by kernel_rfl) h))
noncomputable abbrev Yd.con :V.Con:=⟨(.cons (.sl V.eSigned) .nil),(.cons (.sl V.eSigned) .nil),fun(x:List Z5)=>Yd x,[],[(false,1)],[(false,1)],[true],[]⟩
noncomputable abbrev Yd.E :V.Env:=V.mkE V.tys [(77,Xc.con)] [(6,[0,3,4],[(64000038400192,V.eSigned,true)])] [] [] [] []
noncomputable abbrev Yd.kt (x0:List Z5):V.Kt (List Z5):=V.ktOf Yd.E Yd.con Tryz.f75 ((x0):List Z5)
noncomputable abbrev Yd.s6 (x0:List Z5)(v6_1:Int)(v6_2:List Z5):V.St:=⟨[(0, .v false [.val (.sl V.eSigned x0)]),(3, .v false [.ref 64000038400192]),(4, .v false [.vi (v6_1)])],[(64000038400192, .row V.eSigned true v6_2)]⟩
theorem Yd.r6 (x0:List Z5)(R:V.St→Option (List Z5))(v6_1:Int)(v6_2:List Z5):V.loopF Yd.E Tryz.f75.ntmps [1,1,0,1,0] [] (V.codeOf Tryz.f75) (Yd.kt x0) R (Yd.s6 x0 v6_1 v6_2)=Yd.g6 x0 (fun v6_1 v6_2=>R (Yd.s6 x0 v6_1 v6_2)) v6_1 v6_2:=by kernel_rfl
theorem Yd.e6 (x0:List Z5):∀(n:Nat) (v6_1:Int) (v6_2:List Z5),V.loopN (V.loopF Yd.E Tryz.f75.ntmps [1,1,0,1,0] [] (V.codeOf Tryz.f75) (Yd.kt x0)) n (Yd.s6 x0 v6_1 v6_2)=Yd.l6 x0 n v6_1 v6_2:=by
 intro n
 induction n with
 |zero=>intros;rw[V.loopN_z];rfl
 |succ n ih=>
  intro v6_1 v6_2
  rw[V.loopN_s,Yd.r6]
  simp only[ih]
  first|exact(Yd.u6 ..).symm|rfl
theorem Yd.v (x0:List Z5):V.evBody Yd.E Yd.con Tryz.f75 ((x0):List Z5)=Yd.b x0 (fun v6_1 v6_2=>V.loopN (V.loopF Yd.E Tryz.f75.ntmps [1,1,0,1,0] [] (V.codeOf Tryz.f75) (Yd.kt x0)) V.KK (Yd.s6 x0 v6_1 v6_2)):=by kernel_rfl
theorem Yd.eq (x0:List Z5):V.evBody Yd.E Yd.con Tryz.f75 ((x0):List Z5)=Yd x0:=by
 rw[Yd.v]
 simp only[Yd.e6]
 rfl
theorem Yd.ok :V.Valid Tryz.prog 75 Yd.con:=
 V.fo (V.tab_cons Xc.ok V.tab_nil) Tryz.func75 (by kernel_rfl) (fun x y h=>(show V.evBody Yd.E Yd.con Tryz.f75 x=_ from Yd.eq x).trans (V.cfl (by kernel_rfl) h))
noncomputable abbrev Wa.con :V.Con:=⟨(.cons (.sl V.eSigned) (.cons (.sl V.eEntry) .nil)),(.cons (.sl V.eSigned) (.cons (.sl V.eEntry) .nil)),fun(x:List Z5×List Z4)=>Wa x,[],[(true,2)],[(true,2)],[true,true],[]⟩
noncomputable abbrev Wa.E :V.Env:=V.mkE V.tys [(40,Y0.con),(75,Yd.con)] [] [(1,5)] [] [] []
theorem Wa.eq (x0:Zt):V.evBody Wa.E Wa.con Tryz.f37 ((x0.1,x0.2):List Z5×List Z4)=Wa x0:=by kernel_rfl
theorem Wa.ok :V.Valid Tryz.prog 37 Wa.con:=
 V.fo (V.tab_cons Y0.ok (V.tab_cons Yd.ok V.tab_nil)) Tryz.func37 (by kernel_rfl) (fun x y h=>(show V.evBody Wa.E Wa.con Tryz.f37 x=_ from Wa.eq x).trans (V.cfl (by kernel_rfl) h))
noncomputable abbrev Xw.con :V.Con:=⟨V.A8,V.eSigned,fun(x:V.D8)=>Xw (V.p8_0 x) (V.p8_1 x) (V.p8_2 x),[],[(true,16),(true,16),(false,1)],[(true,17)],[false,false,false,false,false,false,false,false,true,false,true,false,false,true,false,false,true],[]⟩
noncomputable abbrev Xw.E :V.Env:=V.mkE V.tys [(78,YS.con)] [] [] [] [] []
noncomputable abbrev Xw.kt (x0:Z6)(x1:Z6)(x2:List Int):V.Kt Z5:=V.ktOf Xw.E Xw.con Tryz.f39 (V.fl8 x0 x1 x2)
noncomputable abbrev Xw.s (x0:Z6)(x1:Z6)(x2:List Int):V.St:=⟨[(0, .v true (V.lsHead x0)),(1, .v true (V.lsHead x1)),(2, .v false [.val (.sl (V.ci .nil) x2)])],[]⟩
theorem Xw.v0 (x0:Z6)(x1:Z6)(x2:List Int):V.evBody Xw.E Xw.con Tryz.f39 (V.fl8 x0 x1 x2)=V.evC Xw.E Tryz.f39.ntmps (V.codeOf Tryz.f39) (Xw.kt x0 x1 x2) (Xw.s x0 x1 x2):=by kernel_rfl
theorem Xw.v (x0:Z6)(x1:Z6)(x2:List Int):V.evC Xw.E Tryz.f39.ntmps (V.codeOf Tryz.f39) (Xw.kt x0 x1 x2) (Xw.s x0 x1 x2)=Xw x0 x1 x2:=by kernel_rfl
theorem Xw.eq (x0:Z6)(x1:Z6)(x2:List Int):V.evBody Xw.E Xw.con Tryz.f39 (V.fl8 x0 x1 x2)=Xw x0 x1 x2:=(Xw.v0 x0 x1 x2).trans (Xw.v x0 x1 x2)
theorem Xw.ok :V.Valid Tryz.prog 39 Xw.con:=
 V.fo (V.tab_cons YS.ok V.tab_nil) Tryz.func39 (by kernel_rfl) (fun x y h=>(show V.evBody Xw.E Xw.con Tryz.f39 x=_ from Xw.eq (V.p8_0 x) (V.p8_1 x) (V.p8_2 x)).trans (V.cfl (by kernel_rfl) h))
noncomputable abbrev Ya.con :V.Con:=⟨V.A9,(.cons (.sl V.eSigned) (V.ci .nil)),fun(x:V.D9)=>Ya (V.p9_0 x) (V.p9_1 x),[],[(false,1),(true,17)],[(false,1),(false,1)],[true,false],[]⟩
noncomputable abbrev Ya.E :V.Env:=V.mkE V.tys [(25,Xb.con),(75,Yd.con),(76,Zy.con),(77,Xc.con)] [(7,[0,3,6,20],[])] [(7,3)] [] [] []
noncomputable abbrev Ya.kt (x0:List Z5)(x1:Z5):V.Kt (List Z5×Int):=V.ktOf Ya.E Ya.con Tryz.f38 (V.fl9 x0 x1)
noncomputable abbrev Ya.s7 (x0:List Z5)(x1:Z5)(y1:ZA)(v7_1:Bool):V.St:=⟨[(0, .v false [.val (.sl V.eSigned x0)]),(3, .v false [.ptr 64000 0]),(6, .v false [.ptr 128320 0]),(20, .v false [.val (.bool v7_1)])],[(64000, .box (V.lsSigned x1)),(128320, .box [.vi (y1.1), .vi (y1.2.1), .vi (y1.2.2.1), .vi (y1.2.2.2.1), .vi (y1.2.2.2.2.1), .vi (y1.2.2.2.2.2.1), .vi (y1.2.2.2.2.2.2.1), .vi (y1.2.2.2.2.2.2.2.1), .ref 64000000000008212488, .vi (y1.2.2.2.2.2.2.2.2.2.1), .ref 64000000000008212490, .vi (y1.2.2.2.2.2.2.2.2.2.2.2.1), .vi (y1.2.2.2.2.2.2.2.2.2.2.2.2.1), .ref 64000000000008212493, .vi (y1.2.2.2.2.2.2.2.2.2.2.2.2.2.2.1), .val (.bool y1.2.2.2.2.2.2.2.2.2.2.2.2.2.2.2.1)]),(64000000000008212488, .row (V.ci .nil) true y1.2.2.2.2.2.2.2.2.1),(64000000000008212490, .row (V.ci .nil) true y1.2.2.2.2.2.2.2.2.2.2.1),(64000000000008212493, .row (V.ci .nil) true y1.2.2.2.2.2.2.2.2.2.2.2.2.2.1)]⟩
theorem Ya.r7 (x0:List Z5)(x1:Z5)(y1:ZA)(v7_1:Bool):V.joinF Ya.E Tryz.f38.ntmps [1,1,0] [] (V.codeOf Tryz.f38) (Ya.kt x0 x1) (Ya.s7 x0 x1 y1 v7_1)=Ya.g7 x0 x1 y1 v7_1:=by kernel_rfl
theorem Ya.e7 (x0:List Z5)(x1:Z5)(y1:ZA)(v7_1:Bool):V.jn (V.joinF Ya.E Tryz.f38.ntmps [1,1,0] [] (V.codeOf Tryz.f38) (Ya.kt x0 x1)) (Ya.s7 x0 x1 y1 v7_1)=Ya.l7 x0 x1 y1 v7_1:=by
 rw[V.jn_eq,Ya.r7]
 rfl
noncomputable abbrev Ya.s (x0:List Z5)(x1:Z5):V.St:=⟨[(0, .v false [.val (.sl V.eSigned x0)]),(1, .v true (V.lsSigned x1))],[]⟩
theorem Ya.v0 (x0:List Z5)(x1:Z5):V.evBody Ya.E Ya.con Tryz.f38 (V.fl9 x0 x1)=V.evC Ya.E Tryz.f38.ntmps (V.codeOf Tryz.f38) (Ya.kt x0 x1) (Ya.s x0 x1):=by kernel_rfl
theorem Ya.v (x0:List Z5)(x1:Z5):V.evC Ya.E Tryz.f38.ntmps (V.codeOf Tryz.f38) (Ya.kt x0 x1) (Ya.s x0 x1)=Ya.b x0 x1 (fun y1 v7_1=>V.jn (V.joinF Ya.E Tryz.f38.ntmps [1,1,0] [] (V.codeOf Tryz.f38) (Ya.kt x0 x1)) (Ya.s7 x0 x1 y1 v7_1)):=by kernel_rfl
theorem Ya.eq (x0:List Z5)(x1:Z5):V.evBody Ya.E Ya.con Tryz.f38 (V.fl9 x0 x1)=Ya x0 x1:=by
 rw[Ya.v0,Ya.v]
 simp only[Ya.e7]
 rfl
theorem Ya.ok :V.Valid Tryz.prog 38 Ya.con:=
 V.fo (V.tab_cons Xb.ok (V.tab_cons Yd.ok (V.tab_cons Zy.ok (V.tab_cons Xc.ok V.tab_nil)))) Tryz.func38 (by kernel_rfl) (fun x y h=>(show V.evBody Ya.E Ya.con Tryz.f38 x=_ from Ya.eq (V.p9_0 x) (V.p9_1 x)).trans (V.cfl (by kernel_rfl) h))
noncomputable abbrev X7.con :V.Con:=⟨V.A10,(.cons (.sl V.eSigned) (.cons (.sl V.eEntry) (V.ci .nil))),fun(x:V.D10)=>X7 (V.p10_0 x) (V.p10_1 x) (V.p10_2 x) (V.p10_3 x),[],[(true,2),(false,1),(true,16),(false,1)],[(true,2),(false,1)],[true,true,false],[]⟩
noncomputable abbrev X7.E :V.Env:=V.mkE V.tys [(10,XI.con),(25,Xb.con),(37,Wa.con),(38,Ya.con),(39,Xw.con),(40,Y0.con)] [] [(4,10)] [] [] []
noncomputable abbrev X7.kt (x0:Zt)(x1:List Int)(x2:Z6)(x3:List Z4):V.Kt XM:=V.ktOf X7.E X7.con Tryz.f7 (V.fl10 x0 x1 x2 x3)
noncomputable abbrev X7.s (x0:Zt)(x1:List Int)(x2:Z6)(x3:List Z4):V.St:=⟨[(0, .v true [.val (.sl V.eSigned x0.1), .val (.sl V.eEntry x0.2)]),(1, .v false [.val (.sl (V.ci .nil) x1)]),(2, .v true (V.lsHead x2)),(3, .v false [.val (.sl V.eEntry x3)])],[]⟩
theorem X7.v0 (x0:Zt)(x1:List Int)(x2:Z6)(x3:List Z4):V.evBody X7.E X7.con Tryz.f7 (V.fl10 x0 x1 x2 x3)=V.evC X7.E Tryz.f7.ntmps (V.codeOf Tryz.f7) (X7.kt x0 x1 x2 x3) (X7.s x0 x1 x2 x3):=by kernel_rfl
theorem X7.v (x0:Zt)(x1:List Int)(x2:Z6)(x3:List Z4):V.evC X7.E Tryz.f7.ntmps (V.codeOf Tryz.f7) (X7.kt x0 x1 x2 x3) (X7.s x0 x1 x2 x3)=X7 x0 x1 x2 x3:=by kernel_rfl
theorem X7.eq (x0:Zt)(x1:List Int)(x2:Z6)(x3:List Z4):V.evBody X7.E X7.con Tryz.f7 (V.fl10 x0 x1 x2 x3)=X7 x0 x1 x2 x3:=(X7.v0 x0 x1 x2 x3).trans (X7.v x0 x1 x2 x3)
theorem X7.ok :V.Valid Tryz.prog 7 X7.con:=
 V.fo (V.tab_cons XI.ok (V.tab_cons Xb.ok (V.tab_cons Wa.ok (V.tab_cons Ya.ok (V.tab_cons Xw.ok (V.tab_cons Y0.ok V.tab_nil)))))) Tryz.func7 (by kernel_rfl) (fun x y h=>(show V.evBody X7.E X7.con Tryz.f7 x=_ from X7.eq (V.p10_0 x) (V.p10_1 x) (V.p10_2 x) (V.p10_3 x)).trans (V.cfl (by kernel_rfl) h))
noncomputable abbrev ZC.con :V.Con:=⟨(.cons (.ptr (.cons (.sl (.cons (.int .u8) .nil)) (V.ci (V.ci .nil)))) (.cons (.sl V.eSigned) (.cons (.sl V.eEntry) .nil))),(.cons (.ptr (.cons (.sl (.cons (.int .u8) .nil)) (V.ci (V.ci .nil)))) (.cons (.sl V.eSigned) (.cons (.sl V.eEntry) .nil))),fun(x:(Z3)×List Z5×List Z4)=>ZC x.1 x.2,[(0,false)],[(false,1),(true,2)],[(true,2)],[false,false],[]⟩
noncomputable abbrev ZC.E :V.Env:=V.mkE V.tys [(7,X7.con),(25,Xb.con),(26,Xn.con),(29,ZK.con),(30,Zj.con),(31,Zd.con),(153,Zh.con)] [(19,[0,3,4,5,8,9],[(9,V.eEntry,false)]),(25,[0,3,4,5,8,9],[(8,(.cons .bool .nil),false)]),(27,[0,3,4,8,9,10],[])] [] [128128] [] [(9,[1000]),(12,[1000])]
noncomputable abbrev ZC.kt (x0:(Z3))(x1:Zt):V.Kt ((Z3)×List Z5×List Z4):=V.ktOf ZC.E ZC.con Tryz.f100 ((x0,x1.1,x1.2):(Z3)×List Z5×List Z4)
noncomputable abbrev ZC.s27 (x0:(Z3))(x1:Zt)(v25_0:List Z4)(v25_2:Int)(v25_3:Int)(v25_22:Int)(v25_23:Int)(v25_24:Int)(v25_25:Int)(v25_26:Int)(v25_27:Int)(v25_28:Int)(v25_29:Int)(v25_30:List Int)(v25_31:Int)(v25_32:List Int)(v25_33:Int)(v25_34:Int)(v25_35:List Int)(v25_36:Int)(v25_37:Bool)(v27_22:List Int):V.St:=⟨[(0, .v false [.ptr 0 0]),(3, .v false [.ptr 64000 0]),(4, .v false [.ptr 64064 0]),(8, .v false [.ptr 384128 0]),(9, .v false [.val (.sl V.eEntry v25_0)]),(10, .v false [.ref 64000172800640])],[(0, .box [.val (.sl (.cons (.int .u8) .nil) x0.1), .vi (v25_2), .vi (v25_3)]),(64000, .box [.val (.sl V.eSigned x1.1), .val (.sl V.eEntry x1.2)]),(64064, .box [.nil0, .nil0]),(384128, .box [.vi (v25_22), .vi (v25_23), .vi (v25_24), .vi (v25_25), .vi (v25_26), .vi (v25_27), .vi (v25_28), .vi (v25_29), .val (.sl (V.ci .nil) v25_30), .vi (v25_31), .val (.sl (V.ci .nil) v25_32), .vi (v25_33), .vi (v25_34), .val (.sl (V.ci .nil) v25_35), .vi (v25_36), .val (.bool v25_37)]),(64000172800640, .row (V.ci .nil) true v27_22)]⟩
noncomputable abbrev ZC.s25 (x0:(Z3))(x1:Zt)(y1:ZA)(v25_0:List Z4)(v25_2:Int)(v25_3:Int)(v25_22:Int)(v25_23:Int)(v25_24:Int)(v25_25:Int)(v25_26:Int)(v25_27:Int)(v25_28:Int)(v25_29:Int)(v25_30:List Int)(v25_31:Int)(v25_32:List Int)(v25_33:Int)(v25_34:Int)(v25_35:List Int)(v25_36:Int)(v25_37:Bool):V.St:=⟨[(0, .v false [.ptr 0 0]),(3, .v false [.ptr 64000 0]),(4, .v false [.ptr 64064 0]),(5, .v false [.ptr 128384 0]),(8, .v false [.ptr 384128 0]),(9, .v false [.val (.sl V.eEntry v25_0)])],[(0, .box [.val (.sl (.cons (.int .u8) .nil) x0.1), .vi (v25_2), .vi (v25_3)]),(64000, .box [.val (.sl V.eSigned x1.1), .val (.sl V.eEntry x1.2)]),(64064, .box [.nil0, .nil0]),(128384, .box [.vi (y1.1), .vi (y1.2.1), .vi (y1.2.2.1), .vi (y1.2.2.2.1), .vi (y1.2.2.2.2.1), .vi (y1.2.2.2.2.2.1), .vi (y1.2.2.2.2.2.2.1), .vi (y1.2.2.2.2.2.2.2.1), .val (.sl (V.ci .nil) y1.2.2.2.2.2.2.2.2.1), .vi (y1.2.2.2.2.2.2.2.2.2.1), .val (.sl (V.ci .nil) y1.2.2.2.2.2.2.2.2.2.2.1), .vi (y1.2.2.2.2.2.2.2.2.2.2.2.1), .vi (y1.2.2.2.2.2.2.2.2.2.2.2.2.1), .val (.sl (V.ci .nil) y1.2.2.2.2.2.2.2.2.2.2.2.2.2.1), .vi (y1.2.2.2.2.2.2.2.2.2.2.2.2.2.2.1), .val (.bool y1.2.2.2.2.2.2.2.2.2.2.2.2.2.2.2.1)]),(384128, .box [.vi (v25_22), .vi (v25_23), .vi (v25_24), .vi (v25_25), .vi (v25_26), .vi (v25_27), .vi (v25_28), .vi (v25_29), .val (.sl (V.ci .nil) v25_30), .vi (v25_31), .val (.sl (V.ci .nil) v25_32), .vi (v25_33), .vi (v25_34), .val (.sl (V.ci .nil) v25_35), .vi (v25_36), .val (.bool v25_37)])]⟩
noncomputable abbrev ZC.s19 (x0:(Z3))(x1:Zt)(y1:ZA)(y2:(Z3)×Int×Int×Int×Int×Int×Int×Int×Int×List Int×Int×List Int×Int×Int×List Int×Int×Bool×List Zb)(y4:(Z3)×List Z4):V.St:=⟨[(0, .v false [.ptr 0 0]),(3, .v false [.ptr 64000 0]),(4, .v false [.ptr 64064 0]),(5, .v false [.ptr 128384 0]),(8, .v false [.ptr 384128 0]),(9, .v false [.val (.sl V.eEntry y4.2)])],[(0, .box [.val (.sl (.cons (.int .u8) .nil) x0.1), .vi (y4.1.2.1), .vi (y4.1.2.2)]),(64000, .box [.val (.sl V.eSigned x1.1), .val (.sl V.eEntry x1.2)]),(64064, .box [.nil0, .nil0]),(128384, .box [.vi (y1.1), .vi (y1.2.1), .vi (y1.2.2.1), .vi (y1.2.2.2.1), .vi (y1.2.2.2.2.1), .vi (y1.2.2.2.2.2.1), .vi (y1.2.2.2.2.2.2.1), .vi (y1.2.2.2.2.2.2.2.1), .val (.sl (V.ci .nil) y1.2.2.2.2.2.2.2.2.1), .vi (y1.2.2.2.2.2.2.2.2.2.1), .val (.sl (V.ci .nil) y1.2.2.2.2.2.2.2.2.2.2.1), .vi (y1.2.2.2.2.2.2.2.2.2.2.2.1), .vi (y1.2.2.2.2.2.2.2.2.2.2.2.2.1), .val (.sl (V.ci .nil) y1.2.2.2.2.2.2.2.2.2.2.2.2.2.1), .vi (y1.2.2.2.2.2.2.2.2.2.2.2.2.2.2.1), .val (.bool y1.2.2.2.2.2.2.2.2.2.2.2.2.2.2.2.1)]),(384128, .box [.vi (y2.2.1), .vi (y2.2.2.1), .vi (y2.2.2.2.1), .vi (y2.2.2.2.2.1), .vi (y2.2.2.2.2.2.1), .vi (y2.2.2.2.2.2.2.1), .vi (y2.2.2.2.2.2.2.2.1), .vi (y2.2.2.2.2.2.2.2.2.1), .ref 64000000000024584200, .vi (y2.2.2.2.2.2.2.2.2.2.2.1), .ref 64000000000024584202, .vi (y2.2.2.2.2.2.2.2.2.2.2.2.2.1), .vi (y2.2.2.2.2.2.2.2.2.2.2.2.2.2.1), .ref 64000000000024584205, .vi (y2.2.2.2.2.2.2.2.2.2.2.2.2.2.2.2.1), .val (.bool y2.2.2.2.2.2.2.2.2.2.2.2.2.2.2.2.2.1)]),(64000000000024584200, .row (V.ci .nil) true y2.2.2.2.2.2.2.2.2.2.1),(64000000000024584202, .row (V.ci .nil) true y2.2.2.2.2.2.2.2.2.2.2.2.1),(64000000000024584205, .row (V.ci .nil) true y2.2.2.2.2.2.2.2.2.2.2.2.2.2.2.1)]⟩
theorem ZC.r27 (x0:(Z3))(x1:Zt)(v25_0:List Z4)(v25_2:Int)(v25_22:Int)(v25_23:Int)(v25_24:Int)(v25_25:Int)(v25_26:Int)(v25_27:Int)(v25_28:Int)(v25_29:Int)(v25_3:Int)(v25_30:List Int)(v25_31:Int)(v25_32:List Int)(v25_33:Int)(v25_34:Int)(v25_35:List Int)(v25_36:Int)(v25_37:Bool)(v27_22:List Int):V.joinF ZC.E Tryz.f100.ntmps [1,1,1,1,1,1,1] [] (V.codeOf Tryz.f100) (ZC.kt x0 x1) (ZC.s27 x0 x1 v25_0 v25_2 v25_3 v25_22 v25_23 v25_24 v25_25 v25_26 v25_27 v25_28 v25_29 v25_30 v25_31 v25_32 v25_33 v25_34 v25_35 v25_36 v25_37 v27_22)=ZC.g27 x0 x1 v25_0 v25_2 v25_3 v25_22 v25_23 v25_24 v25_25 v25_26 v25_27 v25_28 v25_29 v25_30 v25_31 v25_32 v25_33 v25_34 v25_35 v25_36 v25_37 v27_22:=by kernel_rfl
theorem ZC.e27 (x0:(Z3))(x1:Zt)(v25_0:List Z4)(v25_2:Int)(v25_22:Int)(v25_23:Int)(v25_24:Int)(v25_25:Int)(v25_26:Int)(v25_27:Int)(v25_28:Int)(v25_29:Int)(v25_3:Int)(v25_30:List Int)(v25_31:Int)(v25_32:List Int)(v25_33:Int)(v25_34:Int)(v25_35:List Int)(v25_36:Int)(v25_37:Bool)(v27_22:List Int):V.jn (V.joinF ZC.E Tryz.f100.ntmps [1,1,1,1,1,1,1] [] (V.codeOf Tryz.f100) (ZC.kt x0 x1)) (ZC.s27 x0 x1 v25_0 v25_2 v25_3 v25_22 v25_23 v25_24 v25_25 v25_26 v25_27 v25_28 v25_29 v25_30 v25_31 v25_32 v25_33 v25_34 v25_35 v25_36 v25_37 v27_22)=ZC.l27 x0 x1 v25_0 v25_2 v25_3 v25_22 v25_23 v25_24 v25_25 v25_26 v25_27 v25_28 v25_29 v25_30 v25_31 v25_32 v25_33 v25_34 v25_35 v25_36 v25_37 v27_22:=by
 rw[V.jn_eq,ZC.r27]
 rfl
theorem ZC.r25 (x0:(Z3))(x1:Zt)(y1:ZA)(v25_0:List Z4)(v25_2:Int)(v25_3:Int)(v25_22:Int)(v25_23:Int)(v25_24:Int)(v25_25:Int)(v25_26:Int)(v25_27:Int)(v25_28:Int)(v25_29:Int)(v25_30:List Int)(v25_31:Int)(v25_32:List Int)(v25_33:Int)(v25_34:Int)(v25_35:List Int)(v25_36:Int)(v25_37:Bool):V.joinF ZC.E Tryz.f100.ntmps [1,1,1,1,1,1] [] (V.codeOf Tryz.f100) (ZC.kt x0 x1) (ZC.s25 x0 x1 y1 v25_0 v25_2 v25_3 v25_22 v25_23 v25_24 v25_25 v25_26 v25_27 v25_28 v25_29 v25_30 v25_31 v25_32 v25_33 v25_34 v25_35 v25_36 v25_37)=ZC.g25 x0 x1 y1 (fun v27_22=>V.jn (V.joinF ZC.E Tryz.f100.ntmps [1,1,1,1,1,1,1] [] (V.codeOf Tryz.f100) (ZC.kt x0 x1)) (ZC.s27 x0 x1 v25_0 v25_2 v25_3 v25_22 v25_23 v25_24 v25_25 v25_26 v25_27 v25_28 v25_29 v25_30 v25_31 v25_32 v25_33 v25_34 v25_35 v25_36 v25_37 v27_22)) v25_0 v25_2 v25_3 v25_22 v25_23 v25_24 v25_25 v25_26 v25_27 v25_28 v25_29 v25_30 v25_31 v25_32 v25_33 v25_34 v25_35 v25_36 v25_37:=by kernel_rfl
theorem ZC.e25 (x0:(Z3))(x1:Zt)(y1:ZA)(v25_0:List Z4)(v25_2:Int)(v25_3:Int)(v25_22:Int)(v25_23:Int)(v25_24:Int)(v25_25:Int)(v25_26:Int)(v25_27:Int)(v25_28:Int)(v25_29:Int)(v25_30:List Int)(v25_31:Int)(v25_32:List Int)(v25_33:Int)(v25_34:Int)(v25_35:List Int)(v25_36:Int)(v25_37:Bool):V.jn (V.joinF ZC.E Tryz.f100.ntmps [1,1,1,1,1,1] [] (V.codeOf Tryz.f100) (ZC.kt x0 x1)) (ZC.s25 x0 x1 y1 v25_0 v25_2 v25_3 v25_22 v25_23 v25_24 v25_25 v25_26 v25_27 v25_28 v25_29 v25_30 v25_31 v25_32 v25_33 v25_34 v25_35 v25_36 v25_37)=ZC.l25 x0 x1 y1 v25_0 v25_2 v25_3 v25_22 v25_23 v25_24 v25_25 v25_26 v25_27 v25_28 v25_29 v25_30 v25_31 v25_32 v25_33 v25_34 v25_35 v25_36 v25_37:=by
 rw[V.jn_eq,ZC.r25]
 simp only[ZC.e27]
 rfl
theorem ZC.r19 (x0:(Z3))(x1:Zt)(y1:ZA)(y2:(Z3)×Int×Int×Int×Int×Int×Int×Int×Int×List Int×Int×List Int×Int×Int×List Int×Int×Bool×List Zb)(y4:(Z3)×List Z4):V.joinF ZC.E Tryz.f100.ntmps [1,1,1,1,1,1,0,1,0] [] (V.codeOf Tryz.f100) (ZC.kt x0 x1) (ZC.s19 x0 x1 y1 y2 y4)=ZC.g19 x0 x1 y1 y2 y4 (fun y1 v25_0 v25_2 v25_3 v25_22 v25_23 v25_24 v25_25 v25_26 v25_27 v25_28 v25_29 v25_30 v25_31 v25_32 v25_33 v25_34 v25_35 v25_36 v25_37=>V.jn (V.joinF ZC.E Tryz.f100.ntmps [1,1,1,1,1,1] [] (V.codeOf Tryz.f100) (ZC.kt x0 x1)) (ZC.s25 x0 x1 y1 v25_0 v25_2 v25_3 v25_22 v25_23 v25_24 v25_25 v25_26 v25_27 v25_28 v25_29 v25_30 v25_31 v25_32 v25_33 v25_34 v25_35 v25_36 v25_37)):=by kernel_rfl
theorem ZC.e19 (x0:(Z3))(x1:Zt)(y1:ZA)(y2:(Z3)×Int×Int×Int×Int×Int×Int×Int×Int×List Int×Int×List Int×Int×Int×List Int×Int×Bool×List Zb)(y4:(Z3)×List Z4):V.jn (V.joinF ZC.E Tryz.f100.ntmps [1,1,1,1,1,1,0,1,0] [] (V.codeOf Tryz.f100) (ZC.kt x0 x1)) (ZC.s19 x0 x1 y1 y2 y4)=ZC.l19 x0 x1 y1 y2 y4:=by
 rw[V.jn_eq,ZC.r19]
 simp only[ZC.e25]
 rfl
theorem ZC.v (x0:(Z3))(x1:Zt):V.evBody ZC.E ZC.con Tryz.f100 ((x0,x1.1,x1.2):(Z3)×List Z5×List Z4)=ZC.b x0 x1 (fun y1 y2 y4=>V.jn (V.joinF ZC.E Tryz.f100.ntmps [1,1,1,1,1,1,0,1,0] [] (V.codeOf Tryz.f100) (ZC.kt x0 x1)) (ZC.s19 x0 x1 y1 y2 y4)) (fun y1 v25_0 v25_2 v25_3 v25_22 v25_23 v25_24 v25_25 v25_26 v25_27 v25_28 v25_29 v25_30 v25_31 v25_32 v25_33 v25_34 v25_35 v25_36 v25_37=>V.jn (V.joinF ZC.E Tryz.f100.ntmps [1,1,1,1,1,1] [] (V.codeOf Tryz.f100) (ZC.kt x0 x1)) (ZC.s25 x0 x1 y1 v25_0 v25_2 v25_3 v25_22 v25_23 v25_24 v25_25 v25_26 v25_27 v25_28 v25_29 v25_30 v25_31 v25_32 v25_33 v25_34 v25_35 v25_36 v25_37)):=by kernel_rfl
theorem ZC.eq (x0:(Z3))(x1:Zt):V.evBody ZC.E ZC.con Tryz.f100 ((x0,x1.1,x1.2):(Z3)×List Z5×List Z4)=ZC x0 x1:=by
 rw[ZC.v]
 simp only[ZC.e19,ZC.e25]
 rfl
theorem ZC.ok :V.Valid Tryz.prog 100 ZC.con:=
 V.fo (V.tab_cons X7.ok (V.tab_cons Xb.ok (V.tab_cons Xn.ok (V.tab_cons ZK.ok (V.tab_cons Zj.ok (V.tab_cons Zd.ok (V.tab_cons Zh.ok V.tab_nil))))))) Tryz.func100 (by kernel_rfl) (fun x y h=>(show V.evBody ZC.E ZC.con Tryz.f100 x=_ from ZC.eq x.1 x.2).trans (V.cfl (by kernel_rfl) h))
noncomputable abbrev ZL.con :V.Con:=⟨(.cons (.ptr (.cons (.sl (.cons (.int .u8) .nil)) (V.ci (V.ci .nil)))) .nil),(.cons (.ptr (.cons (.sl (.cons (.int .u8) .nil)) (V.ci (V.ci .nil)))) (.cons (.sl V.eSigned) (.cons (.sl V.eEntry) .nil))),fun(x:(Z3))=>ZL x,[(0,false)],[(false,1)],[(true,2)],[false,false],[]⟩
noncomputable abbrev ZL.E :V.Env:=V.mkE V.tys [(29,ZK.con),(31,Zd.con),(98,ZN.con),(99,ZX.con),(100,ZC.con)] [(7,[0,2,4],[]),(8,[0,2,4,6],[])] [] [192640] [] [(2,[1000])]
noncomputable abbrev ZL.kt (x0:(Z3)):V.Kt ((Z3)×List Z5×List Z4):=V.ktOf ZL.E ZL.con Tryz.f55 ((x0):(Z3))
noncomputable abbrev ZL.s8 (x0:(Z3))(v8_0:Int)(v8_2:Int)(v8_3:Int)(v8_4:List Z5)(v8_5:List Z4):V.St:=⟨[(0, .v false [.ptr 0 0]),(2, .v false [.ptr 64000 0]),(4, .v false [.ptr 192896 0]),(6, .v false [.vi (v8_0)])],[(0, .box [.val (.sl (.cons (.int .u8) .nil) x0.1), .vi (v8_2), .vi (v8_3)]),(64000, .box [.nil0, .nil0]),(192896, .box [.val (.sl V.eSigned v8_4), .val (.sl V.eEntry v8_5)])]⟩
noncomputable abbrev ZL.s7 (x0:(Z3))(v7_1:Int)(v7_2:Int)(v7_3:List Z5)(v7_4:List Z4):V.St:=⟨[(0, .v false [.ptr 0 0]),(2, .v false [.ptr 64000 0]),(4, .v false [.ptr 192896 0])],[(0, .box [.val (.sl (.cons (.int .u8) .nil) x0.1), .vi (v7_1), .vi (v7_2)]),(64000, .box [.nil0, .nil0]),(192896, .box [.val (.sl V.eSigned v7_3), .val (.sl V.eEntry v7_4)])]⟩
theorem ZL.r8 (x0:(Z3))(R:V.St→Option ((Z3)×List Z5×List Z4))(v8_0:Int)(v8_2:Int)(v8_3:Int)(v8_4:List Z5)(v8_5:List Z4):V.loopF ZL.E Tryz.f55.ntmps [1,1,1,0,1,0] [] (V.codeOf Tryz.f55) (ZL.kt x0) R (ZL.s8 x0 v8_0 v8_2 v8_3 v8_4 v8_5)=ZL.g8 x0 (fun v8_0 v8_2 v8_3 v8_4 v8_5=>R (ZL.s8 x0 v8_0 v8_2 v8_3 v8_4 v8_5)) v8_0 v8_2 v8_3 v8_4 v8_5:=by kernel_rfl
theorem ZL.e8 (x0:(Z3)):∀(n:Nat) (v8_0:Int) (v8_2:Int) (v8_3:Int) (v8_4:List Z5) (v8_5:List Z4),V.loopN (V.loopF ZL.E Tryz.f55.ntmps [1,1,1,0,1,0] [] (V.codeOf Tryz.f55) (ZL.kt x0)) n (ZL.s8 x0 v8_0 v8_2 v8_3 v8_4 v8_5)=ZL.l8 x0 n v8_0 v8_2 v8_3 v8_4 v8_5:=by
 intro n
 induction n with
 |zero=>intros;rw[V.loopN_z];rfl
 |succ n ih=>
  intro v8_0 v8_2 v8_3 v8_4 v8_5
  rw[V.loopN_s,ZL.r8]
  simp only[ih]
  first|exact(ZL.u8 ..).symm|rfl
theorem ZL.r7 (x0:(Z3))(v7_1:Int)(v7_2:Int)(v7_3:List Z5)(v7_4:List Z4):V.joinF ZL.E Tryz.f55.ntmps [1,1] [] (V.codeOf Tryz.f55) (ZL.kt x0) (ZL.s7 x0 v7_1 v7_2 v7_3 v7_4)=ZL.g7 x0 (fun v8_0 v8_2 v8_3 v8_4 v8_5=>V.loopN (V.loopF ZL.E Tryz.f55.ntmps [1,1,1,0,1,0] [] (V.codeOf Tryz.f55) (ZL.kt x0)) V.KK (ZL.s8 x0 v8_0 v8_2 v8_3 v8_4 v8_5)) v7_1 v7_2 v7_3 v7_4:=by kernel_rfl
theorem ZL.e7 (x0:(Z3))(v7_1:Int)(v7_2:Int)(v7_3:List Z5)(v7_4:List Z4):V.jn (V.joinF ZL.E Tryz.f55.ntmps [1,1] [] (V.codeOf Tryz.f55) (ZL.kt x0)) (ZL.s7 x0 v7_1 v7_2 v7_3 v7_4)=ZL.l7 x0 v7_1 v7_2 v7_3 v7_4:=by
 rw[V.jn_eq,ZL.r7]
 simp only[ZL.e8]
 rfl
theorem ZL.v (x0:(Z3)):V.evBody ZL.E ZL.con Tryz.f55 ((x0):(Z3))=ZL.b x0 (fun v7_1 v7_2 v7_3 v7_4=>V.jn (V.joinF ZL.E Tryz.f55.ntmps [1,1] [] (V.codeOf Tryz.f55) (ZL.kt x0)) (ZL.s7 x0 v7_1 v7_2 v7_3 v7_4)):=by kernel_rfl
theorem ZL.eq (x0:(Z3)):V.evBody ZL.E ZL.con Tryz.f55 ((x0):(Z3))=ZL x0:=by
 rw[ZL.v]
 simp only[ZL.e7]
 rfl
theorem ZL.ok :V.Valid Tryz.prog 55 ZL.con:=
 V.fo (V.tab_cons ZK.ok (V.tab_cons Zd.ok (V.tab_cons ZN.ok (V.tab_cons ZX.ok (V.tab_cons ZC.ok V.tab_nil))))) Tryz.func55 (by kernel_rfl) (fun x y h=>(show V.evBody ZL.E ZL.con Tryz.f55 x=_ from ZL.eq x).trans (V.cfl (by kernel_rfl) h))
noncomputable abbrev ZR.con :V.Con:=⟨(.cons (.ptr (.cons (.sl (.cons (.int .u8) .nil)) (V.ci (V.ci .nil)))) (.cons (.sl (V.ci .nil)) .nil)),(.cons (.ptr (.cons (.sl (.cons (.int .u8) .nil)) (V.ci (V.ci .nil)))) (V.ci .nil)),fun(x:(Z3)×List Int)=>ZR x.1 x.2,[(0,false)],[(false,1),(false,1)],[(false,1)],[false],[]⟩
noncomputable abbrev ZR.E :V.Env:=V.mkE V.tys [(31,Zd.con)] [] [] [] [] []
theorem ZR.eq (x0:(Z3))(x1:List Int):V.evBody ZR.E ZR.con Tryz.f48 ((x0,x1):(Z3)×List Int)=ZR x0 x1:=by kernel_rfl
theorem ZR.ok :V.Valid Tryz.prog 48 ZR.con:=
 V.fo (V.tab_cons Zd.ok V.tab_nil) Tryz.func48 (by kernel_rfl) (fun x y h=>(show V.evBody ZR.E ZR.con Tryz.f48 x=_ from ZR.eq x.1 x.2).trans (V.cfl (by kernel_rfl) h))
noncomputable abbrev Wk.con :V.Con:=⟨(.cons (.ptr (.cons (.sl (.cons (.int .u8) .nil)) (V.ci (V.ci .nil)))) .nil),(.cons (.ptr (.cons (.sl (.cons (.int .u8) .nil)) (V.ci (V.ci .nil)))) (.cons .str .nil)),fun(x:(Z3))=>Wk x,[(0,false)],[(false,1)],[(false,1)],[false],[]⟩
noncomputable abbrev Wk.E :V.Env:=V.mkE V.tys [(26,Xn.con),(109,W1.con),(158,Wj.con)] [] [] [] [] []
theorem Wk.eq (x0:(Z3)):V.evBody Wk.E Wk.con Tryz.f106 ((x0):(Z3))=Wk x0:=by kernel_rfl
theorem Wk.ok :V.Valid Tryz.prog 106 Wk.con:=
 V.fo (V.tab_cons Xn.ok (V.tab_cons W1.ok (V.tab_cons Wj.ok V.tab_nil))) Tryz.func106 (by kernel_rfl) (fun x y h=>(show V.evBody Wk.E Wk.con Tryz.f106 x=_ from Wk.eq x).trans (V.cfl (by kernel_rfl) h))
noncomputable abbrev Ul.con :V.Con:=⟨(.cons (.ptr (.cons (.sl (.cons (.int .u8) .nil)) (V.ci (V.ci .nil)))) .nil),(.cons (.ptr (.cons (.sl (.cons (.int .u8) .nil)) (V.ci (V.ci .nil)))) (.cons (.sl (.cons .str .nil)) .nil)),fun(x:(Z3))=>Ul x,[(0,false)],[(false,1)],[(false,1)],[true],[]⟩
noncomputable abbrev Ul.E :V.Env:=V.mkE V.tys [(31,Zd.con),(106,Wk.con),(112,Yk.con)] [] [] [] [] []
theorem Ul.eq (x0:(Z3)):V.evBody Ul.E Ul.con Tryz.f107 ((x0):(Z3))=Ul x0:=by kernel_rfl
theorem Ul.ok :V.Valid Tryz.prog 107 Ul.con:=
 V.fo (V.tab_cons Zd.ok (V.tab_cons Wk.ok (V.tab_cons Yk.ok V.tab_nil))) Tryz.func107 (by kernel_rfl) (fun x y h=>(show V.evBody Ul.E Ul.con Tryz.f107 x=_ from Ul.eq x).trans (V.cfl (by kernel_rfl) h))
noncomputable abbrev Um.con :V.Con:=⟨(.cons (.ptr (.cons (.sl (.cons (.int .u8) .nil)) (V.ci (V.ci .nil)))) .nil),(.cons (.ptr (.cons (.sl (.cons (.int .u8) .nil)) (V.ci (V.ci .nil)))) (.cons .str (V.ci (V.ci (.cons (.sl (.cons .str .nil)) .nil))))),fun(x:(Z3))=>Um x,[(0,false)],[(false,1)],[(true,4)],[false,false,false,true],[]⟩
noncomputable abbrev Um.E :V.Env:=V.mkE V.tys [(31,Zd.con),(48,ZR.con),(65,Wx.con),(106,Wk.con),(107,Ul.con)] [] [] [] [] []
theorem Um.eq (x0:(Z3)):V.evBody Um.E Um.con Tryz.f62 ((x0):(Z3))=Um x0:=by kernel_rfl
theorem Um.ok :V.Valid Tryz.prog 62 Um.con:=
 V.fo (V.tab_cons Zd.ok (V.tab_cons ZR.ok (V.tab_cons Wx.ok (V.tab_cons Wk.ok (V.tab_cons Ul.ok V.tab_nil))))) Tryz.func62 (by kernel_rfl) (fun x y h=>(show V.evBody Um.E Um.con Tryz.f62 x=_ from Um.eq x).trans (V.cfl (by kernel_rfl) h))
noncomputable abbrev ZV.con :V.Con:=⟨(.cons (.ptr (.cons (.sl (.cons (.int .u8) .nil)) (V.ci (V.ci .nil)))) .nil),(.cons (.ptr (.cons (.sl (.cons (.int .u8) .nil)) (V.ci (V.ci .nil)))) (.cons (.sl V.eEntry) .nil)),fun(x:(Z3))=>ZV x,[(0,false)],[(false,1)],[(false,1)],[true],[]⟩
noncomputable abbrev ZV.E :V.Env:=V.mkE V.tys [(29,ZK.con),(31,Zd.con),(62,Um.con),(63,Zq.con),(64,WM.con)] [(14,[0,3,19,20,21],[])] [] [] [] []
noncomputable abbrev ZV.kt (x0:(Z3)):V.Kt ((Z3)×List Z4):=V.ktOf ZV.E ZV.con Tryz.f28 ((x0):(Z3))
noncomputable abbrev ZV.s14 (x0:(Z3))(y2:(Z3)×Int)(v14_0:Int)(v14_1:Int)(v14_5:List Z4)(v14_6:List ByteArray):V.St:=⟨[(0, .v false [.ptr 0 0]),(3, .v false [.ref 64000089600192]),(19, .v false [.ref 64000089601216]),(20, .v false [.vi (v14_0)]),(21, .v false [.vi (v14_1)])],[(0, .box [.val (.sl (.cons (.int .u8) .nil) x0.1), .vi (y2.1.2.1), .vi (y2.1.2.2)]),(64000089600192, .row V.eEntry true v14_5),(64000089601216, .row (.cons .str .nil) true v14_6)]⟩
theorem ZV.r14 (x0:(Z3))(y2:(Z3)×Int)(R:V.St→Option ((Z3)×List Z4))(v14_0:Int)(v14_1:Int)(v14_5:List Z4)(v14_6:List ByteArray):V.loopF ZV.E Tryz.f28.ntmps [1,1,0,1,0,1,1,1,0,1,0] [] (V.codeOf Tryz.f28) (ZV.kt x0) R (ZV.s14 x0 y2 v14_0 v14_1 v14_5 v14_6)=ZV.g14 x0 y2 (fun v14_0 v14_1 v14_5 v14_6=>R (ZV.s14 x0 y2 v14_0 v14_1 v14_5 v14_6)) v14_0 v14_1 v14_5 v14_6:=by kernel_rfl
theorem ZV.e14 (x0:(Z3))(y2:(Z3)×Int):∀(n:Nat) (v14_0:Int) (v14_1:Int) (v14_5:List Z4) (v14_6:List ByteArray),V.loopN (V.loopF ZV.E Tryz.f28.ntmps [1,1,0,1,0,1,1,1,0,1,0] [] (V.codeOf Tryz.f28) (ZV.kt x0)) n (ZV.s14 x0 y2 v14_0 v14_1 v14_5 v14_6)=ZV.l14 x0 y2 n v14_0 v14_1 v14_5 v14_6:=by
 intro n
 induction n with
 |zero=>intros;rw[V.loopN_z];rfl
 |succ n ih=>
  intro v14_0 v14_1 v14_5 v14_6
  rw[V.loopN_s,ZV.r14]
  simp only[ih]
  first|exact(ZV.u14 ..).symm|rfl
theorem ZV.v (x0:(Z3)):V.evBody ZV.E ZV.con Tryz.f28 ((x0):(Z3))=ZV.b x0 (fun y2 v14_0 v14_1 v14_5 v14_6=>V.loopN (V.loopF ZV.E Tryz.f28.ntmps [1,1,0,1,0,1,1,1,0,1,0] [] (V.codeOf Tryz.f28) (ZV.kt x0)) V.KK (ZV.s14 x0 y2 v14_0 v14_1 v14_5 v14_6)):=by kernel_rfl
theorem ZV.eq (x0:(Z3)):V.evBody ZV.E ZV.con Tryz.f28 ((x0):(Z3))=ZV x0:=by
 rw[ZV.v]
 simp only[ZV.e14]
 rfl
theorem ZV.ok :V.Valid Tryz.prog 28 ZV.con:=
 V.fo (V.tab_cons ZK.ok (V.tab_cons Zd.ok (V.tab_cons Um.ok (V.tab_cons Zq.ok (V.tab_cons WM.ok V.tab_nil))))) Tryz.func28 (by kernel_rfl) (fun x y h=>(show V.evBody ZV.E ZV.con Tryz.f28 x=_ from ZV.eq x).trans (V.cfl (by kernel_rfl) h))
noncomputable abbrev ZO.con :V.Con:=⟨(.cons (.ptr (.cons (.sl (.cons (.int .u8) .nil)) (V.ci (V.ci .nil)))) .nil),(.cons (.ptr (.cons (.sl (.cons (.int .u8) .nil)) (V.ci (V.ci .nil)))) (V.ci (V.ci (V.ci (V.ci (V.ci (V.ci (V.ci (V.ci (.cons (.sl (V.ci .nil)) (V.ci (.cons (.sl (V.ci .nil)) (V.ci (V.ci (.cons (.sl (V.ci .nil)) (V.ci (.cons .bool (.cons (.sl (V.ci (V.ci .nil))) .nil)))))))))))))))))),fun(x:(Z3))=>ZO x,[(0,false)],[(false,1)],[(true,17)],[false,false,false,false,false,false,false,false,true,false,true,false,false,true,false,false,true],[]⟩
noncomputable abbrev ZO.E :V.Env:=V.mkE V.tys [(29,ZK.con),(31,Zd.con),(78,YS.con),(98,ZN.con),(152,Yg.con)] [(13,[0,2,3,7],[]),(25,[0,2,3,7],[])] [] [] [] [(5,[1000])]
noncomputable abbrev ZO.kt (x0:(Z3)):V.Kt ((Z3)×Int×Int×Int×Int×Int×Int×Int×Int×List Int×Int×List Int×Int×Int×List Int×Int×Bool×List Zb):=V.ktOf ZO.E ZO.con Tryz.f154 ((x0):(Z3))
noncomputable abbrev ZO.s25 (x0:(Z3))(v13_18:Int)(v13_19:Int)(v13_20:Int)(v13_21:Int)(v13_22:Int)(v13_23:Int)(v13_24:Int)(v13_25:Int)(v13_26:Int)(v13_30:Bool)(v13_31:List Int)(y1:(Z3)×List Int×Int)(v25_1:Int)(v25_2:Int)(v25_27:Int)(v25_28:Int)(v25_29:Int)(v25_32:List Int)(v25_33:List Int):V.St:=⟨[(0, .v false [.ptr 0 0]),(2, .v false [.ptr 64000 0]),(3, .v false [.ptr 128128 0]),(7, .v false [.ptr 384640 0])],[(0, .box [.val (.sl (.cons (.int .u8) .nil) x0.1), .vi (v25_1), .vi (v25_2)]),(64000, .box [.vi ((0:Int)), .vi ((0:Int)), .vi ((0:Int)), .vi ((0:Int)), .vi ((0:Int)), .vi ((0:Int)), .vi ((0:Int)), .vi ((0:Int)), .nil0, .vi ((0:Int)), .nil0, .vi ((0:Int)), .vi ((0:Int)), .nil0, .vi ((0:Int)), .val (.bool false), .nil0]),(128128, .box [.ref 64000000000008200192, .vi (y1.2.2)]),(64000000000008200192, .row (V.ci .nil) true y1.2.1),(384640, .box [.vi (v13_18), .vi (v13_19), .vi (v13_20), .vi (v13_21), .vi (v13_22), .vi (v13_23), .vi (v13_24), .vi (v13_25), .ref 64000000000024616968, .vi (v13_26), .ref 64000000000024616970, .vi (v25_27), .vi (v25_28), .ref 64000000000024616973, .vi (v25_29), .val (.bool v13_30)]),(64000000000024616968, .row (V.ci .nil) true v13_31),(64000000000024616970, .row (V.ci .nil) true v25_32),(64000000000024616973, .row (V.ci .nil) true v25_33)]⟩
noncomputable abbrev ZO.s13 (x0:(Z3))(y1:(Z3)×List Int×Int)(v13_1:Int)(v13_2:Int)(v13_18:Int)(v13_19:Int)(v13_20:Int)(v13_21:Int)(v13_22:Int)(v13_23:Int)(v13_24:Int)(v13_25:Int)(v13_26:Int)(v13_27:Int)(v13_28:Int)(v13_29:Int)(v13_30:Bool)(v13_31:List Int)(v13_32:List Int)(v13_33:List Int):V.St:=⟨[(0, .v false [.ptr 0 0]),(2, .v false [.ptr 64000 0]),(3, .v false [.ptr 128128 0]),(7, .v false [.ptr 384640 0])],[(0, .box [.val (.sl (.cons (.int .u8) .nil) x0.1), .vi (v13_1), .vi (v13_2)]),(64000, .box [.vi ((0:Int)), .vi ((0:Int)), .vi ((0:Int)), .vi ((0:Int)), .vi ((0:Int)), .vi ((0:Int)), .vi ((0:Int)), .vi ((0:Int)), .nil0, .vi ((0:Int)), .nil0, .vi ((0:Int)), .vi ((0:Int)), .nil0, .vi ((0:Int)), .val (.bool false), .nil0]),(128128, .box [.ref 64000000000008200192, .vi (y1.2.2)]),(64000000000008200192, .row (V.ci .nil) true y1.2.1),(384640, .box [.vi (v13_18), .vi (v13_19), .vi (v13_20), .vi (v13_21), .vi (v13_22), .vi (v13_23), .vi (v13_24), .vi (v13_25), .ref 64000000000024616968, .vi (v13_26), .ref 64000000000024616970, .vi (v13_27), .vi (v13_28), .ref 64000000000024616973, .vi (v13_29), .val (.bool v13_30)]),(64000000000024616968, .row (V.ci .nil) true v13_31),(64000000000024616970, .row (V.ci .nil) true v13_32),(64000000000024616973, .row (V.ci .nil) true v13_33)]⟩
theorem ZO.r25 (x0:(Z3))(v13_18:Int)(v13_19:Int)(v13_20:Int)(v13_21:Int)(v13_22:Int)(v13_23:Int)(v13_24:Int)(v13_25:Int)(v13_26:Int)(v13_30:Bool)(v13_31:List Int)(y1:(Z3)×List Int×Int)(v25_1:Int)(v25_2:Int)(v25_27:Int)(v25_28:Int)(v25_29:Int)(v25_32:List Int)(v25_33:List Int):V.joinF ZO.E Tryz.f154.ntmps [1,1,1,1,1,1] [] (V.codeOf Tryz.f154) (ZO.kt x0) (ZO.s25 x0 v13_18 v13_19 v13_20 v13_21 v13_22 v13_23 v13_24 v13_25 v13_26 v13_30 v13_31 y1 v25_1 v25_2 v25_27 v25_28 v25_29 v25_32 v25_33)=ZO.g25 x0 v13_18 v13_19 v13_20 v13_21 v13_22 v13_23 v13_24 v13_25 v13_26 v13_30 v13_31 y1 v25_1 v25_2 v25_27 v25_28 v25_29 v25_32 v25_33:=by kernel_rfl
theorem ZO.e25 (x0:(Z3))(v13_18:Int)(v13_19:Int)(v13_20:Int)(v13_21:Int)(v13_22:Int)(v13_23:Int)(v13_24:Int)(v13_25:Int)(v13_26:Int)(v13_30:Bool)(v13_31:List Int)(y1:(Z3)×List Int×Int)(v25_1:Int)(v25_2:Int)(v25_27:Int)(v25_28:Int)(v25_29:Int)(v25_32:List Int)(v25_33:List Int):V.jn (V.joinF ZO.E Tryz.f154.ntmps [1,1,1,1,1,1] [] (V.codeOf Tryz.f154) (ZO.kt x0)) (ZO.s25 x0 v13_18 v13_19 v13_20 v13_21 v13_22 v13_23 v13_24 v13_25 v13_26 v13_30 v13_31 y1 v25_1 v25_2 v25_27 v25_28 v25_29 v25_32 v25_33)=ZO.l25 x0 v13_18 v13_19 v13_20 v13_21 v13_22 v13_23 v13_24 v13_25 v13_26 v13_30 v13_31 y1 v25_1 v25_2 v25_27 v25_28 v25_29 v25_32 v25_33:=by
 rw[V.jn_eq,ZO.r25]
 rfl
theorem ZO.r13 (x0:(Z3))(y1:(Z3)×List Int×Int)(v13_1:Int)(v13_2:Int)(v13_18:Int)(v13_19:Int)(v13_20:Int)(v13_21:Int)(v13_22:Int)(v13_23:Int)(v13_24:Int)(v13_25:Int)(v13_26:Int)(v13_27:Int)(v13_28:Int)(v13_29:Int)(v13_30:Bool)(v13_31:List Int)(v13_32:List Int)(v13_33:List Int):V.joinF ZO.E Tryz.f154.ntmps [1,1,1,1,1] [] (V.codeOf Tryz.f154) (ZO.kt x0) (ZO.s13 x0 y1 v13_1 v13_2 v13_18 v13_19 v13_20 v13_21 v13_22 v13_23 v13_24 v13_25 v13_26 v13_27 v13_28 v13_29 v13_30 v13_31 v13_32 v13_33)=ZO.g13 x0 y1 (fun y1 v25_1 v25_2 v25_27 v25_28 v25_29 v25_32 v25_33=>V.jn (V.joinF ZO.E Tryz.f154.ntmps [1,1,1,1,1,1] [] (V.codeOf Tryz.f154) (ZO.kt x0)) (ZO.s25 x0 v13_18 v13_19 v13_20 v13_21 v13_22 v13_23 v13_24 v13_25 v13_26 v13_30 v13_31 y1 v25_1 v25_2 v25_27 v25_28 v25_29 v25_32 v25_33)) v13_1 v13_2 v13_18 v13_19 v13_20 v13_21 v13_22 v13_23 v13_24 v13_25 v13_26 v13_27 v13_28 v13_29 v13_30 v13_31 v13_32 v13_33:=by kernel_rfl
theorem ZO.e13 (x0:(Z3))(y1:(Z3)×List Int×Int)(v13_1:Int)(v13_2:Int)(v13_18:Int)(v13_19:Int)(v13_20:Int)(v13_21:Int)(v13_22:Int)(v13_23:Int)(v13_24:Int)(v13_25:Int)(v13_26:Int)(v13_27:Int)(v13_28:Int)(v13_29:Int)(v13_30:Bool)(v13_31:List Int)(v13_32:List Int)(v13_33:List Int):V.jn (V.joinF ZO.E Tryz.f154.ntmps [1,1,1,1,1] [] (V.codeOf Tryz.f154) (ZO.kt x0)) (ZO.s13 x0 y1 v13_1 v13_2 v13_18 v13_19 v13_20 v13_21 v13_22 v13_23 v13_24 v13_25 v13_26 v13_27 v13_28 v13_29 v13_30 v13_31 v13_32 v13_33)=ZO.l13 x0 y1 v13_1 v13_2 v13_18 v13_19 v13_20 v13_21 v13_22 v13_23 v13_24 v13_25 v13_26 v13_27 v13_28 v13_29 v13_30 v13_31 v13_32 v13_33:=by
 rw[V.jn_eq,ZO.r13]
 simp only[ZO.e25]
 rfl
theorem ZO.v (x0:(Z3)):V.evBody ZO.E ZO.con Tryz.f154 ((x0):(Z3))=ZO.b x0 (fun y1 v13_1 v13_2 v13_18 v13_19 v13_20 v13_21 v13_22 v13_23 v13_24 v13_25 v13_26 v13_27 v13_28 v13_29 v13_30 v13_31 v13_32 v13_33=>V.jn (V.joinF ZO.E Tryz.f154.ntmps [1,1,1,1,1] [] (V.codeOf Tryz.f154) (ZO.kt x0)) (ZO.s13 x0 y1 v13_1 v13_2 v13_18 v13_19 v13_20 v13_21 v13_22 v13_23 v13_24 v13_25 v13_26 v13_27 v13_28 v13_29 v13_30 v13_31 v13_32 v13_33)):=by kernel_rfl
theorem ZO.eq (x0:(Z3)):V.evBody ZO.E ZO.con Tryz.f154 ((x0):(Z3))=ZO x0:=by
 rw[ZO.v]
 simp only[ZO.e13]
 rfl
theorem ZO.ok :V.Valid Tryz.prog 154 ZO.con:=
 V.fo (V.tab_cons ZK.ok (V.tab_cons Zd.ok (V.tab_cons YS.ok (V.tab_cons ZN.ok (V.tab_cons Yg.ok V.tab_nil))))) Tryz.func154 (by kernel_rfl) (fun x y h=>(show V.evBody ZO.E ZO.con Tryz.f154 x=_ from ZO.eq x).trans (V.cfl (by kernel_rfl) h))
noncomputable abbrev YA.con :V.Con:=⟨(.cons (.ptr (.cons (.sl (.cons (.int .u8) .nil)) (V.ci (V.ci .nil)))) .nil),(.cons (.ptr (.cons (.sl (.cons (.int .u8) .nil)) (V.ci (V.ci .nil)))) (.cons (.sl V.eSigned) .nil)),fun(x:(Z3))=>YA x,[(0,false)],[(false,1)],[(false,1)],[true],[]⟩
noncomputable abbrev YA.E :V.Env:=V.mkE V.tys [(31,Zd.con),(38,Ya.con),(153,Zh.con),(154,ZO.con)] [(6,[0,3,4],[])] [] [] [] []
noncomputable abbrev YA.kt (x0:(Z3)):V.Kt ((Z3)×List Z5):=V.ktOf YA.E YA.con Tryz.f101 ((x0):(Z3))
noncomputable abbrev YA.s6 (x0:(Z3))(v6_0:Int)(v6_2:Int)(v6_3:Int)(v6_4:List Z5):V.St:=⟨[(0, .v false [.ptr 0 0]),(3, .v false [.ref 64000038400192]),(4, .v false [.vi (v6_0)])],[(0, .box [.val (.sl (.cons (.int .u8) .nil) x0.1), .vi (v6_2), .vi (v6_3)]),(64000038400192, .row V.eSigned true v6_4)]⟩
theorem YA.r6 (x0:(Z3))(R:V.St→Option ((Z3)×List Z5))(v6_0:Int)(v6_2:Int)(v6_3:Int)(v6_4:List Z5):V.loopF YA.E Tryz.f101.ntmps [1,1,0,1,0] [] (V.codeOf Tryz.f101) (YA.kt x0) R (YA.s6 x0 v6_0 v6_2 v6_3 v6_4)=YA.g6 x0 (fun v6_0 v6_2 v6_3 v6_4=>R (YA.s6 x0 v6_0 v6_2 v6_3 v6_4)) v6_0 v6_2 v6_3 v6_4:=by kernel_rfl
theorem YA.e6 (x0:(Z3)):∀(n:Nat) (v6_0:Int) (v6_2:Int) (v6_3:Int) (v6_4:List Z5),V.loopN (V.loopF YA.E Tryz.f101.ntmps [1,1,0,1,0] [] (V.codeOf Tryz.f101) (YA.kt x0)) n (YA.s6 x0 v6_0 v6_2 v6_3 v6_4)=YA.l6 x0 n v6_0 v6_2 v6_3 v6_4:=by
 intro n
 induction n with
 |zero=>intros;rw[V.loopN_z];rfl
 |succ n ih=>
  intro v6_0 v6_2 v6_3 v6_4
  rw[V.loopN_s,YA.r6]
  simp only[ih]
  first|exact(YA.u6 ..).symm|rfl
theorem YA.v (x0:(Z3)):V.evBody YA.E YA.con Tryz.f101 ((x0):(Z3))=YA.b x0 (fun v6_0 v6_2 v6_3 v6_4=>V.loopN (V.loopF YA.E Tryz.f101.ntmps [1,1,0,1,0] [] (V.codeOf Tryz.f101) (YA.kt x0)) V.KK (YA.s6 x0 v6_0 v6_2 v6_3 v6_4)):=by kernel_rfl
theorem YA.eq (x0:(Z3)):V.evBody YA.E YA.con Tryz.f101 ((x0):(Z3))=YA x0:=by
 rw[YA.v]
 simp only[YA.e6]
 rfl
theorem YA.ok :V.Valid Tryz.prog 101 YA.con:=
 V.fo (V.tab_cons Zd.ok (V.tab_cons Ya.ok (V.tab_cons Zh.ok (V.tab_cons ZO.ok V.tab_nil)))) Tryz.func101 (by kernel_rfl) (fun x y h=>(show V.evBody YA.E YA.con Tryz.f101 x=_ from YA.eq x).trans (V.cfl (by kernel_rfl) h))
noncomputable abbrev ZQ.con :V.Con:=⟨(.cons (.ptr (.cons (.sl (.cons (.int .u8) .nil)) (V.ci (V.ci .nil)))) .nil),(.cons (.ptr (.cons (.sl (.cons (.int .u8) .nil)) (V.ci (V.ci .nil)))) (V.ci (V.ci (V.ci (V.ci (V.ci (V.ci (V.ci (V.ci (.cons (.sl (V.ci .nil)) (V.ci (.cons (.sl (V.ci .nil)) (V.ci (V.ci (.cons (.sl (V.ci .nil)) (V.ci (.cons .bool .nil))))))))))))))))),fun(x:(Z3))=>ZQ x,[(0,false)],[(false,1)],[(true,16)],[false,false,false,false,false,false,false,false,true,false,true,false,false,true,false,false],[]⟩
noncomputable abbrev ZQ.E :V.Env:=V.mkE V.tys [(26,Xn.con),(31,Zd.con),(98,ZN.con)] [(7,[0,2,3],[]),(13,[0,2,3],[(64000000000008265738,(V.ci .nil),true)])] [] [] [] [(2,[1000])]
noncomputable abbrev ZQ.kt (x0:(Z3)):V.Kt ((Z3)×Int×Int×Int×Int×Int×Int×Int×Int×List Int×Int×List Int×Int×Int×List Int×Int×Bool):=V.ktOf ZQ.E ZQ.con Tryz.f60 ((x0):(Z3))
noncomputable abbrev ZQ.s13 (x0:(Z3))(v7_18:Int)(v7_20:Int)(y1:(Z3)×Int)(y2:(Z3)×Int)(y4:(Z3)×Int)(y5:(Z3)×Int)(y6:(Z3)×Int)(y7:(Z3)×Int)(y8:(Z3)×List Int×Int)(v13_1:Int)(v13_2:Int)(v13_25:Int)(v13_26:Int)(v13_30:List Int):V.St:=⟨[(0, .v false [.ptr 0 0]),(2, .v false [.ptr 64000 0]),(3, .v false [.ptr 129152 0])],[(0, .box [.val (.sl (.cons (.int .u8) .nil) x0.1), .vi (v13_1), .vi (v13_2)]),(64000, .box [.vi ((0:Int)), .vi ((0:Int)), .vi ((0:Int)), .vi ((0:Int)), .vi ((0:Int)), .vi ((0:Int)), .vi ((0:Int)), .vi ((0:Int)), .nil0, .vi ((0:Int)), .nil0, .vi ((0:Int)), .vi ((0:Int)), .nil0, .vi ((0:Int)), .val (.bool false)]),(129152, .box [.vi (y1.2), .vi (y2.2), .vi (v7_18), .vi (y4.2), .vi (v7_20), .vi (y7.2), .vi (y5.2), .vi (y6.2), .ref 64000000000008265736, .vi (y8.2.2), .ref 64000000000008265738, .vi (v13_25), .vi (v13_26), .nil0, .vi ((0:Int)), .val (.bool false)]),(64000000000008265736, .row (V.ci .nil) true y8.2.1),(64000000000008265738, .row (V.ci .nil) true v13_30)]⟩
noncomputable abbrev ZQ.s7 (x0:(Z3))(y1:(Z3)×Int)(y2:(Z3)×Int)(y4:(Z3)×Int)(y5:(Z3)×Int)(y6:(Z3)×Int)(y7:(Z3)×Int)(y8:(Z3)×List Int×Int)(v7_1:Int)(v7_2:Int)(v7_18:Int)(v7_20:Int):V.St:=⟨[(0, .v false [.ptr 0 0]),(2, .v false [.ptr 64000 0]),(3, .v false [.ptr 129152 0])],[(0, .box [.val (.sl (.cons (.int .u8) .nil) x0.1), .vi (v7_1), .vi (v7_2)]),(64000, .box [.vi ((0:Int)), .vi ((0:Int)), .vi ((0:Int)), .vi ((0:Int)), .vi ((0:Int)), .vi ((0:Int)), .vi ((0:Int)), .vi ((0:Int)), .nil0, .vi ((0:Int)), .nil0, .vi ((0:Int)), .vi ((0:Int)), .nil0, .vi ((0:Int)), .val (.bool false)]),(129152, .box [.vi (y1.2), .vi (y2.2), .vi (v7_18), .vi (y4.2), .vi (v7_20), .vi (y7.2), .vi (y5.2), .vi (y6.2), .ref 64000000000008265736, .vi (y8.2.2), .nil0, .vi ((0:Int)), .vi ((0:Int)), .nil0, .vi ((0:Int)), .val (.bool false)]),(64000000000008265736, .row (V.ci .nil) true y8.2.1)]⟩
theorem ZQ.r13 (x0:(Z3))(v7_18:Int)(v7_20:Int)(y1:(Z3)×Int)(y2:(Z3)×Int)(y4:(Z3)×Int)(y5:(Z3)×Int)(y6:(Z3)×Int)(y7:(Z3)×Int)(y8:(Z3)×List Int×Int)(v13_1:Int)(v13_2:Int)(v13_25:Int)(v13_26:Int)(v13_30:List Int):V.joinF ZQ.E Tryz.f60.ntmps [1,1,1] [] (V.codeOf Tryz.f60) (ZQ.kt x0) (ZQ.s13 x0 v7_18 v7_20 y1 y2 y4 y5 y6 y7 y8 v13_1 v13_2 v13_25 v13_26 v13_30)=ZQ.g13 x0 v7_18 v7_20 y1 y2 y4 y5 y6 y7 y8 v13_1 v13_2 v13_25 v13_26 v13_30:=by kernel_rfl
theorem ZQ.e13 (x0:(Z3))(v7_18:Int)(v7_20:Int)(y1:(Z3)×Int)(y2:(Z3)×Int)(y4:(Z3)×Int)(y5:(Z3)×Int)(y6:(Z3)×Int)(y7:(Z3)×Int)(y8:(Z3)×List Int×Int)(v13_1:Int)(v13_2:Int)(v13_25:Int)(v13_26:Int)(v13_30:List Int):V.jn (V.joinF ZQ.E Tryz.f60.ntmps [1,1,1] [] (V.codeOf Tryz.f60) (ZQ.kt x0)) (ZQ.s13 x0 v7_18 v7_20 y1 y2 y4 y5 y6 y7 y8 v13_1 v13_2 v13_25 v13_26 v13_30)=ZQ.l13 x0 v7_18 v7_20 y1 y2 y4 y5 y6 y7 y8 v13_1 v13_2 v13_25 v13_26 v13_30:=by
 rw[V.jn_eq,ZQ.r13]
 rfl
theorem ZQ.r7 (x0:(Z3))(y1:(Z3)×Int)(y2:(Z3)×Int)(y4:(Z3)×Int)(y5:(Z3)×Int)(y6:(Z3)×Int)(y7:(Z3)×Int)(y8:(Z3)×List Int×Int)(v7_1:Int)(v7_2:Int)(v7_18:Int)(v7_20:Int):V.joinF ZQ.E Tryz.f60.ntmps [1,1] [] (V.codeOf Tryz.f60) (ZQ.kt x0) (ZQ.s7 x0 y1 y2 y4 y5 y6 y7 y8 v7_1 v7_2 v7_18 v7_20)=ZQ.g7 x0 y1 y2 y4 y5 y6 y7 y8 (fun y1 y2 y4 y5 y6 y7 y8 v13_1 v13_2 v13_25 v13_26 v13_30=>V.jn (V.joinF ZQ.E Tryz.f60.ntmps [1,1,1] [] (V.codeOf Tryz.f60) (ZQ.kt x0)) (ZQ.s13 x0 v7_18 v7_20 y1 y2 y4 y5 y6 y7 y8 v13_1 v13_2 v13_25 v13_26 v13_30)) v7_1 v7_2 v7_18 v7_20:=by kernel_rfl
theorem ZQ.e7 (x0:(Z3))(y1:(Z3)×Int)(y2:(Z3)×Int)(y4:(Z3)×Int)(y5:(Z3)×Int)(y6:(Z3)×Int)(y7:(Z3)×Int)(y8:(Z3)×List Int×Int)(v7_1:Int)(v7_2:Int)(v7_18:Int)(v7_20:Int):V.jn (V.joinF ZQ.E Tryz.f60.ntmps [1,1] [] (V.codeOf Tryz.f60) (ZQ.kt x0)) (ZQ.s7 x0 y1 y2 y4 y5 y6 y7 y8 v7_1 v7_2 v7_18 v7_20)=ZQ.l7 x0 y1 y2 y4 y5 y6 y7 y8 v7_1 v7_2 v7_18 v7_20:=by
 rw[V.jn_eq,ZQ.r7]
 simp only[ZQ.e13]
 rfl
theorem ZQ.v (x0:(Z3)):V.evBody ZQ.E ZQ.con Tryz.f60 ((x0):(Z3))=ZQ.b x0 (fun y1 y2 y4 y5 y6 y7 y8 v7_1 v7_2 v7_18 v7_20=>V.jn (V.joinF ZQ.E Tryz.f60.ntmps [1,1] [] (V.codeOf Tryz.f60) (ZQ.kt x0)) (ZQ.s7 x0 y1 y2 y4 y5 y6 y7 y8 v7_1 v7_2 v7_18 v7_20)):=by kernel_rfl
theorem ZQ.eq (x0:(Z3)):V.evBody ZQ.E ZQ.con Tryz.f60 ((x0):(Z3))=ZQ x0:=by
 rw[ZQ.v]
 simp only[ZQ.e7]
 rfl
theorem ZQ.ok :V.Valid Tryz.prog 60 ZQ.con:=
 V.fo (V.tab_cons Xn.ok (V.tab_cons Zd.ok (V.tab_cons ZN.ok V.tab_nil))) Tryz.func60 (by kernel_rfl) (fun x y h=>(show V.evBody ZQ.E ZQ.con Tryz.f60 x=_ from ZQ.eq x).trans (V.cfl (by kernel_rfl) h))
noncomputable abbrev Wl.con :V.Con:=⟨(.cons (.ptr (.cons (.sl (.cons (.int .u8) .nil)) (V.ci (V.ci .nil)))) .nil),(.cons (.ptr (.cons (.sl (.cons (.int .u8) .nil)) (V.ci (V.ci .nil)))) (.cons (.sl (V.ci .nil)) (V.ci .nil))),fun(x:(Z3))=>Wl x,[(0,false)],[(false,1)],[(true,2)],[true,false],[]⟩
noncomputable abbrev Wl.E :V.Env:=V.mkE V.tys [(31,Zd.con),(48,ZR.con),(98,ZN.con)] [] [] [] [] [(6,[1000])]
theorem Wl.eq (x0:(Z3)):V.evBody Wl.E Wl.con Tryz.f61 ((x0):(Z3))=Wl x0:=by kernel_rfl
theorem Wl.ok :V.Valid Tryz.prog 61 Wl.con:=
 V.fo (V.tab_cons Zd.ok (V.tab_cons ZR.ok (V.tab_cons ZN.ok V.tab_nil))) Tryz.func61 (by kernel_rfl) (fun x y h=>(show V.evBody Wl.E Wl.con Tryz.f61 x=_ from Wl.eq x).trans (V.cfl (by kernel_rfl) h))
noncomputable abbrev Wi.con :V.Con:=⟨(.cons (.ptr (.cons (.sl (.cons (.int .u8) .nil)) (V.ci (V.ci .nil)))) .nil),(.cons (.ptr (.cons (.sl (.cons (.int .u8) .nil)) (V.ci (V.ci .nil)))) (V.ci (V.ci (V.ci (V.ci (V.ci (V.ci (V.ci (V.ci (.cons (.sl (V.ci .nil)) (V.ci (.cons (.sl (V.ci .nil)) (V.ci (V.ci (.cons (.sl (V.ci .nil)) (V.ci (.cons .bool .nil))))))))))))))))),fun(x:(Z3))=>Wi x,[(0,false)],[(false,1)],[(true,16)],[false,false,false,false,false,false,false,false,true,false,true,false,false,true,false,false],[]⟩
noncomputable abbrev Wi.E :V.Env:=V.mkE V.tys [(31,Zd.con),(48,ZR.con),(60,ZQ.con),(61,Wl.con)] [] [] [] [] []
theorem Wi.eq (x0:(Z3)):V.evBody Wi.E Wi.con Tryz.f27 ((x0):(Z3))=Wi x0:=by kernel_rfl
theorem Wi.ok :V.Valid Tryz.prog 27 Wi.con:=
 V.fo (V.tab_cons Zd.ok (V.tab_cons ZR.ok (V.tab_cons ZQ.ok (V.tab_cons Wl.ok V.tab_nil)))) Tryz.func27 (by kernel_rfl) (fun x y h=>(show V.evBody Wi.E Wi.con Tryz.f27 x=_ from Wi.eq x).trans (V.cfl (by kernel_rfl) h))
noncomputable abbrev Ye.con :V.Con:=⟨(.cons (.ptr (.cons (.sl (.cons (.int .u8) .nil)) (V.ci (V.ci .nil)))) .nil),(.cons (.ptr (.cons (.sl (.cons (.int .u8) .nil)) (V.ci (V.ci .nil)))) (.cons (.sl (V.ci .nil)) .nil)),fun(x:(Z3))=>Ye x,[(0,false)],[(false,1)],[(false,1)],[true],[]⟩
noncomputable abbrev Ye.E :V.Env:=V.mkE V.tys [(31,Zd.con)] [(6,[0,3,4],[(64000038400192,(V.ci .nil),true)])] [] [] [] []
noncomputable abbrev Ye.kt (x0:(Z3)):V.Kt ((Z3)×List Int):=V.ktOf Ye.E Ye.con Tryz.f57 ((x0):(Z3))
noncomputable abbrev Ye.s6 (x0:(Z3))(v6_0:Int)(v6_2:Int)(v6_3:Int)(v6_4:List Int):V.St:=⟨[(0, .v false [.ptr 0 0]),(3, .v false [.ref 64000038400192]),(4, .v false [.vi (v6_0)])],[(0, .box [.val (.sl (.cons (.int .u8) .nil) x0.1), .vi (v6_2), .vi (v6_3)]),(64000038400192, .row (V.ci .nil) true v6_4)]⟩
theorem Ye.r6 (x0:(Z3))(R:V.St→Option ((Z3)×List Int))(v6_0:Int)(v6_2:Int)(v6_3:Int)(v6_4:List Int):V.loopF Ye.E Tryz.f57.ntmps [1,1,0,1,0] [] (V.codeOf Tryz.f57) (Ye.kt x0) R (Ye.s6 x0 v6_0 v6_2 v6_3 v6_4)=Ye.g6 x0 (fun v6_0 v6_2 v6_3 v6_4=>R (Ye.s6 x0 v6_0 v6_2 v6_3 v6_4)) v6_0 v6_2 v6_3 v6_4:=by kernel_rfl
theorem Ye.e6 (x0:(Z3)):∀(n:Nat) (v6_0:Int) (v6_2:Int) (v6_3:Int) (v6_4:List Int),V.loopN (V.loopF Ye.E Tryz.f57.ntmps [1,1,0,1,0] [] (V.codeOf Tryz.f57) (Ye.kt x0)) n (Ye.s6 x0 v6_0 v6_2 v6_3 v6_4)=Ye.l6 x0 n v6_0 v6_2 v6_3 v6_4:=by
 intro n
 induction n with
 |zero=>intros;rw[V.loopN_z];rfl
 |succ n ih=>
  intro v6_0 v6_2 v6_3 v6_4
  rw[V.loopN_s,Ye.r6]
  simp only[ih]
  first|exact(Ye.u6 ..).symm|rfl
theorem Ye.v (x0:(Z3)):V.evBody Ye.E Ye.con Tryz.f57 ((x0):(Z3))=Ye.b x0 (fun v6_0 v6_2 v6_3 v6_4=>V.loopN (V.loopF Ye.E Tryz.f57.ntmps [1,1,0,1,0] [] (V.codeOf Tryz.f57) (Ye.kt x0)) V.KK (Ye.s6 x0 v6_0 v6_2 v6_3 v6_4)):=by kernel_rfl
theorem Ye.eq (x0:(Z3)):V.evBody Ye.E Ye.con Tryz.f57 ((x0):(Z3))=Ye x0:=by
 rw[Ye.v]
 simp only[Ye.e6]
 rfl
theorem Ye.ok :V.Valid Tryz.prog 57 Ye.con:=
 V.fo (V.tab_cons Zd.ok V.tab_nil) Tryz.func57 (by kernel_rfl) (fun x y h=>(show V.evBody Ye.E Ye.con Tryz.f57 x=_ from Ye.eq x).trans (V.cfl (by kernel_rfl) h))
noncomputable abbrev YT.con :V.Con:=⟨(.cons (.ptr (.cons (.sl (.cons (.int .u8) .nil)) (V.ci (V.ci .nil)))) (.cons (.sl (V.ci .nil)) (V.ci (.cons (.sl (V.ci .nil)) .nil)))),(.cons (.ptr (.cons (.sl (.cons (.int .u8) .nil)) (V.ci (V.ci .nil)))) (.cons (.sl (V.ci (V.ci .nil))) .nil)),fun(x:(Z3)×List Int×Int×List Int)=>YT x.1 (x.2.1,x.2.2.1) x.2.2.2,[(0,false)],[(false,1),(true,2),(false,1)],[(false,1)],[true],[]⟩
noncomputable abbrev YT.E :V.Env:=V.mkE V.tys [(31,Zd.con),(48,ZR.con),(57,Ye.con),(130,Y6.con)] [(5,[0,7],[])] [] [] [] [(1,[1000])]
noncomputable abbrev YT.kt (x0:(Z3))(x1:Zc)(x2:List Int):V.Kt ((Z3)×List Zb):=V.ktOf YT.E YT.con Tryz.f155 ((x0,x1.1,x1.2,x2):(Z3)×List Int×Int×List Int)
noncomputable abbrev YT.s5 (x0:(Z3))(v5_1:Int)(v5_2:Int)(v5_3:List Zb):V.St:=⟨[(0, .v false [.ptr 0 0]),(7, .v false [.ref 64000032000448])],[(0, .box [.val (.sl (.cons (.int .u8) .nil) x0.1), .vi (v5_1), .vi (v5_2)]),(64000032000448, .row (V.ci (V.ci .nil)) true v5_3)]⟩
theorem YT.r5 (x0:(Z3))(x1:Zc)(x2:List Int)(v5_1:Int)(v5_2:Int)(v5_3:List Zb):V.joinF YT.E Tryz.f155.ntmps [1] [] (V.codeOf Tryz.f155) (YT.kt x0 x1 x2) (YT.s5 x0 v5_1 v5_2 v5_3)=YT.g5 x0 v5_1 v5_2 v5_3:=by kernel_rfl
theorem YT.e5 (x0:(Z3))(x1:Zc)(x2:List Int)(v5_1:Int)(v5_2:Int)(v5_3:List Zb):V.jn (V.joinF YT.E Tryz.f155.ntmps [1] [] (V.codeOf Tryz.f155) (YT.kt x0 x1 x2)) (YT.s5 x0 v5_1 v5_2 v5_3)=YT.l5 x0 v5_1 v5_2 v5_3:=by
 rw[V.jn_eq,YT.r5]
 rfl
theorem YT.v (x0:(Z3))(x1:Zc)(x2:List Int):V.evBody YT.E YT.con Tryz.f155 ((x0,x1.1,x1.2,x2):(Z3)×List Int×Int×List Int)=YT.b x0 x1 x2 (fun v5_1 v5_2 v5_3=>V.jn (V.joinF YT.E Tryz.f155.ntmps [1] [] (V.codeOf Tryz.f155) (YT.kt x0 x1 x2)) (YT.s5 x0 v5_1 v5_2 v5_3)):=by kernel_rfl
theorem YT.eq (x0:(Z3))(x1:Zc)(x2:List Int):V.evBody YT.E YT.con Tryz.f155 ((x0,x1.1,x1.2,x2):(Z3)×List Int×Int×List Int)=YT x0 x1 x2:=by
 rw[YT.v]
 simp only[YT.e5]
 rfl
theorem YT.ok :V.Valid Tryz.prog 155 YT.con:=
 V.fo (V.tab_cons Zd.ok (V.tab_cons ZR.ok (V.tab_cons Ye.ok (V.tab_cons Y6.ok V.tab_nil)))) Tryz.func155 (by kernel_rfl) (fun x y h=>(show V.evBody YT.E YT.con Tryz.f155 x=_ from YT.eq x.1 (x.2.1,x.2.2.1) x.2.2.2).trans (V.cfl (by kernel_rfl) h))
noncomputable abbrev Uj.con :V.Con:=⟨(.cons (.ptr (.cons (.sl (.cons (.int .u8) .nil)) (V.ci (V.ci .nil)))) .nil),(.cons (.ptr (.cons (.sl (.cons (.int .u8) .nil)) (V.ci (V.ci .nil)))) (V.ci (V.ci (V.ci (V.ci (V.ci (V.ci (V.ci (V.ci (.cons (.sl (V.ci .nil)) (V.ci (.cons (.sl (V.ci .nil)) (V.ci (V.ci (.cons (.sl (V.ci .nil)) (V.ci (.cons .bool (.cons (.sl (V.ci (V.ci .nil))) .nil)))))))))))))))))),fun(x:(Z3))=>Uj x,[(0,false)],[(false,1)],[(true,17)],[false,false,false,false,false,false,false,false,true,false,true,false,false,true,false,false,true],[]⟩
noncomputable abbrev Uj.E :V.Env:=V.mkE V.tys [(27,Wi.con),(31,Zd.con),(78,YS.con),(129,X0.con),(154,ZO.con),(155,YT.con)] [] [(6,7)] [] [] []
theorem Uj.eq (x0:(Z3)):V.evBody Uj.E Uj.con Tryz.f102 ((x0):(Z3))=Uj x0:=by kernel_rfl
theorem Uj.ok :V.Valid Tryz.prog 102 Uj.con:=
 V.fo (V.tab_cons Wi.ok (V.tab_cons Zd.ok (V.tab_cons YS.ok (V.tab_cons X0.ok (V.tab_cons ZO.ok (V.tab_cons YT.ok V.tab_nil)))))) Tryz.func102 (by kernel_rfl) (fun x y h=>(show V.evBody Uj.E Uj.con Tryz.f102 x=_ from Uj.eq x).trans (V.cfl (by kernel_rfl) h))
noncomputable abbrev Uk.con :V.Con:=⟨(.cons (.ptr (.cons (.sl (.cons (.int .u8) .nil)) (V.ci (V.ci .nil)))) .nil),(.cons (.ptr (.cons (.sl (.cons (.int .u8) .nil)) (V.ci (V.ci .nil)))) (.cons (.sl V.eSigned) .nil)),fun(x:(Z3))=>Uk x,[(0,false)],[(false,1)],[(false,1)],[true],[]⟩
noncomputable abbrev Uk.E :V.Env:=V.mkE V.tys [(31,Zd.con),(101,YA.con),(102,Uj.con)] [] [] [] [] []
theorem Uk.eq (x0:(Z3)):V.evBody Uk.E Uk.con Tryz.f56 ((x0):(Z3))=Uk x0:=by kernel_rfl
theorem Uk.ok :V.Valid Tryz.prog 56 Uk.con:=
 V.fo (V.tab_cons Zd.ok (V.tab_cons YA.ok (V.tab_cons Uj.ok V.tab_nil))) Tryz.func56 (by kernel_rfl) (fun x y h=>(show V.evBody Uk.E Uk.con Tryz.f56 x=_ from Uk.eq x).trans (V.cfl (by kernel_rfl) h))
noncomputable abbrev Wv.con :V.Con:=⟨(.cons (.ptr (.cons (.sl (.cons (.int .u8) .nil)) (V.ci (V.ci .nil)))) .nil),(.cons (.ptr (.cons (.sl (.cons (.int .u8) .nil)) (V.ci (V.ci .nil)))) (.cons (.sl V.eSigned) (.cons (.sl V.eEntry) .nil))),fun(x:(Z3))=>Wv x,[(0,false)],[(false,1)],[(true,2)],[false,false],[]⟩
noncomputable abbrev Wv.E :V.Env:=V.mkE V.tys [(28,ZV.con),(31,Zd.con),(55,ZL.con),(56,Uk.con)] [] [] [] [] []
theorem Wv.eq (x0:(Z3)):V.evBody Wv.E Wv.con Tryz.f23 ((x0):(Z3))=Wv x0:=by kernel_rfl
theorem Wv.ok :V.Valid Tryz.prog 23 Wv.con:=
 V.fo (V.tab_cons ZV.ok (V.tab_cons Zd.ok (V.tab_cons ZL.ok (V.tab_cons Uk.ok V.tab_nil)))) Tryz.func23 (by kernel_rfl) (fun x y h=>(show V.evBody Wv.E Wv.con Tryz.f23 x=_ from Wv.eq x).trans (V.cfl (by kernel_rfl) h))
noncomputable abbrev YP.con :V.Con:=⟨(.cons (.ptr (.cons (.sl (.cons (.int .u8) .nil)) (V.ci (V.ci .nil)))) (.cons (.sl V.eSigned) (.cons (.sl V.eEntry) .nil))),(.cons (.ptr (.cons (.sl (.cons (.int .u8) .nil)) (V.ci (V.ci .nil)))) (.cons (.sl (V.ci .nil)) .nil)),fun(x:(Z3)×List Z5×List Z4)=>YP x.1 x.2,[(0,false)],[(false,1),(true,2)],[(false,1)],[true],[]⟩
noncomputable abbrev YP.E :V.Env:=V.mkE V.tys [(25,Xb.con),(26,Xn.con),(57,Ye.con)] [(9,[0,5,6,21],[])] [] [] [] []
noncomputable abbrev YP.kt (x0:(Z3))(x1:Zt):V.Kt ((Z3)×List Int):=V.ktOf YP.E YP.con Tryz.f24 ((x0,x1.1,x1.2):(Z3)×List Z5×List Z4)
noncomputable abbrev YP.s9 (x0:(Z3))(y1:(Z3)×List Int)(y2:ZA)(v9_0:Bool)(v9_2:Int)(v9_3:Int):V.St:=⟨[(0, .v false [.ptr 0 0]),(5, .v false [.ref 64000057600320]),(6, .v false [.ptr 192384 0]),(21, .v false [.val (.bool v9_0)])],[(0, .box [.val (.sl (.cons (.int .u8) .nil) x0.1), .vi (v9_2), .vi (v9_3)]),(64000057600320, .row (V.ci .nil) true y1.2),(192384, .box [.vi (y2.1), .vi (y2.2.1), .vi (y2.2.2.1), .vi (y2.2.2.2.1), .vi (y2.2.2.2.2.1), .vi (y2.2.2.2.2.2.1), .vi (y2.2.2.2.2.2.2.1), .vi (y2.2.2.2.2.2.2.2.1), .ref 64000000000012312584, .vi (y2.2.2.2.2.2.2.2.2.2.1), .ref 64000000000012312586, .vi (y2.2.2.2.2.2.2.2.2.2.2.2.1), .vi (y2.2.2.2.2.2.2.2.2.2.2.2.2.1), .ref 64000000000012312589, .vi (y2.2.2.2.2.2.2.2.2.2.2.2.2.2.2.1), .val (.bool y2.2.2.2.2.2.2.2.2.2.2.2.2.2.2.2.1)]),(64000000000012312584, .row (V.ci .nil) true y2.2.2.2.2.2.2.2.2.1),(64000000000012312586, .row (V.ci .nil) true y2.2.2.2.2.2.2.2.2.2.2.1),(64000000000012312589, .row (V.ci .nil) true y2.2.2.2.2.2.2.2.2.2.2.2.2.2.1)]⟩
theorem YP.r9 (x0:(Z3))(x1:Zt)(y1:(Z3)×List Int)(y2:ZA)(v9_0:Bool)(v9_2:Int)(v9_3:Int):V.joinF YP.E Tryz.f24.ntmps [1,1,0,1] [] (V.codeOf Tryz.f24) (YP.kt x0 x1) (YP.s9 x0 y1 y2 v9_0 v9_2 v9_3)=YP.g9 x0 y1 y2 v9_0 v9_2 v9_3:=by kernel_rfl
theorem YP.e9 (x0:(Z3))(x1:Zt)(y1:(Z3)×List Int)(y2:ZA)(v9_0:Bool)(v9_2:Int)(v9_3:Int):V.jn (V.joinF YP.E Tryz.f24.ntmps [1,1,0,1] [] (V.codeOf Tryz.f24) (YP.kt x0 x1)) (YP.s9 x0 y1 y2 v9_0 v9_2 v9_3)=YP.l9 x0 y1 y2 v9_0 v9_2 v9_3:=by
 rw[V.jn_eq,YP.r9]
 rfl
theorem YP.v (x0:(Z3))(x1:Zt):V.evBody YP.E YP.con Tryz.f24 ((x0,x1.1,x1.2):(Z3)×List Z5×List Z4)=YP.b x0 x1 (fun y1 y2 v9_0 v9_2 v9_3=>V.jn (V.joinF YP.E Tryz.f24.ntmps [1,1,0,1] [] (V.codeOf Tryz.f24) (YP.kt x0 x1)) (YP.s9 x0 y1 y2 v9_0 v9_2 v9_3)):=by kernel_rfl
theorem YP.eq (x0:(Z3))(x1:Zt):V.evBody YP.E YP.con Tryz.f24 ((x0,x1.1,x1.2):(Z3)×List Z5×List Z4)=YP x0 x1:=by
 rw[YP.v]
 simp only[YP.e9]
 rfl
theorem YP.ok :V.Valid Tryz.prog 24 YP.con:=
 V.fo (V.tab_cons Xb.ok (V.tab_cons Xn.ok (V.tab_cons Ye.ok V.tab_nil))) Tryz.func24 (by kernel_rfl) (fun x y h=>(show V.evBody YP.E YP.con Tryz.f24 x=_ from YP.eq x.1 x.2).trans (V.cfl (by kernel_rfl) h))
noncomputable abbrev Zv.con :V.Con:=⟨(.cons (.sl (.cons (.int .u8) .nil)) .nil),V.eRZoneListHeadList,fun(x:List Int)=>Zv x,[],[(false,1)],[(true,2),(false,1),(true,16),(false,1)],[false,false,true,false,false,false,false,false,false,false,false,false,false,false,false,false,false,false,false,false],[]⟩
noncomputable abbrev Zv.E :V.Env:=V.mkE V.tys [(22,ZG.con),(23,Wv.con),(24,YP.con),(25,Xb.con),(26,Xn.con),(27,Wi.con),(28,ZV.con),(29,ZK.con),(30,Zj.con),(31,Zd.con)] [(13,[2,4,6,7,8,9,32],[]),(17,[2,4,6,7,8,9,11],[(11,V.eEntry,false)]),(19,[2,4,6,7,8,11,12],[]),(23,[2,4,7,8,11,12],[(11,V.eEntry,false)])] [(11,4)] [] [(11,[1,3])] [(6,[1000]),(8,[1000]),(11,[2])]
noncomputable abbrev Zv.kt (x0:List Int):V.Kt ZF:=V.ktOf Zv.E Zv.con Tryz.f5 ((x0):List Int)
noncomputable abbrev Zv.s23 (v19_20:Int)(v19_21:Int)(v19_22:Int)(v19_23:Int)(v19_24:Int)(v19_25:Int)(v19_26:Int)(v19_27:Int)(v19_28:List Int)(v19_29:Int)(v19_30:List Int)(v19_31:Int)(v19_32:Int)(v19_33:List Int)(v19_34:Int)(v19_35:Bool)(y2:(Z3)×List Z5×List Z4)(y3:(Z3)×List Int)(v23_0:List Z4):V.St:=⟨[(2, .v false [.ptr 64000 0]),(4, .v false [.ptr 64128 0]),(7, .v false [.ptr 192128 0]),(8, .v false [.ref 64000147200512]),(11, .v false [.val (.sl V.eEntry v23_0)]),(12, .v false [.ptr 576704 0])],[(64000, .box [.nil0, .nil0]),(64128, .box [.vi ((0:Int)), .vi ((0:Int)), .vi ((0:Int)), .vi ((0:Int)), .vi ((0:Int)), .vi ((0:Int)), .vi ((0:Int)), .vi ((0:Int)), .nil0, .vi ((0:Int)), .nil0, .vi ((0:Int)), .vi ((0:Int)), .nil0, .vi ((0:Int)), .val (.bool false)]),(192128, .box [.val (.sl V.eSigned y2.2.1), .val (.sl V.eEntry y2.2.2)]),(64000147200512, .row (V.ci .nil) true y3.2),(576704, .box [.vi (v19_20), .vi (v19_21), .vi (v19_22), .vi (v19_23), .vi (v19_24), .vi (v19_25), .vi (v19_26), .vi (v19_27), .val (.sl (V.ci .nil) v19_28), .vi (v19_29), .val (.sl (V.ci .nil) v19_30), .vi (v19_31), .vi (v19_32), .val (.sl (V.ci .nil) v19_33), .vi (v19_34), .val (.bool v19_35)])]⟩
noncomputable abbrev Zv.s19 (y1:(Z3))(y2:(Z3)×List Z5×List Z4)(y3:(Z3)×List Int)(y10:(Z3)×List Z4)(v19_15:Int)(v19_16:Int)(v19_20:Int)(v19_21:Int)(v19_22:Int)(v19_23:Int)(v19_24:Int)(v19_25:Int)(v19_26:Int)(v19_27:Int)(v19_28:List Int)(v19_29:Int)(v19_30:List Int)(v19_31:Int)(v19_32:Int)(v19_33:List Int)(v19_34:Int)(v19_35:Bool):V.St:=⟨[(2, .v false [.ptr 64000 0]),(4, .v false [.ptr 64128 0]),(6, .v false [.ptr 128064 0]),(7, .v false [.ptr 192128 0]),(8, .v false [.ref 64000121600512]),(11, .v false [.val (.sl V.eEntry y10.2)]),(12, .v false [.ptr 576704 0])],[(64000, .box [.nil0, .nil0]),(64128, .box [.vi ((0:Int)), .vi ((0:Int)), .vi ((0:Int)), .vi ((0:Int)), .vi ((0:Int)), .vi ((0:Int)), .vi ((0:Int)), .vi ((0:Int)), .nil0, .vi ((0:Int)), .nil0, .vi ((0:Int)), .vi ((0:Int)), .nil0, .vi ((0:Int)), .val (.bool false)]),(128064, .box [.val (.sl (.cons (.int .u8) .nil) y1.1), .vi (v19_15), .vi (v19_16)]),(192128, .box [.val (.sl V.eSigned y2.2.1), .val (.sl V.eEntry y2.2.2)]),(64000121600512, .row (V.ci .nil) true y3.2),(576704, .box [.vi (v19_20), .vi (v19_21), .vi (v19_22), .vi (v19_23), .vi (v19_24), .vi (v19_25), .vi (v19_26), .vi (v19_27), .val (.sl (V.ci .nil) v19_28), .vi (v19_29), .val (.sl (V.ci .nil) v19_30), .vi (v19_31), .vi (v19_32), .val (.sl (V.ci .nil) v19_33), .vi (v19_34), .val (.bool v19_35)])]⟩
noncomputable abbrev Zv.s17 (y1:(Z3))(y2:(Z3)×List Z5×List Z4)(y3:(Z3)×List Int)(y4:ZA)(y10:(Z3)×List Z4):V.St:=⟨[(2, .v false [.ptr 64000 0]),(4, .v false [.ptr 64128 0]),(6, .v false [.ptr 128064 0]),(7, .v false [.ptr 192128 0]),(8, .v false [.ref 64000108800512]),(9, .v false [.ptr 320384 0]),(11, .v false [.val (.sl V.eEntry y10.2)])],[(64000, .box [.nil0, .nil0]),(64128, .box [.vi ((0:Int)), .vi ((0:Int)), .vi ((0:Int)), .vi ((0:Int)), .vi ((0:Int)), .vi ((0:Int)), .vi ((0:Int)), .vi ((0:Int)), .nil0, .vi ((0:Int)), .nil0, .vi ((0:Int)), .vi ((0:Int)), .nil0, .vi ((0:Int)), .val (.bool false)]),(128064, .box [.val (.sl (.cons (.int .u8) .nil) y1.1), .vi (y10.1.2.1), .vi (y10.1.2.2)]),(192128, .box [.val (.sl V.eSigned y2.2.1), .val (.sl V.eEntry y2.2.2)]),(64000108800512, .row (V.ci .nil) true y3.2),(320384, .box [.vi (y4.1), .vi (y4.2.1), .vi (y4.2.2.1), .vi (y4.2.2.2.1), .vi (y4.2.2.2.2.1), .vi (y4.2.2.2.2.2.1), .vi (y4.2.2.2.2.2.2.1), .vi (y4.2.2.2.2.2.2.2.1), .ref 64000000000020504584, .vi (y4.2.2.2.2.2.2.2.2.2.1), .ref 64000000000020504586, .vi (y4.2.2.2.2.2.2.2.2.2.2.2.1), .vi (y4.2.2.2.2.2.2.2.2.2.2.2.2.1), .ref 64000000000020504589, .vi (y4.2.2.2.2.2.2.2.2.2.2.2.2.2.2.1), .val (.bool y4.2.2.2.2.2.2.2.2.2.2.2.2.2.2.2.1)]),(64000000000020504584, .row (V.ci .nil) true y4.2.2.2.2.2.2.2.2.1),(64000000000020504586, .row (V.ci .nil) true y4.2.2.2.2.2.2.2.2.2.2.1),(64000000000020504589, .row (V.ci .nil) true y4.2.2.2.2.2.2.2.2.2.2.2.2.2.1)]⟩
noncomputable abbrev Zv.s13 (y1:(Z3))(y2:(Z3)×List Z5×List Z4)(y3:(Z3)×List Int)(y4:ZA)(v13_0:Bool)(v13_15:Int)(v13_16:Int):V.St:=⟨[(2, .v false [.ptr 64000 0]),(4, .v false [.ptr 64128 0]),(6, .v false [.ptr 128064 0]),(7, .v false [.ptr 192128 0]),(8, .v false [.ref 64000083200512]),(9, .v false [.ptr 320384 0]),(32, .v false [.val (.bool v13_0)])],[(64000, .box [.nil0, .nil0]),(64128, .box [.vi ((0:Int)), .vi ((0:Int)), .vi ((0:Int)), .vi ((0:Int)), .vi ((0:Int)), .vi ((0:Int)), .vi ((0:Int)), .vi ((0:Int)), .nil0, .vi ((0:Int)), .nil0, .vi ((0:Int)), .vi ((0:Int)), .nil0, .vi ((0:Int)), .val (.bool false)]),(128064, .box [.val (.sl (.cons (.int .u8) .nil) y1.1), .vi (v13_15), .vi (v13_16)]),(192128, .box [.val (.sl V.eSigned y2.2.1), .val (.sl V.eEntry y2.2.2)]),(64000083200512, .row (V.ci .nil) true y3.2),(320384, .box [.vi (y4.1), .vi (y4.2.1), .vi (y4.2.2.1), .vi (y4.2.2.2.1), .vi (y4.2.2.2.2.1), .vi (y4.2.2.2.2.2.1), .vi (y4.2.2.2.2.2.2.1), .vi (y4.2.2.2.2.2.2.2.1), .ref 64000000000020504584, .vi (y4.2.2.2.2.2.2.2.2.2.1), .ref 64000000000020504586, .vi (y4.2.2.2.2.2.2.2.2.2.2.2.1), .vi (y4.2.2.2.2.2.2.2.2.2.2.2.2.1), .ref 64000000000020504589, .vi (y4.2.2.2.2.2.2.2.2.2.2.2.2.2.2.1), .val (.bool y4.2.2.2.2.2.2.2.2.2.2.2.2.2.2.2.1)]),(64000000000020504584, .row (V.ci .nil) true y4.2.2.2.2.2.2.2.2.1),(64000000000020504586, .row (V.ci .nil) true y4.2.2.2.2.2.2.2.2.2.2.1),(64000000000020504589, .row (V.ci .nil) true y4.2.2.2.2.2.2.2.2.2.2.2.2.2.1)]⟩
theorem Zv.r23 (x0:List Int)(v19_20:Int)(v19_21:Int)(v19_22:Int)(v19_23:Int)(v19_24:Int)(v19_25:Int)(v19_26:Int)(v19_27:Int)(v19_28:List Int)(v19_29:Int)(v19_30:List Int)(v19_31:Int)(v19_32:Int)(v19_33:List Int)(v19_34:Int)(v19_35:Bool)(y2:(Z3)×List Z5×List Z4)(y3:(Z3)×List Int)(v23_0:List Z4):V.joinF Zv.E Tryz.f5.ntmps [1,1,1,1,1,1,1,1] [] (V.codeOf Tryz.f5) (Zv.kt x0) (Zv.s23 v19_20 v19_21 v19_22 v19_23 v19_24 v19_25 v19_26 v19_27 v19_28 v19_29 v19_30 v19_31 v19_32 v19_33 v19_34 v19_35 y2 y3 v23_0)=Zv.g23 v19_20 v19_21 v19_22 v19_23 v19_24 v19_25 v19_26 v19_27 v19_28 v19_29 v19_30 v19_31 v19_32 v19_33 v19_34 v19_35 y2 y3 v23_0:=by kernel_rfl
theorem Zv.e23 (x0:List Int)(v19_20:Int)(v19_21:Int)(v19_22:Int)(v19_23:Int)(v19_24:Int)(v19_25:Int)(v19_26:Int)(v19_27:Int)(v19_28:List Int)(v19_29:Int)(v19_30:List Int)(v19_31:Int)(v19_32:Int)(v19_33:List Int)(v19_34:Int)(v19_35:Bool)(y2:(Z3)×List Z5×List Z4)(y3:(Z3)×List Int)(v23_0:List Z4):V.jn (V.joinF Zv.E Tryz.f5.ntmps [1,1,1,1,1,1,1,1] [] (V.codeOf Tryz.f5) (Zv.kt x0)) (Zv.s23 v19_20 v19_21 v19_22 v19_23 v19_24 v19_25 v19_26 v19_27 v19_28 v19_29 v19_30 v19_31 v19_32 v19_33 v19_34 v19_35 y2 y3 v23_0)=Zv.l23 v19_20 v19_21 v19_22 v19_23 v19_24 v19_25 v19_26 v19_27 v19_28 v19_29 v19_30 v19_31 v19_32 v19_33 v19_34 v19_35 y2 y3 v23_0:=by
 rw[V.jn_eq,Zv.r23]
 rfl
theorem Zv.r19 (x0:List Int)(y1:(Z3))(y10:(Z3)×List Z4)(y2:(Z3)×List Z5×List Z4)(y3:(Z3)×List Int)(v19_15:Int)(v19_16:Int)(v19_20:Int)(v19_21:Int)(v19_22:Int)(v19_23:Int)(v19_24:Int)(v19_25:Int)(v19_26:Int)(v19_27:Int)(v19_28:List Int)(v19_29:Int)(v19_30:List Int)(v19_31:Int)(v19_32:Int)(v19_33:List Int)(v19_34:Int)(v19_35:Bool):V.joinF Zv.E Tryz.f5.ntmps [1,1,1,1,1,1,1] [] (V.codeOf Tryz.f5) (Zv.kt x0) (Zv.s19 y1 y2 y3 y10 v19_15 v19_16 v19_20 v19_21 v19_22 v19_23 v19_24 v19_25 v19_26 v19_27 v19_28 v19_29 v19_30 v19_31 v19_32 v19_33 v19_34 v19_35)=Zv.g19 y1 y2 y3 y10 (fun y2 y3 v23_0=>V.jn (V.joinF Zv.E Tryz.f5.ntmps [1,1,1,1,1,1,1,1] [] (V.codeOf Tryz.f5) (Zv.kt x0)) (Zv.s23 v19_20 v19_21 v19_22 v19_23 v19_24 v19_25 v19_26 v19_27 v19_28 v19_29 v19_30 v19_31 v19_32 v19_33 v19_34 v19_35 y2 y3 v23_0)) v19_15 v19_16 v19_20 v19_21 v19_22 v19_23 v19_24 v19_25 v19_26 v19_27 v19_28 v19_29 v19_30 v19_31 v19_32 v19_33 v19_34 v19_35:=by kernel_rfl
theorem Zv.e19 (x0:List Int)(y1:(Z3))(y10:(Z3)×List Z4)(y2:(Z3)×List Z5×List Z4)(y3:(Z3)×List Int)(v19_15:Int)(v19_16:Int)(v19_20:Int)(v19_21:Int)(v19_22:Int)(v19_23:Int)(v19_24:Int)(v19_25:Int)(v19_26:Int)(v19_27:Int)(v19_28:List Int)(v19_29:Int)(v19_30:List Int)(v19_31:Int)(v19_32:Int)(v19_33:List Int)(v19_34:Int)(v19_35:Bool):V.jn (V.joinF Zv.E Tryz.f5.ntmps [1,1,1,1,1,1,1] [] (V.codeOf Tryz.f5) (Zv.kt x0)) (Zv.s19 y1 y2 y3 y10 v19_15 v19_16 v19_20 v19_21 v19_22 v19_23 v19_24 v19_25 v19_26 v19_27 v19_28 v19_29 v19_30 v19_31 v19_32 v19_33 v19_34 v19_35)=Zv.l19 y1 y2 y3 y10 v19_15 v19_16 v19_20 v19_21 v19_22 v19_23 v19_24 v19_25 v19_26 v19_27 v19_28 v19_29 v19_30 v19_31 v19_32 v19_33 v19_34 v19_35:=by
 rw[V.jn_eq,Zv.r19]
 simp only[Zv.e23]
 rfl
theorem Zv.r17 (x0:List Int)(y1:(Z3))(y10:(Z3)×List Z4)(y2:(Z3)×List Z5×List Z4)(y3:(Z3)×List Int)(y4:ZA):V.joinF Zv.E Tryz.f5.ntmps [1,1,1,1,1,1] [] (V.codeOf Tryz.f5) (Zv.kt x0) (Zv.s17 y1 y2 y3 y4 y10)=Zv.g17 y1 y2 y3 y4 y10 (fun y1 y2 y3 y10 v19_15 v19_16 v19_20 v19_21 v19_22 v19_23 v19_24 v19_25 v19_26 v19_27 v19_28 v19_29 v19_30 v19_31 v19_32 v19_33 v19_34 v19_35=>V.jn (V.joinF Zv.E Tryz.f5.ntmps [1,1,1,1,1,1,1] [] (V.codeOf Tryz.f5) (Zv.kt x0)) (Zv.s19 y1 y2 y3 y10 v19_15 v19_16 v19_20 v19_21 v19_22 v19_23 v19_24 v19_25 v19_26 v19_27 v19_28 v19_29 v19_30 v19_31 v19_32 v19_33 v19_34 v19_35)):=by kernel_rfl
theorem Zv.e17 (x0:List Int)(y1:(Z3))(y10:(Z3)×List Z4)(y2:(Z3)×List Z5×List Z4)(y3:(Z3)×List Int)(y4:ZA):V.jn (V.joinF Zv.E Tryz.f5.ntmps [1,1,1,1,1,1] [] (V.codeOf Tryz.f5) (Zv.kt x0)) (Zv.s17 y1 y2 y3 y4 y10)=Zv.l17 y1 y2 y3 y4 y10:=by
 rw[V.jn_eq,Zv.r17]
 simp only[Zv.e19]
 rfl
theorem Zv.r13 (x0:List Int)(y1:(Z3))(y2:(Z3)×List Z5×List Z4)(y3:(Z3)×List Int)(y4:ZA)(v13_0:Bool)(v13_15:Int)(v13_16:Int):V.joinF Zv.E Tryz.f5.ntmps [1,1,1,1,1,0] [] (V.codeOf Tryz.f5) (Zv.kt x0) (Zv.s13 y1 y2 y3 y4 v13_0 v13_15 v13_16)=Zv.g13 y1 y2 y3 y4 (fun y1 y2 y3 y4 y10=>V.jn (V.joinF Zv.E Tryz.f5.ntmps [1,1,1,1,1,1] [] (V.codeOf Tryz.f5) (Zv.kt x0)) (Zv.s17 y1 y2 y3 y4 y10)) v13_0 v13_15 v13_16:=by kernel_rfl
theorem Zv.e13 (x0:List Int)(y1:(Z3))(y2:(Z3)×List Z5×List Z4)(y3:(Z3)×List Int)(y4:ZA)(v13_0:Bool)(v13_15:Int)(v13_16:Int):V.jn (V.joinF Zv.E Tryz.f5.ntmps [1,1,1,1,1,0] [] (V.codeOf Tryz.f5) (Zv.kt x0)) (Zv.s13 y1 y2 y3 y4 v13_0 v13_15 v13_16)=Zv.l13 y1 y2 y3 y4 v13_0 v13_15 v13_16:=by
 rw[V.jn_eq,Zv.r13]
 simp only[Zv.e17]
 rfl
theorem Zv.v (x0:List Int):V.evBody Zv.E Zv.con Tryz.f5 ((x0):List Int)=Zv.b x0 (fun y1 y2 y3 y4 v13_0 v13_15 v13_16=>V.jn (V.joinF Zv.E Tryz.f5.ntmps [1,1,1,1,1,0] [] (V.codeOf Tryz.f5) (Zv.kt x0)) (Zv.s13 y1 y2 y3 y4 v13_0 v13_15 v13_16)):=by kernel_rfl
theorem Zv.eq (x0:List Int):V.evBody Zv.E Zv.con Tryz.f5 ((x0):List Int)=Zv x0:=by
 rw[Zv.v]
 simp only[Zv.e13]
 rfl
theorem Zv.ok :V.Valid Tryz.prog 5 Zv.con:=
 V.fo (V.tab_cons ZG.ok (V.tab_cons Wv.ok (V.tab_cons YP.ok (V.tab_cons Xb.ok (V.tab_cons Xn.ok (V.tab_cons Wi.ok (V.tab_cons ZV.ok (V.tab_cons ZK.ok (V.tab_cons Zj.ok (V.tab_cons Zd.ok V.tab_nil)))))))))) Tryz.func5 (by kernel_rfl) (fun x y h=>(show V.evBody Zv.E Zv.con Tryz.f5 x=_ from Zv.eq x).trans (V.cfl (by kernel_rfl) h))
noncomputable abbrev YD.con :V.Con:=⟨(V.ci (V.ci (V.ci .nil))),(.cons .bool .nil),fun(x:Int×Int×Int)=>YD x.1 x.2.1 x.2.2,[],[(false,1),(false,1),(false,1)],[(false,1)],[false],[]⟩
noncomputable abbrev YD.E :V.Env:=V.mkE V.tys [] [] [] [] [] []
theorem YD.eq (x0:Int)(x1:Int)(x2:Int):V.evBody YD.E YD.con Tryz.f82 ((x0,x1,x2):Int×Int×Int)=YD x0 x1 x2:=by kernel_rfl
theorem YD.ok :V.Valid Tryz.prog 82 YD.con:=
 V.fo V.tab_nil Tryz.func82 (by kernel_rfl) (fun x y h=>(show V.evBody YD.E YD.con Tryz.f82 x=_ from YD.eq x.1 x.2.1 x.2.2).trans (V.cfl (by kernel_rfl) h))
noncomputable abbrev XW.con :V.Con:=⟨(V.ci .nil),(.cons .bool .nil),fun(x:Int)=>XW x,[],[(false,1)],[(false,1)],[false],[]⟩
noncomputable abbrev XW.E :V.Env:=V.mkE V.tys [(82,YD.con)] [] [] [] [] []
theorem XW.eq (x0:Int):V.evBody XW.E XW.con Tryz.f144 ((x0):Int)=XW x0:=by kernel_rfl
theorem XW.ok :V.Valid Tryz.prog 144 XW.con:=
 V.fo (V.tab_cons YD.ok V.tab_nil) Tryz.func144 (by kernel_rfl) (fun x y h=>(show V.evBody XW.E XW.con Tryz.f144 x=_ from XW.eq x).trans (V.cfl (by kernel_rfl) h))
end Go.Proofs.YtkadeffepgcceadGreat
