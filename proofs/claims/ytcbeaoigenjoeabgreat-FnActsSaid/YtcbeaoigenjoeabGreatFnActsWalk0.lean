/- That the functions compute it. -/
import Derived.Test.YtcbeaoigenjoeabGreatFnActsPure0
import Derived.Test.YtcbeaoigenjoeabGreatProg
namespace Go.Proofs.YtcbeaoigenjoeabGreat
set_option linter.unusedVariables false
set_option maxRecDepth 100000
namespace V
abbrev eEntry :ETy:=(.cons .str (V.ci (V.ci (.cons (.sl (.cons .str .nil)) .nil))))
abbrev eHead :ETy:=(V.ci (V.ci (V.ci (V.ci (V.ci (V.ci (V.ci (V.ci (.cons (.sl (V.ci .nil)) (V.ci (.cons (.sl (V.ci .nil)) (V.ci (V.ci (.cons (.sl (V.ci .nil)) (V.ci (.cons .bool .nil))))))))))))))))
abbrev eRHeadBool :ETy:=(V.ci (V.ci (V.ci (V.ci (V.ci (V.ci (V.ci (V.ci (.cons (.sl (V.ci .nil)) (V.ci (.cons (.sl (V.ci .nil)) (V.ci (V.ci (.cons (.sl (V.ci .nil)) (V.ci (.cons .bool (.cons .bool .nil)))))))))))))))))
abbrev eRHeadIntInt :ETy:=(V.ci (V.ci (V.ci (V.ci (V.ci (V.ci (V.ci (V.ci (.cons (.sl (V.ci .nil)) (V.ci (.cons (.sl (V.ci .nil)) (V.ci (V.ci (.cons (.sl (V.ci .nil)) (V.ci (.cons .bool (V.ci (V.ci .nil))))))))))))))))))
abbrev eRHeadKeysIntInt :ETy:=(V.ci (V.ci (V.ci (V.ci (V.ci (V.ci (V.ci (V.ci (.cons (.sl (V.ci .nil)) (V.ci (.cons (.sl (V.ci .nil)) (V.ci (V.ci (.cons (.sl (V.ci .nil)) (V.ci (.cons .bool (.cons (.sl (V.ci .nil)) (V.ci (V.ci (V.ci .nil))))))))))))))))))))
abbrev eRHeadKeysIntKeysIntInt :ETy:=(V.ci (V.ci (V.ci (V.ci (V.ci (V.ci (V.ci (V.ci (.cons (.sl (V.ci .nil)) (V.ci (.cons (.sl (V.ci .nil)) (V.ci (V.ci (.cons (.sl (V.ci .nil)) (V.ci (.cons .bool (.cons (.sl (V.ci .nil)) (V.ci (V.ci (.cons (.sl (V.ci .nil)) (V.ci (V.ci (V.ci .nil)))))))))))))))))))))))
abbrev eRHeadListIntInt :ETy:=(V.ci (V.ci (V.ci (V.ci (V.ci (V.ci (V.ci (V.ci (.cons (.sl (V.ci .nil)) (V.ci (.cons (.sl (V.ci .nil)) (V.ci (V.ci (.cons (.sl (V.ci .nil)) (V.ci (.cons .bool (.cons (.sl eEntry) (V.ci (V.ci .nil)))))))))))))))))))
abbrev eSigned :ETy:=(V.ci (V.ci (V.ci (V.ci (V.ci (V.ci (V.ci (V.ci (.cons (.sl (V.ci .nil)) (V.ci (.cons (.sl (V.ci .nil)) (V.ci (V.ci (.cons (.sl (V.ci .nil)) (V.ci (.cons .bool (.cons (.sl (V.ci (V.ci .nil))) .nil)))))))))))))))))
abbrev D0 :Type:=Int×Int×Int×Int×Int×Int×Int×Int×List Int×Int×List Int×Int×Int×List Int×Int×Bool
abbrev A0 :ETy:=eHead
abbrev fl0 (x0:Z0):D0:=(x0.1,x0.2.1,x0.2.2.1,x0.2.2.2.1,x0.2.2.2.2.1,x0.2.2.2.2.2.1,x0.2.2.2.2.2.2.1,x0.2.2.2.2.2.2.2.1,x0.2.2.2.2.2.2.2.2.1,x0.2.2.2.2.2.2.2.2.2.1,x0.2.2.2.2.2.2.2.2.2.2.1,x0.2.2.2.2.2.2.2.2.2.2.2.1,x0.2.2.2.2.2.2.2.2.2.2.2.2.1,x0.2.2.2.2.2.2.2.2.2.2.2.2.2.1,x0.2.2.2.2.2.2.2.2.2.2.2.2.2.2.1,x0.2.2.2.2.2.2.2.2.2.2.2.2.2.2.2)
abbrev p0_0 (x:D0):Z0:=x
abbrev D1 :Type:=List Int×List Int×Int×Int×Int×Int×Int×Int×Int×Int×Int×List Int×Int×List Int×Int×Int×List Int×Int×Bool
abbrev A1 :ETy:=(.cons (.sl (V.ci .nil)) (.cons (.sl (V.ci .nil)) (V.ci (V.ci (V.ci (V.ci (V.ci (V.ci (V.ci (V.ci (V.ci (.cons (.sl (V.ci .nil)) (V.ci (.cons (.sl (V.ci .nil)) (V.ci (V.ci (.cons (.sl (V.ci .nil)) (V.ci (.cons .bool .nil)))))))))))))))))))
abbrev fl1 (x0:List Int)(x1:Z5)(x2:Z0):D1:=(x0,x1.1,x1.2,x2.1,x2.2.1,x2.2.2.1,x2.2.2.2.1,x2.2.2.2.2.1,x2.2.2.2.2.2.1,x2.2.2.2.2.2.2.1,x2.2.2.2.2.2.2.2.1,x2.2.2.2.2.2.2.2.2.1,x2.2.2.2.2.2.2.2.2.2.1,x2.2.2.2.2.2.2.2.2.2.2.1,x2.2.2.2.2.2.2.2.2.2.2.2.1,x2.2.2.2.2.2.2.2.2.2.2.2.2.1,x2.2.2.2.2.2.2.2.2.2.2.2.2.2.1,x2.2.2.2.2.2.2.2.2.2.2.2.2.2.2.1,x2.2.2.2.2.2.2.2.2.2.2.2.2.2.2.2)
abbrev p1_0 (x:D1):List Int:=x.1
abbrev p1_1 (x:D1):Z5:=(x.2.1,x.2.2.1)
abbrev p1_2 (x:D1):Z0:=x.2.2.2
abbrev D2 :Type:=(Z3)×Int×Int×Int×Int×Int×Int×Int×Int×List Int×Int×List Int×Int×Int×List Int×Int×Bool
abbrev A2 :ETy:=(.cons (.ptr (.cons (.sl (.cons (.int .u8) .nil)) (V.ci (V.ci .nil)))) (V.ci (V.ci (V.ci (V.ci (V.ci (V.ci (V.ci (V.ci (.cons (.sl (V.ci .nil)) (V.ci (.cons (.sl (V.ci .nil)) (V.ci (V.ci (.cons (.sl (V.ci .nil)) (V.ci (.cons .bool .nil)))))))))))))))))
abbrev fl2 (x0:(Z3))(x1:Z0):D2:=(x0,x1.1,x1.2.1,x1.2.2.1,x1.2.2.2.1,x1.2.2.2.2.1,x1.2.2.2.2.2.1,x1.2.2.2.2.2.2.1,x1.2.2.2.2.2.2.2.1,x1.2.2.2.2.2.2.2.2.1,x1.2.2.2.2.2.2.2.2.2.1,x1.2.2.2.2.2.2.2.2.2.2.1,x1.2.2.2.2.2.2.2.2.2.2.2.1,x1.2.2.2.2.2.2.2.2.2.2.2.2.1,x1.2.2.2.2.2.2.2.2.2.2.2.2.2.1,x1.2.2.2.2.2.2.2.2.2.2.2.2.2.2.1,x1.2.2.2.2.2.2.2.2.2.2.2.2.2.2.2)
abbrev p2_0 (x:D2):(Z3):=x.1
abbrev p2_1 (x:D2):Z0:=x.2
abbrev D3 :Type:=Int×Int×Int×Int×Int×Int×Int×Int×List Int×Int×List Int×Int×Int×List Int×Int×Bool×List Zb
abbrev A3 :ETy:=eSigned
abbrev fl3 (x0:Z6):D3:=(x0.1,x0.2.1,x0.2.2.1,x0.2.2.2.1,x0.2.2.2.2.1,x0.2.2.2.2.2.1,x0.2.2.2.2.2.2.1,x0.2.2.2.2.2.2.2.1,x0.2.2.2.2.2.2.2.2.1,x0.2.2.2.2.2.2.2.2.2.1,x0.2.2.2.2.2.2.2.2.2.2.1,x0.2.2.2.2.2.2.2.2.2.2.2.1,x0.2.2.2.2.2.2.2.2.2.2.2.2.1,x0.2.2.2.2.2.2.2.2.2.2.2.2.2.1,x0.2.2.2.2.2.2.2.2.2.2.2.2.2.2.1,x0.2.2.2.2.2.2.2.2.2.2.2.2.2.2.2.1,x0.2.2.2.2.2.2.2.2.2.2.2.2.2.2.2.2)
abbrev p3_0 (x:D3):Z6:=x
abbrev D4 :Type:=Int×Int×Int×Int×Int×Int×Int×Int×List Int×Int×List Int×Int×Int×List Int×Int×Bool×Int×Int×Int×Int×Int×Int×Int×Int×List Int×Int×List Int×Int×Int×List Int×Int×Bool
abbrev A4 :ETy:=(V.ci (V.ci (V.ci (V.ci (V.ci (V.ci (V.ci (V.ci (.cons (.sl (V.ci .nil)) (V.ci (.cons (.sl (V.ci .nil)) (V.ci (V.ci (.cons (.sl (V.ci .nil)) (V.ci (.cons .bool (V.ci (V.ci (V.ci (V.ci (V.ci (V.ci (V.ci (V.ci (.cons (.sl (V.ci .nil)) (V.ci (.cons (.sl (V.ci .nil)) (V.ci (V.ci (.cons (.sl (V.ci .nil)) (V.ci (.cons .bool .nil))))))))))))))))))))))))))))))))
abbrev fl4 (x0:Z0)(x1:Z0):D4:=(x0.1,x0.2.1,x0.2.2.1,x0.2.2.2.1,x0.2.2.2.2.1,x0.2.2.2.2.2.1,x0.2.2.2.2.2.2.1,x0.2.2.2.2.2.2.2.1,x0.2.2.2.2.2.2.2.2.1,x0.2.2.2.2.2.2.2.2.2.1,x0.2.2.2.2.2.2.2.2.2.2.1,x0.2.2.2.2.2.2.2.2.2.2.2.1,x0.2.2.2.2.2.2.2.2.2.2.2.2.1,x0.2.2.2.2.2.2.2.2.2.2.2.2.2.1,x0.2.2.2.2.2.2.2.2.2.2.2.2.2.2.1,x0.2.2.2.2.2.2.2.2.2.2.2.2.2.2.2,x1.1,x1.2.1,x1.2.2.1,x1.2.2.2.1,x1.2.2.2.2.1,x1.2.2.2.2.2.1,x1.2.2.2.2.2.2.1,x1.2.2.2.2.2.2.2.1,x1.2.2.2.2.2.2.2.2.1,x1.2.2.2.2.2.2.2.2.2.1,x1.2.2.2.2.2.2.2.2.2.2.1,x1.2.2.2.2.2.2.2.2.2.2.2.1,x1.2.2.2.2.2.2.2.2.2.2.2.2.1,x1.2.2.2.2.2.2.2.2.2.2.2.2.2.1,x1.2.2.2.2.2.2.2.2.2.2.2.2.2.2.1,x1.2.2.2.2.2.2.2.2.2.2.2.2.2.2.2)
abbrev p4_0 (x:D4):Z0:=(x.1,x.2.1,x.2.2.1,x.2.2.2.1,x.2.2.2.2.1,x.2.2.2.2.2.1,x.2.2.2.2.2.2.1,x.2.2.2.2.2.2.2.1,x.2.2.2.2.2.2.2.2.1,x.2.2.2.2.2.2.2.2.2.1,x.2.2.2.2.2.2.2.2.2.2.1,x.2.2.2.2.2.2.2.2.2.2.2.1,x.2.2.2.2.2.2.2.2.2.2.2.2.1,x.2.2.2.2.2.2.2.2.2.2.2.2.2.1,x.2.2.2.2.2.2.2.2.2.2.2.2.2.2.1,x.2.2.2.2.2.2.2.2.2.2.2.2.2.2.2.1)
abbrev p4_1 (x:D4):Z0:=x.2.2.2.2.2.2.2.2.2.2.2.2.2.2.2.2
abbrev D5 :Type:=Int×Int×Int×Int×Int×Int×Int×Int×List Int×Int×List Int×Int×Int×List Int×Int×Bool×Int×Int×Int×Int×Int×Int×Int×Int×List Int×Int×List Int×Int×Int×List Int×Int×Bool×List Zb
abbrev A5 :ETy:=(V.ci (V.ci (V.ci (V.ci (V.ci (V.ci (V.ci (V.ci (.cons (.sl (V.ci .nil)) (V.ci (.cons (.sl (V.ci .nil)) (V.ci (V.ci (.cons (.sl (V.ci .nil)) (V.ci (.cons .bool (V.ci (V.ci (V.ci (V.ci (V.ci (V.ci (V.ci (V.ci (.cons (.sl (V.ci .nil)) (V.ci (.cons (.sl (V.ci .nil)) (V.ci (V.ci (.cons (.sl (V.ci .nil)) (V.ci (.cons .bool (.cons (.sl (V.ci (V.ci .nil))) .nil)))))))))))))))))))))))))))))))))
abbrev fl5 (x0:Z0)(x1:Z6):D5:=(x0.1,x0.2.1,x0.2.2.1,x0.2.2.2.1,x0.2.2.2.2.1,x0.2.2.2.2.2.1,x0.2.2.2.2.2.2.1,x0.2.2.2.2.2.2.2.1,x0.2.2.2.2.2.2.2.2.1,x0.2.2.2.2.2.2.2.2.2.1,x0.2.2.2.2.2.2.2.2.2.2.1,x0.2.2.2.2.2.2.2.2.2.2.2.1,x0.2.2.2.2.2.2.2.2.2.2.2.2.1,x0.2.2.2.2.2.2.2.2.2.2.2.2.2.1,x0.2.2.2.2.2.2.2.2.2.2.2.2.2.2.1,x0.2.2.2.2.2.2.2.2.2.2.2.2.2.2.2,x1.1,x1.2.1,x1.2.2.1,x1.2.2.2.1,x1.2.2.2.2.1,x1.2.2.2.2.2.1,x1.2.2.2.2.2.2.1,x1.2.2.2.2.2.2.2.1,x1.2.2.2.2.2.2.2.2.1,x1.2.2.2.2.2.2.2.2.2.1,x1.2.2.2.2.2.2.2.2.2.2.1,x1.2.2.2.2.2.2.2.2.2.2.2.1,x1.2.2.2.2.2.2.2.2.2.2.2.2.1,x1.2.2.2.2.2.2.2.2.2.2.2.2.2.1,x1.2.2.2.2.2.2.2.2.2.2.2.2.2.2.1,x1.2.2.2.2.2.2.2.2.2.2.2.2.2.2.2.1,x1.2.2.2.2.2.2.2.2.2.2.2.2.2.2.2.2)
abbrev p5_0 (x:D5):Z0:=(x.1,x.2.1,x.2.2.1,x.2.2.2.1,x.2.2.2.2.1,x.2.2.2.2.2.1,x.2.2.2.2.2.2.1,x.2.2.2.2.2.2.2.1,x.2.2.2.2.2.2.2.2.1,x.2.2.2.2.2.2.2.2.2.1,x.2.2.2.2.2.2.2.2.2.2.1,x.2.2.2.2.2.2.2.2.2.2.2.1,x.2.2.2.2.2.2.2.2.2.2.2.2.1,x.2.2.2.2.2.2.2.2.2.2.2.2.2.1,x.2.2.2.2.2.2.2.2.2.2.2.2.2.2.1,x.2.2.2.2.2.2.2.2.2.2.2.2.2.2.2.1)
abbrev p5_1 (x:D5):Z6:=x.2.2.2.2.2.2.2.2.2.2.2.2.2.2.2.2
abbrev D6 :Type:=List Z6×Int×Int×Int×Int×Int×Int×Int×Int×List Int×Int×List Int×Int×Int×List Int×Int×Bool×List Zb
abbrev A6 :ETy:=(.cons (.sl eSigned) (V.ci (V.ci (V.ci (V.ci (V.ci (V.ci (V.ci (V.ci (.cons (.sl (V.ci .nil)) (V.ci (.cons (.sl (V.ci .nil)) (V.ci (V.ci (.cons (.sl (V.ci .nil)) (V.ci (.cons .bool (.cons (.sl (V.ci (V.ci .nil))) .nil))))))))))))))))))
abbrev fl6 (x0:List Z6)(x1:Z6):D6:=(x0,x1.1,x1.2.1,x1.2.2.1,x1.2.2.2.1,x1.2.2.2.2.1,x1.2.2.2.2.2.1,x1.2.2.2.2.2.2.1,x1.2.2.2.2.2.2.2.1,x1.2.2.2.2.2.2.2.2.1,x1.2.2.2.2.2.2.2.2.2.1,x1.2.2.2.2.2.2.2.2.2.2.1,x1.2.2.2.2.2.2.2.2.2.2.2.1,x1.2.2.2.2.2.2.2.2.2.2.2.2.1,x1.2.2.2.2.2.2.2.2.2.2.2.2.2.1,x1.2.2.2.2.2.2.2.2.2.2.2.2.2.2.1,x1.2.2.2.2.2.2.2.2.2.2.2.2.2.2.2.1,x1.2.2.2.2.2.2.2.2.2.2.2.2.2.2.2.2)
abbrev p6_0 (x:D6):List Z6:=x.1
abbrev p6_1 (x:D6):Z6:=x.2
abbrev D7 :Type:=Int×Int×Int×Int×Int×Int×Int×Int×List Int×Int×List Int×Int×Int×List Int×Int×Bool×List Z4×Int×Int
abbrev A7 :ETy:=eRHeadListIntInt
abbrev fl7 (x0:Z0)(x1:List Z4)(x2:Int)(x3:Int):D7:=(x0.1,x0.2.1,x0.2.2.1,x0.2.2.2.1,x0.2.2.2.2.1,x0.2.2.2.2.2.1,x0.2.2.2.2.2.2.1,x0.2.2.2.2.2.2.2.1,x0.2.2.2.2.2.2.2.2.1,x0.2.2.2.2.2.2.2.2.2.1,x0.2.2.2.2.2.2.2.2.2.2.1,x0.2.2.2.2.2.2.2.2.2.2.2.1,x0.2.2.2.2.2.2.2.2.2.2.2.2.1,x0.2.2.2.2.2.2.2.2.2.2.2.2.2.1,x0.2.2.2.2.2.2.2.2.2.2.2.2.2.2.1,x0.2.2.2.2.2.2.2.2.2.2.2.2.2.2.2,x1,x2,x3)
abbrev p7_0 (x:D7):Z0:=(x.1,x.2.1,x.2.2.1,x.2.2.2.1,x.2.2.2.2.1,x.2.2.2.2.2.1,x.2.2.2.2.2.2.1,x.2.2.2.2.2.2.2.1,x.2.2.2.2.2.2.2.2.1,x.2.2.2.2.2.2.2.2.2.1,x.2.2.2.2.2.2.2.2.2.2.1,x.2.2.2.2.2.2.2.2.2.2.2.1,x.2.2.2.2.2.2.2.2.2.2.2.2.1,x.2.2.2.2.2.2.2.2.2.2.2.2.2.1,x.2.2.2.2.2.2.2.2.2.2.2.2.2.2.1,x.2.2.2.2.2.2.2.2.2.2.2.2.2.2.2.1)
abbrev p7_1 (x:D7):List Z4:=x.2.2.2.2.2.2.2.2.2.2.2.2.2.2.2.2.1
abbrev p7_2 (x:D7):Int:=x.2.2.2.2.2.2.2.2.2.2.2.2.2.2.2.2.2.1
abbrev p7_3 (x:D7):Int:=x.2.2.2.2.2.2.2.2.2.2.2.2.2.2.2.2.2.2
abbrev D8 :Type:=Int×Int×Int×Int×Int×Int×Int×Int×List Int×Int×List Int×Int×Int×List Int×Int×Bool×Int×Int×Int×Int×Int×Int×Int×Int×List Int×Int×List Int×Int×Int×List Int×Int×Bool×List Int
abbrev A8 :ETy:=(V.ci (V.ci (V.ci (V.ci (V.ci (V.ci (V.ci (V.ci (.cons (.sl (V.ci .nil)) (V.ci (.cons (.sl (V.ci .nil)) (V.ci (V.ci (.cons (.sl (V.ci .nil)) (V.ci (.cons .bool (V.ci (V.ci (V.ci (V.ci (V.ci (V.ci (V.ci (V.ci (.cons (.sl (V.ci .nil)) (V.ci (.cons (.sl (V.ci .nil)) (V.ci (V.ci (.cons (.sl (V.ci .nil)) (V.ci (.cons .bool (.cons (.sl (V.ci .nil)) .nil)))))))))))))))))))))))))))))))))
abbrev fl8 (x0:Z0)(x1:Z0)(x2:List Int):D8:=(x0.1,x0.2.1,x0.2.2.1,x0.2.2.2.1,x0.2.2.2.2.1,x0.2.2.2.2.2.1,x0.2.2.2.2.2.2.1,x0.2.2.2.2.2.2.2.1,x0.2.2.2.2.2.2.2.2.1,x0.2.2.2.2.2.2.2.2.2.1,x0.2.2.2.2.2.2.2.2.2.2.1,x0.2.2.2.2.2.2.2.2.2.2.2.1,x0.2.2.2.2.2.2.2.2.2.2.2.2.1,x0.2.2.2.2.2.2.2.2.2.2.2.2.2.1,x0.2.2.2.2.2.2.2.2.2.2.2.2.2.2.1,x0.2.2.2.2.2.2.2.2.2.2.2.2.2.2.2,x1.1,x1.2.1,x1.2.2.1,x1.2.2.2.1,x1.2.2.2.2.1,x1.2.2.2.2.2.1,x1.2.2.2.2.2.2.1,x1.2.2.2.2.2.2.2.1,x1.2.2.2.2.2.2.2.2.1,x1.2.2.2.2.2.2.2.2.2.1,x1.2.2.2.2.2.2.2.2.2.2.1,x1.2.2.2.2.2.2.2.2.2.2.2.1,x1.2.2.2.2.2.2.2.2.2.2.2.2.1,x1.2.2.2.2.2.2.2.2.2.2.2.2.2.1,x1.2.2.2.2.2.2.2.2.2.2.2.2.2.2.1,x1.2.2.2.2.2.2.2.2.2.2.2.2.2.2.2,x2)
abbrev p8_0 (x:D8):Z0:=(x.1,x.2.1,x.2.2.1,x.2.2.2.1,x.2.2.2.2.1,x.2.2.2.2.2.1,x.2.2.2.2.2.2.1,x.2.2.2.2.2.2.2.1,x.2.2.2.2.2.2.2.2.1,x.2.2.2.2.2.2.2.2.2.1,x.2.2.2.2.2.2.2.2.2.2.1,x.2.2.2.2.2.2.2.2.2.2.2.1,x.2.2.2.2.2.2.2.2.2.2.2.2.1,x.2.2.2.2.2.2.2.2.2.2.2.2.2.1,x.2.2.2.2.2.2.2.2.2.2.2.2.2.2.1,x.2.2.2.2.2.2.2.2.2.2.2.2.2.2.2.1)
abbrev p8_1 (x:D8):Z0:=(x.2.2.2.2.2.2.2.2.2.2.2.2.2.2.2.2.1,x.2.2.2.2.2.2.2.2.2.2.2.2.2.2.2.2.2.1,x.2.2.2.2.2.2.2.2.2.2.2.2.2.2.2.2.2.2.1,x.2.2.2.2.2.2.2.2.2.2.2.2.2.2.2.2.2.2.2.1,x.2.2.2.2.2.2.2.2.2.2.2.2.2.2.2.2.2.2.2.2.1,x.2.2.2.2.2.2.2.2.2.2.2.2.2.2.2.2.2.2.2.2.2.1,x.2.2.2.2.2.2.2.2.2.2.2.2.2.2.2.2.2.2.2.2.2.2.1,x.2.2.2.2.2.2.2.2.2.2.2.2.2.2.2.2.2.2.2.2.2.2.2.1,x.2.2.2.2.2.2.2.2.2.2.2.2.2.2.2.2.2.2.2.2.2.2.2.2.1,x.2.2.2.2.2.2.2.2.2.2.2.2.2.2.2.2.2.2.2.2.2.2.2.2.2.1,x.2.2.2.2.2.2.2.2.2.2.2.2.2.2.2.2.2.2.2.2.2.2.2.2.2.2.1,x.2.2.2.2.2.2.2.2.2.2.2.2.2.2.2.2.2.2.2.2.2.2.2.2.2.2.2.1,x.2.2.2.2.2.2.2.2.2.2.2.2.2.2.2.2.2.2.2.2.2.2.2.2.2.2.2.2.1,x.2.2.2.2.2.2.2.2.2.2.2.2.2.2.2.2.2.2.2.2.2.2.2.2.2.2.2.2.2.1,x.2.2.2.2.2.2.2.2.2.2.2.2.2.2.2.2.2.2.2.2.2.2.2.2.2.2.2.2.2.2.1,x.2.2.2.2.2.2.2.2.2.2.2.2.2.2.2.2.2.2.2.2.2.2.2.2.2.2.2.2.2.2.2.1)
abbrev p8_2 (x:D8):List Int:=x.2.2.2.2.2.2.2.2.2.2.2.2.2.2.2.2.2.2.2.2.2.2.2.2.2.2.2.2.2.2.2.2
abbrev D9 :Type:=Int×Int×Int×Int×Int×Int×Int×Int×List Int×Int×List Int×Int×Int×List Int×Int×Bool×List Zb×List Int×Int
abbrev A9 :ETy:=(V.ci (V.ci (V.ci (V.ci (V.ci (V.ci (V.ci (V.ci (.cons (.sl (V.ci .nil)) (V.ci (.cons (.sl (V.ci .nil)) (V.ci (V.ci (.cons (.sl (V.ci .nil)) (V.ci (.cons .bool (.cons (.sl (V.ci (V.ci .nil))) (.cons (.sl (V.ci .nil)) (V.ci .nil)))))))))))))))))))
abbrev fl9 (x0:Z6)(x1:Z5):D9:=(x0.1,x0.2.1,x0.2.2.1,x0.2.2.2.1,x0.2.2.2.2.1,x0.2.2.2.2.2.1,x0.2.2.2.2.2.2.1,x0.2.2.2.2.2.2.2.1,x0.2.2.2.2.2.2.2.2.1,x0.2.2.2.2.2.2.2.2.2.1,x0.2.2.2.2.2.2.2.2.2.2.1,x0.2.2.2.2.2.2.2.2.2.2.2.1,x0.2.2.2.2.2.2.2.2.2.2.2.2.1,x0.2.2.2.2.2.2.2.2.2.2.2.2.2.1,x0.2.2.2.2.2.2.2.2.2.2.2.2.2.2.1,x0.2.2.2.2.2.2.2.2.2.2.2.2.2.2.2.1,x0.2.2.2.2.2.2.2.2.2.2.2.2.2.2.2.2,x1.1,x1.2)
abbrev p9_0 (x:D9):Z6:=(x.1,x.2.1,x.2.2.1,x.2.2.2.1,x.2.2.2.2.1,x.2.2.2.2.2.1,x.2.2.2.2.2.2.1,x.2.2.2.2.2.2.2.1,x.2.2.2.2.2.2.2.2.1,x.2.2.2.2.2.2.2.2.2.1,x.2.2.2.2.2.2.2.2.2.2.1,x.2.2.2.2.2.2.2.2.2.2.2.1,x.2.2.2.2.2.2.2.2.2.2.2.2.1,x.2.2.2.2.2.2.2.2.2.2.2.2.2.1,x.2.2.2.2.2.2.2.2.2.2.2.2.2.2.1,x.2.2.2.2.2.2.2.2.2.2.2.2.2.2.2.1,x.2.2.2.2.2.2.2.2.2.2.2.2.2.2.2.2.1)
abbrev p9_1 (x:D9):Z5:=x.2.2.2.2.2.2.2.2.2.2.2.2.2.2.2.2.2
abbrev D10 :Type:=Int×Int×Int×Int×Int×Int×Int×Int×List Int×Int×List Int×Int×Int×List Int×Int×Bool×List Int×Int×Int×Int
abbrev A10 :ETy:=eRHeadKeysIntInt
abbrev fl10 (x0:Z0)(x1:Z5)(x2:Int)(x3:Int):D10:=(x0.1,x0.2.1,x0.2.2.1,x0.2.2.2.1,x0.2.2.2.2.1,x0.2.2.2.2.2.1,x0.2.2.2.2.2.2.1,x0.2.2.2.2.2.2.2.1,x0.2.2.2.2.2.2.2.2.1,x0.2.2.2.2.2.2.2.2.2.1,x0.2.2.2.2.2.2.2.2.2.2.1,x0.2.2.2.2.2.2.2.2.2.2.2.1,x0.2.2.2.2.2.2.2.2.2.2.2.2.1,x0.2.2.2.2.2.2.2.2.2.2.2.2.2.1,x0.2.2.2.2.2.2.2.2.2.2.2.2.2.2.1,x0.2.2.2.2.2.2.2.2.2.2.2.2.2.2.2,x1.1,x1.2,x2,x3)
abbrev p10_0 (x:D10):Z0:=(x.1,x.2.1,x.2.2.1,x.2.2.2.1,x.2.2.2.2.1,x.2.2.2.2.2.1,x.2.2.2.2.2.2.1,x.2.2.2.2.2.2.2.1,x.2.2.2.2.2.2.2.2.1,x.2.2.2.2.2.2.2.2.2.1,x.2.2.2.2.2.2.2.2.2.2.1,x.2.2.2.2.2.2.2.2.2.2.2.1,x.2.2.2.2.2.2.2.2.2.2.2.2.1,x.2.2.2.2.2.2.2.2.2.2.2.2.2.1,x.2.2.2.2.2.2.2.2.2.2.2.2.2.2.1,x.2.2.2.2.2.2.2.2.2.2.2.2.2.2.2.1)
abbrev p10_1 (x:D10):Z5:=(x.2.2.2.2.2.2.2.2.2.2.2.2.2.2.2.2.1,x.2.2.2.2.2.2.2.2.2.2.2.2.2.2.2.2.2.1)
abbrev p10_2 (x:D10):Int:=x.2.2.2.2.2.2.2.2.2.2.2.2.2.2.2.2.2.2.1
abbrev p10_3 (x:D10):Int:=x.2.2.2.2.2.2.2.2.2.2.2.2.2.2.2.2.2.2.2
abbrev D11 :Type:=Int×Int×Int×Int×Int×Int×Int×Int×List Int×Int×List Int×Int×Int×List Int×Int×Bool×Int
abbrev A11 :ETy:=(V.ci (V.ci (V.ci (V.ci (V.ci (V.ci (V.ci (V.ci (.cons (.sl (V.ci .nil)) (V.ci (.cons (.sl (V.ci .nil)) (V.ci (V.ci (.cons (.sl (V.ci .nil)) (V.ci (.cons .bool (V.ci .nil)))))))))))))))))
abbrev fl11 (x0:Z0)(x1:Int):D11:=(x0.1,x0.2.1,x0.2.2.1,x0.2.2.2.1,x0.2.2.2.2.1,x0.2.2.2.2.2.1,x0.2.2.2.2.2.2.1,x0.2.2.2.2.2.2.2.1,x0.2.2.2.2.2.2.2.2.1,x0.2.2.2.2.2.2.2.2.2.1,x0.2.2.2.2.2.2.2.2.2.2.1,x0.2.2.2.2.2.2.2.2.2.2.2.1,x0.2.2.2.2.2.2.2.2.2.2.2.2.1,x0.2.2.2.2.2.2.2.2.2.2.2.2.2.1,x0.2.2.2.2.2.2.2.2.2.2.2.2.2.2.1,x0.2.2.2.2.2.2.2.2.2.2.2.2.2.2.2,x1)
abbrev p11_0 (x:D11):Z0:=(x.1,x.2.1,x.2.2.1,x.2.2.2.1,x.2.2.2.2.1,x.2.2.2.2.2.1,x.2.2.2.2.2.2.1,x.2.2.2.2.2.2.2.1,x.2.2.2.2.2.2.2.2.1,x.2.2.2.2.2.2.2.2.2.1,x.2.2.2.2.2.2.2.2.2.2.1,x.2.2.2.2.2.2.2.2.2.2.2.1,x.2.2.2.2.2.2.2.2.2.2.2.2.1,x.2.2.2.2.2.2.2.2.2.2.2.2.2.1,x.2.2.2.2.2.2.2.2.2.2.2.2.2.2.1,x.2.2.2.2.2.2.2.2.2.2.2.2.2.2.2.1)
abbrev p11_1 (x:D11):Int:=x.2.2.2.2.2.2.2.2.2.2.2.2.2.2.2.2
abbrev D12 :Type:=Int×Int×Int×Int×Int×Int×Int×Int×List Int×Int×List Int×Int×Int×List Int×Int×Bool×Int×Int
abbrev A12 :ETy:=eRHeadIntInt
abbrev fl12 (x0:Z0)(x1:Int)(x2:Int):D12:=(x0.1,x0.2.1,x0.2.2.1,x0.2.2.2.1,x0.2.2.2.2.1,x0.2.2.2.2.2.1,x0.2.2.2.2.2.2.1,x0.2.2.2.2.2.2.2.1,x0.2.2.2.2.2.2.2.2.1,x0.2.2.2.2.2.2.2.2.2.1,x0.2.2.2.2.2.2.2.2.2.2.1,x0.2.2.2.2.2.2.2.2.2.2.2.1,x0.2.2.2.2.2.2.2.2.2.2.2.2.1,x0.2.2.2.2.2.2.2.2.2.2.2.2.2.1,x0.2.2.2.2.2.2.2.2.2.2.2.2.2.2.1,x0.2.2.2.2.2.2.2.2.2.2.2.2.2.2.2,x1,x2)
abbrev p12_0 (x:D12):Z0:=(x.1,x.2.1,x.2.2.1,x.2.2.2.1,x.2.2.2.2.1,x.2.2.2.2.2.1,x.2.2.2.2.2.2.1,x.2.2.2.2.2.2.2.1,x.2.2.2.2.2.2.2.2.1,x.2.2.2.2.2.2.2.2.2.1,x.2.2.2.2.2.2.2.2.2.2.1,x.2.2.2.2.2.2.2.2.2.2.2.1,x.2.2.2.2.2.2.2.2.2.2.2.2.1,x.2.2.2.2.2.2.2.2.2.2.2.2.2.1,x.2.2.2.2.2.2.2.2.2.2.2.2.2.2.1,x.2.2.2.2.2.2.2.2.2.2.2.2.2.2.2.1)
abbrev p12_1 (x:D12):Int:=x.2.2.2.2.2.2.2.2.2.2.2.2.2.2.2.2.1
abbrev p12_2 (x:D12):Int:=x.2.2.2.2.2.2.2.2.2.2.2.2.2.2.2.2.2
abbrev D13 :Type:=Int×Int×Int×Int×Int×Int×Int×Int×List Int×Int×List Int×Int×Int×List Int×Int×Bool×List Int×Int×Int×List Int×Int×Int×Int
abbrev A13 :ETy:=eRHeadKeysIntKeysIntInt
abbrev fl13 (x0:Z0)(x1:Z5)(x2:Int)(x3:Z5)(x4:Int)(x5:Int):D13:=(x0.1,x0.2.1,x0.2.2.1,x0.2.2.2.1,x0.2.2.2.2.1,x0.2.2.2.2.2.1,x0.2.2.2.2.2.2.1,x0.2.2.2.2.2.2.2.1,x0.2.2.2.2.2.2.2.2.1,x0.2.2.2.2.2.2.2.2.2.1,x0.2.2.2.2.2.2.2.2.2.2.1,x0.2.2.2.2.2.2.2.2.2.2.2.1,x0.2.2.2.2.2.2.2.2.2.2.2.2.1,x0.2.2.2.2.2.2.2.2.2.2.2.2.2.1,x0.2.2.2.2.2.2.2.2.2.2.2.2.2.2.1,x0.2.2.2.2.2.2.2.2.2.2.2.2.2.2.2,x1.1,x1.2,x2,x3.1,x3.2,x4,x5)
abbrev p13_0 (x:D13):Z0:=(x.1,x.2.1,x.2.2.1,x.2.2.2.1,x.2.2.2.2.1,x.2.2.2.2.2.1,x.2.2.2.2.2.2.1,x.2.2.2.2.2.2.2.1,x.2.2.2.2.2.2.2.2.1,x.2.2.2.2.2.2.2.2.2.1,x.2.2.2.2.2.2.2.2.2.2.1,x.2.2.2.2.2.2.2.2.2.2.2.1,x.2.2.2.2.2.2.2.2.2.2.2.2.1,x.2.2.2.2.2.2.2.2.2.2.2.2.2.1,x.2.2.2.2.2.2.2.2.2.2.2.2.2.2.1,x.2.2.2.2.2.2.2.2.2.2.2.2.2.2.2.1)
abbrev p13_1 (x:D13):Z5:=(x.2.2.2.2.2.2.2.2.2.2.2.2.2.2.2.2.1,x.2.2.2.2.2.2.2.2.2.2.2.2.2.2.2.2.2.1)
abbrev p13_2 (x:D13):Int:=x.2.2.2.2.2.2.2.2.2.2.2.2.2.2.2.2.2.2.1
abbrev p13_3 (x:D13):Z5:=(x.2.2.2.2.2.2.2.2.2.2.2.2.2.2.2.2.2.2.2.1,x.2.2.2.2.2.2.2.2.2.2.2.2.2.2.2.2.2.2.2.2.1)
abbrev p13_4 (x:D13):Int:=x.2.2.2.2.2.2.2.2.2.2.2.2.2.2.2.2.2.2.2.2.2.1
abbrev p13_5 (x:D13):Int:=x.2.2.2.2.2.2.2.2.2.2.2.2.2.2.2.2.2.2.2.2.2.2
abbrev D14 :Type:=Int×Int×Int×Int×Int×Int×Int×Int×List Int×Int×List Int×Int×Int×List Int×Int×Bool×Int×Int×Int
abbrev A14 :ETy:=(V.ci (V.ci (V.ci (V.ci (V.ci (V.ci (V.ci (V.ci (.cons (.sl (V.ci .nil)) (V.ci (.cons (.sl (V.ci .nil)) (V.ci (V.ci (.cons (.sl (V.ci .nil)) (V.ci (.cons .bool (V.ci (V.ci (V.ci .nil)))))))))))))))))))
abbrev fl14 (x0:Z0)(x1:Int)(x2:Int)(x3:Int):D14:=(x0.1,x0.2.1,x0.2.2.1,x0.2.2.2.1,x0.2.2.2.2.1,x0.2.2.2.2.2.1,x0.2.2.2.2.2.2.1,x0.2.2.2.2.2.2.2.1,x0.2.2.2.2.2.2.2.2.1,x0.2.2.2.2.2.2.2.2.2.1,x0.2.2.2.2.2.2.2.2.2.2.1,x0.2.2.2.2.2.2.2.2.2.2.2.1,x0.2.2.2.2.2.2.2.2.2.2.2.2.1,x0.2.2.2.2.2.2.2.2.2.2.2.2.2.1,x0.2.2.2.2.2.2.2.2.2.2.2.2.2.2.1,x0.2.2.2.2.2.2.2.2.2.2.2.2.2.2.2,x1,x2,x3)
abbrev p14_0 (x:D14):Z0:=(x.1,x.2.1,x.2.2.1,x.2.2.2.1,x.2.2.2.2.1,x.2.2.2.2.2.1,x.2.2.2.2.2.2.1,x.2.2.2.2.2.2.2.1,x.2.2.2.2.2.2.2.2.1,x.2.2.2.2.2.2.2.2.2.1,x.2.2.2.2.2.2.2.2.2.2.1,x.2.2.2.2.2.2.2.2.2.2.2.1,x.2.2.2.2.2.2.2.2.2.2.2.2.1,x.2.2.2.2.2.2.2.2.2.2.2.2.2.1,x.2.2.2.2.2.2.2.2.2.2.2.2.2.2.1,x.2.2.2.2.2.2.2.2.2.2.2.2.2.2.2.1)
abbrev p14_1 (x:D14):Int:=x.2.2.2.2.2.2.2.2.2.2.2.2.2.2.2.2.1
abbrev p14_2 (x:D14):Int:=x.2.2.2.2.2.2.2.2.2.2.2.2.2.2.2.2.2.1
abbrev p14_3 (x:D14):Int:=x.2.2.2.2.2.2.2.2.2.2.2.2.2.2.2.2.2.2
noncomputable abbrev lsHead (x:Z0):List Lf:=[.vi (x.1), .vi (x.2.1), .vi (x.2.2.1), .vi (x.2.2.2.1), .vi (x.2.2.2.2.1), .vi (x.2.2.2.2.2.1), .vi (x.2.2.2.2.2.2.1), .vi (x.2.2.2.2.2.2.2.1), .val (.sl (V.ci .nil) x.2.2.2.2.2.2.2.2.1), .vi (x.2.2.2.2.2.2.2.2.2.1), .val (.sl (V.ci .nil) x.2.2.2.2.2.2.2.2.2.2.1), .vi (x.2.2.2.2.2.2.2.2.2.2.2.1), .vi (x.2.2.2.2.2.2.2.2.2.2.2.2.1), .val (.sl (V.ci .nil) x.2.2.2.2.2.2.2.2.2.2.2.2.2.1), .vi (x.2.2.2.2.2.2.2.2.2.2.2.2.2.2.1), .val (.bool x.2.2.2.2.2.2.2.2.2.2.2.2.2.2.2)]
noncomputable abbrev lsSigned (x:Z6):List Lf:=[.vi (x.1), .vi (x.2.1), .vi (x.2.2.1), .vi (x.2.2.2.1), .vi (x.2.2.2.2.1), .vi (x.2.2.2.2.2.1), .vi (x.2.2.2.2.2.2.1), .vi (x.2.2.2.2.2.2.2.1), .val (.sl (V.ci .nil) x.2.2.2.2.2.2.2.2.1), .vi (x.2.2.2.2.2.2.2.2.2.1), .val (.sl (V.ci .nil) x.2.2.2.2.2.2.2.2.2.2.1), .vi (x.2.2.2.2.2.2.2.2.2.2.2.1), .vi (x.2.2.2.2.2.2.2.2.2.2.2.2.1), .val (.sl (V.ci .nil) x.2.2.2.2.2.2.2.2.2.2.2.2.2.1), .vi (x.2.2.2.2.2.2.2.2.2.2.2.2.2.2.1), .val (.bool x.2.2.2.2.2.2.2.2.2.2.2.2.2.2.2.1), .val (.sl (V.ci (V.ci .nil)) x.2.2.2.2.2.2.2.2.2.2.2.2.2.2.2.2)]
abbrev tys :List (Nat×TI):=[(3,⟨.int .i64,false,[.vi ((0:Int))],8,[],(V.ci .nil)⟩),
 (4,⟨.bool,false,[.val (.bool false)],1,[],(.cons .bool .nil)⟩),
 (5,⟨.int .u8,false,[.val (.int .u8 (0:Int))],1,[],(.cons (.int .u8) .nil)⟩),
 (9,⟨.str,false,[.val (.str (⟨#[]⟩:ByteArray))],16,[],(.cons .str .nil)⟩),
 (22,⟨.sl 5,false,[.nil0],24,[],(.cons (.sl (.cons (.int .u8) .nil)) .nil)⟩),
 (24,⟨.sl 3,false,[.nil0],24,[],(.cons (.sl (V.ci .nil)) .nil)⟩),
 (27,⟨.st,false,[.nil0, .vi ((0:Int))],32,[(0,1,false),(1,1,false)],(.cons (.sl (V.ci .nil)) (V.ci .nil))⟩),
 (29,⟨.st,false,[.vi ((0:Int)), .vi ((0:Int)), .vi ((0:Int)), .vi ((0:Int)), .vi ((0:Int)), .vi ((0:Int)), .vi ((0:Int)), .vi ((0:Int)), .nil0, .vi ((0:Int)), .nil0, .vi ((0:Int)), .vi ((0:Int)), .nil0, .vi ((0:Int)), .val (.bool false)],176,[(0,1,false),(1,1,false),(2,1,false),(3,1,false),(4,1,false),(5,1,false),(6,1,false),(7,1,false),(8,2,true),(10,2,true),(12,1,false),(13,2,true),(15,1,false)],V.eHead⟩),
 (30,⟨.sl 79,false,[.nil0],24,[],(.cons (.sl V.eEntry) .nil)⟩),
 (36,⟨.sl 115,false,[.nil0],24,[],(.cons (.sl (V.ci (V.ci .nil))) .nil)⟩),
 (38,⟨.st,false,[.vi ((0:Int)), .vi ((0:Int)), .vi ((0:Int)), .vi ((0:Int)), .vi ((0:Int)), .vi ((0:Int)), .vi ((0:Int)), .vi ((0:Int)), .nil0, .vi ((0:Int)), .nil0, .vi ((0:Int)), .vi ((0:Int)), .nil0, .vi ((0:Int)), .val (.bool false), .nil0],200,[(0,16,true),(16,1,false)],V.eSigned⟩),
 (74,⟨.st,false,[.nil0, .vi ((0:Int)), .vi ((0:Int))],40,[(0,1,false),(1,1,false),(2,1,false)],(.cons (.sl (.cons (.int .u8) .nil)) (V.ci (V.ci .nil)))⟩),
 (75,⟨.sl 38,false,[.nil0],24,[],(.cons (.sl V.eSigned) .nil)⟩),
 (77,⟨.sl 9,false,[.nil0],24,[],(.cons (.sl (.cons .str .nil)) .nil)⟩),
 (79,⟨.st,false,[.val (.str (⟨#[]⟩:ByteArray)), .vi ((0:Int)), .vi ((0:Int)), .nil0],56,[(0,1,false),(1,1,false),(2,1,false),(3,1,false)],V.eEntry⟩),
 (115,⟨.st,true,[.vi ((0:Int)), .vi ((0:Int))],16,[(0,1,false),(1,1,false)],(V.ci (V.ci .nil))⟩),
 (132,⟨.sl 24,false,[.nil0],24,[],(.cons (.sl (.cons (.sl (V.ci .nil)) .nil)) .nil)⟩)]
theorem Z2h :tyAll Tryz.prog tys=true:=by kernel_rfl
theorem mixed :Tryz.prog.follows .mixedOrders=true:=by kernel_rfl
theorem cfl {α:Type}{a b c:α}(e:a=b)(h:a=c):b=c:=e.symm.trans h
theorem fo {g:Nat}{fn:Func}{con:Con}{tab:List (Nat×Con)}{heads:List (Nat×List Nat×Cv)}{pre:List (Nat×Nat)}{shallow:List Nat}{movs flts:List (Nat×List Nat)}(h:TabOk Tryz.prog tab)(hf:Tryz.prog.funcs[g]? =some fn)(hq:(!(fn.name== "runtime.NumGoroutine")&&(!fn.body.isNone&&conOk con fn.ntmps))=true)(hev:∀x y,con.f x=some y→evBody (mkE tys tab heads pre shallow movs flts) con fn x=some y):Valid Tryz.prog g con:=by
 simp only[Bool.and_eq_true,Bool.not_eq_true']at hq
 exact body_ok (env_ok mixed Z2h h) hf hq.1 hq.2.1 hq.2.2 hev
theorem fo2 {g:Nat}{fn:Func}{con:Con}{tab tab2:List (Nat×Con)}{sites:List Nat}{heads:List (Nat×List Nat×Cv)}{pre:List (Nat×Nat)}{shallow:List Nat}{movs flts:List (Nat×List Nat)}(h:TabOk Tryz.prog tab)(h2:TabOk Tryz.prog tab2)(hf:Tryz.prog.funcs[g]? =some fn)(hq:(!(fn.name== "runtime.NumGoroutine")&&(!fn.body.isNone&&conOk con fn.ntmps))=true)(hev:∀x y,con.f x=some y→evBody (mkE2 tys tab sites tab2 heads pre shallow movs flts) con fn x=some y):Valid Tryz.prog g con:=by
 simp only[Bool.and_eq_true,Bool.not_eq_true']at hq
 exact body_ok (env_ok2 mixed Z2h h h2) hf hq.1 hq.2.1 hq.2.2 hev
end V
noncomputable abbrev U2.con :V.Con:=⟨(.cons (.sl (.cons (.int .u8) .nil)) .nil),(.cons .bool .nil),fun(x:List Int)=>U2 x,[],[(false,1)],[(false,1)],[false],[]⟩
noncomputable abbrev U2.E :V.Env:=V.mkE V.tys [] [] [] [] [] []
theorem U2.eq (x0:List Int):V.evBody U2.E U2.con Tryz.f4 ((x0):List Int)=U2 x0:=by kernel_rfl
theorem U2.ok :V.Valid Tryz.prog 4 U2.con:=
 V.fo V.tab_nil Tryz.func4 (by kernel_rfl) (fun x y h=>(show V.evBody U2.E U2.con Tryz.f4 x=_ from U2.eq x).trans (V.cfl (by kernel_rfl) h))
noncomputable abbrev YE.con :V.Con:=⟨.nil,(.cons (.sl (V.ci .nil)) .nil),fun(x:Unit)=>YE,[],[],[(false,1)],[true],[]⟩
noncomputable abbrev YE.E :V.Env:=V.mkE V.tys [] [(6,[1,2],[(64000038400064,(V.ci .nil),true)])] [] [] [] []
noncomputable abbrev YE.kt :V.Kt (List Int):=V.ktOf YE.E YE.con Tryz.f5 ()
noncomputable abbrev YE.s6 (v6_0:Int)(v6_1:List Int):V.St:=⟨[(1, .v false [.ref 64000038400064]),(2, .v false [.vi (v6_0)])],[(64000038400064, .row (V.ci .nil) true v6_1)]⟩
theorem YE.r6 (R:V.St→Option (List Int))(v6_0:Int)(v6_1:List Int):V.loopF YE.E Tryz.f5.ntmps [1,1,0,1,0] [] (V.codeOf Tryz.f5) (YE.kt) R (YE.s6 v6_0 v6_1)=YE.g6 (fun v6_0 v6_1=>R (YE.s6 v6_0 v6_1)) v6_0 v6_1:=by kernel_rfl
theorem YE.e6 :∀(n:Nat) (v6_0:Int) (v6_1:List Int),V.loopN (V.loopF YE.E Tryz.f5.ntmps [1,1,0,1,0] [] (V.codeOf Tryz.f5) (YE.kt)) n (YE.s6 v6_0 v6_1)=YE.l6 n v6_0 v6_1:=by
 intro n
 induction n with
 |zero=>intros;rw[V.loopN_z];rfl
 |succ n ih=>
  intro v6_0 v6_1
  rw[V.loopN_s,YE.r6]
  simp only[ih]
  first|exact(YE.u6 ..).symm|rfl
theorem YE.v :V.evBody YE.E YE.con Tryz.f5 ()=YE.b (fun v6_0 v6_1=>V.loopN (V.loopF YE.E Tryz.f5.ntmps [1,1,0,1,0] [] (V.codeOf Tryz.f5) (YE.kt)) V.KK (YE.s6 v6_0 v6_1)):=by kernel_rfl
theorem YE.eq :V.evBody YE.E YE.con Tryz.f5 ()=YE:=by
 rw[YE.v]
 simp only[YE.e6]
 rfl
theorem YE.ok :V.Valid Tryz.prog 5 YE.con:=
 V.fo V.tab_nil Tryz.func5 (by kernel_rfl) (fun x y h=>(show V.evBody YE.E YE.con Tryz.f5 x=_ from YE.eq).trans (V.cfl (by kernel_rfl) h))
noncomputable abbrev Zy.con :V.Con:=⟨(.cons (.sl (.cons (.int .u8) .nil)) .nil),(.cons (.ptr (.cons (.sl (.cons (.int .u8) .nil)) (V.ci (V.ci .nil)))) .nil),fun(x:List Int)=>Zy x,[],[(false,1)],[(false,1)],[true],[]⟩
noncomputable abbrev Zy.E :V.Env:=V.mkE V.tys [] [(6,[0,3,4],[]),(11,[0,3,4],[])] [] [] [] []
noncomputable abbrev Zy.kt (x0:List Int):V.Kt ((Z3)):=V.ktOf Zy.E Zy.con Tryz.f23 ((x0):List Int)
noncomputable abbrev Zy.s11 (x0:List Int)(v6_1:Int)(v6_2:Int):V.St:=⟨[(0, .v false [.val (.sl (.cons (.int .u8) .nil) x0)]),(3, .v false [.vi (v6_1)]),(4, .v false [.vi (v6_2)])],[]⟩
noncomputable abbrev Zy.s6 (x0:List Int)(v6_1:Int)(v6_2:Int):V.St:=⟨[(0, .v false [.val (.sl (.cons (.int .u8) .nil) x0)]),(3, .v false [.vi (v6_1)]),(4, .v false [.vi (v6_2)])],[]⟩
theorem Zy.r11 (x0:List Int)(v6_1:Int)(v6_2:Int)(R6:V.St→Option ((Z3))):V.joinF Zy.E Tryz.f23.ntmps [1,1,0,1,0,0] [R6] (V.codeOf Tryz.f23) (Zy.kt x0) (Zy.s11 x0 v6_1 v6_2)=Zy.g11 x0 v6_1 v6_2 (fun v6_1 v6_2=>R6 (Zy.s6 x0 v6_1 v6_2)):=by kernel_rfl
theorem Zy.e11 (x0:List Int)(v6_1:Int)(v6_2:Int)(R6:V.St→Option ((Z3))):V.jn (V.joinF Zy.E Tryz.f23.ntmps [1,1,0,1,0,0] [R6] (V.codeOf Tryz.f23) (Zy.kt x0)) (Zy.s11 x0 v6_1 v6_2)=Zy.l11 x0 v6_1 v6_2 (fun v6_1 v6_2=>R6 (Zy.s6 x0 v6_1 v6_2)):=by
 rw[V.jn_eq,Zy.r11]
 rfl
theorem Zy.r6 (x0:List Int)(R:V.St→Option ((Z3)))(v6_1:Int)(v6_2:Int):V.loopF Zy.E Tryz.f23.ntmps [1,1,0,1,0] [] (V.codeOf Tryz.f23) (Zy.kt x0) R (Zy.s6 x0 v6_1 v6_2)=Zy.g6 x0 (fun v6_1 v6_2=>R (Zy.s6 x0 v6_1 v6_2)) (V.jn (V.joinF Zy.E Tryz.f23.ntmps [1,1,0,1,0,0] [R] (V.codeOf Tryz.f23) (Zy.kt x0)) (Zy.s11 x0 v6_1 v6_2)) v6_1 v6_2:=by kernel_rfl
theorem Zy.e6 (x0:List Int):∀(n:Nat) (v6_1:Int) (v6_2:Int),V.loopN (V.loopF Zy.E Tryz.f23.ntmps [1,1,0,1,0] [] (V.codeOf Tryz.f23) (Zy.kt x0)) n (Zy.s6 x0 v6_1 v6_2)=Zy.l6 x0 n v6_1 v6_2:=by
 intro n
 induction n with
 |zero=>intros;rw[V.loopN_z];rfl
 |succ n ih=>
  intro v6_1 v6_2
  rw[V.loopN_s,Zy.r6]
  simp only[Zy.e11,ih]
  first|exact(Zy.u6 ..).symm|rfl
theorem Zy.v (x0:List Int):V.evBody Zy.E Zy.con Tryz.f23 ((x0):List Int)=Zy.b x0 (fun v6_1 v6_2=>V.loopN (V.loopF Zy.E Tryz.f23.ntmps [1,1,0,1,0] [] (V.codeOf Tryz.f23) (Zy.kt x0)) V.KK (Zy.s6 x0 v6_1 v6_2)):=by kernel_rfl
theorem Zy.eq (x0:List Int):V.evBody Zy.E Zy.con Tryz.f23 ((x0):List Int)=Zy x0:=by
 rw[Zy.v]
 simp only[Zy.e6]
 rfl
theorem Zy.ok :V.Valid Tryz.prog 23 Zy.con:=
 V.fo V.tab_nil Tryz.func23 (by kernel_rfl) (fun x y h=>(show V.evBody Zy.E Zy.con Tryz.f23 x=_ from Zy.eq x).trans (V.cfl (by kernel_rfl) h))
noncomputable abbrev W4.con :V.Con:=⟨(.cons (.ptr (.cons (.sl (.cons (.int .u8) .nil)) (V.ci (V.ci .nil)))) .nil),(.cons (.ptr (.cons (.sl (.cons (.int .u8) .nil)) (V.ci (V.ci .nil)))) (V.ci .nil)),fun(x:(Z3))=>W4 x,[(0,false)],[(false,1)],[(false,1)],[false],[]⟩
noncomputable abbrev W4.E :V.Env:=V.mkE V.tys [] [] [(2,10),(3,9),(4,12)] [] [] []
theorem W4.eq (x0:(Z3)):V.evBody W4.E W4.con Tryz.f76 ((x0):(Z3))=W4 x0:=by kernel_rfl
theorem W4.ok :V.Valid Tryz.prog 76 W4.con:=
 V.fo V.tab_nil Tryz.func76 (by kernel_rfl) (fun x y h=>(show V.evBody W4.E W4.con Tryz.f76 x=_ from W4.eq x).trans (V.cfl (by kernel_rfl) h))
noncomputable abbrev Zm.con :V.Con:=⟨(.cons (.ptr (.cons (.sl (.cons (.int .u8) .nil)) (V.ci (V.ci .nil)))) (V.ci .nil)),(.cons (.ptr (.cons (.sl (.cons (.int .u8) .nil)) (V.ci (V.ci .nil)))) (V.ci .nil)),fun(x:(Z3)×Int)=>Zm x.1 x.2,[(0,false)],[(false,1),(false,1)],[(false,1)],[false],[]⟩
noncomputable abbrev Zm.E :V.Env:=V.mkE V.tys [(76,W4.con)] [] [] [] [] []
theorem Zm.eq (x0:(Z3))(x1:Int):V.evBody Zm.E Zm.con Tryz.f39 ((x0,x1):(Z3)×Int)=Zm x0 x1:=by kernel_rfl
theorem Zm.ok :V.Valid Tryz.prog 39 Zm.con:=
 V.fo (V.tab_cons W4.ok V.tab_nil) Tryz.func39 (by kernel_rfl) (fun x y h=>(show V.evBody Zm.E Zm.con Tryz.f39 x=_ from Zm.eq x.1 x.2).trans (V.cfl (by kernel_rfl) h))
noncomputable abbrev Xw.con :V.Con:=⟨(.cons (.ptr (.cons (.sl (.cons (.int .u8) .nil)) (V.ci (V.ci .nil)))) (V.ci .nil)),(.cons (.ptr (.cons (.sl (.cons (.int .u8) .nil)) (V.ci (V.ci .nil)))) (.cons .bool .nil)),fun(x:(Z3)×Int)=>Xw x.1 x.2,[(0,false)],[(false,1),(false,1)],[(false,1)],[false],[]⟩
noncomputable abbrev Xw.E :V.Env:=V.mkE V.tys [(39,Zm.con)] [] [] [] [] []
theorem Xw.eq (x0:(Z3))(x1:Int):V.evBody Xw.E Xw.con Tryz.f43 ((x0,x1):(Z3)×Int)=Xw x0 x1:=by kernel_rfl
theorem Xw.ok :V.Valid Tryz.prog 43 Xw.con:=
 V.fo (V.tab_cons Zm.ok V.tab_nil) Tryz.func43 (by kernel_rfl) (fun x y h=>(show V.evBody Xw.E Xw.con Tryz.f43 x=_ from Xw.eq x.1 x.2).trans (V.cfl (by kernel_rfl) h))
noncomputable abbrev ZK.con :V.Con:=⟨(.cons (.ptr (.cons (.sl (.cons (.int .u8) .nil)) (V.ci (V.ci .nil)))) .nil),(.cons (.ptr (.cons (.sl (.cons (.int .u8) .nil)) (V.ci (V.ci .nil)))) (.cons (.sl (V.ci .nil)) (V.ci .nil))),fun(x:(Z3))=>ZK x,[(0,false)],[(false,1)],[(true,2)],[true,false],[]⟩
noncomputable abbrev ZK.E :V.Env:=V.mkE V.tys [(39,Zm.con)] [(10,[0,2,3,4,5,6],[(64000000000012292096,(V.ci .nil),true)])] [] [] [] []
noncomputable abbrev ZK.kt (x0:(Z3)):V.Kt ((Z3)×List Int×Int):=V.ktOf ZK.E ZK.con Tryz.f74 ((x0):(Z3))
noncomputable abbrev ZK.s10 (x0:(Z3))(v10_0:Int)(v10_1:Int)(v10_2:Int)(v10_4:Int)(v10_5:Int)(v10_8:List Int):V.St:=⟨[(0, .v false [.ptr 0 0]),(2, .v false [.ptr 64000 0]),(3, .v false [.vi (v10_0)]),(4, .v false [.ptr 192064 0]),(5, .v false [.vi (v10_1)]),(6, .v false [.vi (v10_2)])],[(0, .box [.val (.sl (.cons (.int .u8) .nil) x0.1), .vi (v10_4), .vi (v10_5)]),(64000, .box [.nil0, .vi ((0:Int))]),(192064, .box [.ref 64000000000012292096, .vi ((0:Int))]),(64000000000012292096, .row (V.ci .nil) true v10_8)]⟩
theorem ZK.r10 (x0:(Z3))(R:V.St→Option ((Z3)×List Int×Int))(v10_0:Int)(v10_1:Int)(v10_2:Int)(v10_4:Int)(v10_5:Int)(v10_8:List Int):V.loopF ZK.E Tryz.f74.ntmps [1,1,1,1,0,1,0] [] (V.codeOf Tryz.f74) (ZK.kt x0) R (ZK.s10 x0 v10_0 v10_1 v10_2 v10_4 v10_5 v10_8)=ZK.g10 x0 (fun v10_0 v10_1 v10_2 v10_4 v10_5 v10_8=>R (ZK.s10 x0 v10_0 v10_1 v10_2 v10_4 v10_5 v10_8)) v10_0 v10_1 v10_2 v10_4 v10_5 v10_8:=by kernel_rfl
theorem ZK.e10 (x0:(Z3)):∀(n:Nat) (v10_0:Int) (v10_1:Int) (v10_2:Int) (v10_4:Int) (v10_5:Int) (v10_8:List Int),V.loopN (V.loopF ZK.E Tryz.f74.ntmps [1,1,1,1,0,1,0] [] (V.codeOf Tryz.f74) (ZK.kt x0)) n (ZK.s10 x0 v10_0 v10_1 v10_2 v10_4 v10_5 v10_8)=ZK.l10 x0 n v10_0 v10_1 v10_2 v10_4 v10_5 v10_8:=by
 intro n
 induction n with
 |zero=>intros;rw[V.loopN_z];rfl
 |succ n ih=>
  intro v10_0 v10_1 v10_2 v10_4 v10_5 v10_8
  rw[V.loopN_s,ZK.r10]
  simp only[ih]
  first|exact(ZK.u10 ..).symm|rfl
theorem ZK.v (x0:(Z3)):V.evBody ZK.E ZK.con Tryz.f74 ((x0):(Z3))=ZK.b x0 (fun v10_0 v10_1 v10_2 v10_4 v10_5 v10_8=>V.loopN (V.loopF ZK.E Tryz.f74.ntmps [1,1,1,1,0,1,0] [] (V.codeOf Tryz.f74) (ZK.kt x0)) V.KK (ZK.s10 x0 v10_0 v10_1 v10_2 v10_4 v10_5 v10_8)):=by kernel_rfl
theorem ZK.eq (x0:(Z3)):V.evBody ZK.E ZK.con Tryz.f74 ((x0):(Z3))=ZK x0:=by
 rw[ZK.v]
 simp only[ZK.e10]
 rfl
theorem ZK.ok :V.Valid Tryz.prog 74 ZK.con:=
 V.fo (V.tab_cons Zm.ok V.tab_nil) Tryz.func74 (by kernel_rfl) (fun x y h=>(show V.evBody ZK.E ZK.con Tryz.f74 x=_ from ZK.eq x).trans (V.cfl (by kernel_rfl) h))
noncomputable abbrev ZM.con :V.Con:=⟨(.cons (.ptr (.cons (.sl (.cons (.int .u8) .nil)) (V.ci (V.ci .nil)))) .nil),(.cons (.ptr (.cons (.sl (.cons (.int .u8) .nil)) (V.ci (V.ci .nil)))) (V.ci (V.ci (V.ci (V.ci (V.ci (V.ci (V.ci (V.ci (.cons (.sl (V.ci .nil)) (V.ci (.cons (.sl (V.ci .nil)) (V.ci (V.ci (.cons (.sl (V.ci .nil)) (V.ci (.cons .bool .nil))))))))))))))))),fun(x:(Z3))=>ZM x,[(0,false)],[(false,1)],[(true,16)],[false,false,false,false,false,false,false,false,true,false,true,false,false,true,false,false],[]⟩
noncomputable abbrev ZM.E :V.Env:=V.mkE V.tys [(39,Zm.con),(43,Xw.con),(74,ZK.con)] [(7,[0,2,3],[]),(13,[0,2,3],[(64000000000008265738,(V.ci .nil),true)])] [] [] [] [(2,[1000])]
noncomputable abbrev ZM.kt (x0:(Z3)):V.Kt ((Z3)×Int×Int×Int×Int×Int×Int×Int×Int×List Int×Int×List Int×Int×Int×List Int×Int×Bool):=V.ktOf ZM.E ZM.con Tryz.f86 ((x0):(Z3))
noncomputable abbrev ZM.s13 (x0:(Z3))(v7_18:Int)(v7_20:Int)(y1:(Z3)×Int)(y2:(Z3)×Int)(y4:(Z3)×Int)(y5:(Z3)×Int)(y6:(Z3)×Int)(y7:(Z3)×Int)(y8:(Z3)×List Int×Int)(v13_1:Int)(v13_2:Int)(v13_25:Int)(v13_26:Int)(v13_30:List Int):V.St:=⟨[(0, .v false [.ptr 0 0]),(2, .v false [.ptr 64000 0]),(3, .v false [.ptr 129152 0])],[(0, .box [.val (.sl (.cons (.int .u8) .nil) x0.1), .vi (v13_1), .vi (v13_2)]),(64000, .box [.vi ((0:Int)), .vi ((0:Int)), .vi ((0:Int)), .vi ((0:Int)), .vi ((0:Int)), .vi ((0:Int)), .vi ((0:Int)), .vi ((0:Int)), .nil0, .vi ((0:Int)), .nil0, .vi ((0:Int)), .vi ((0:Int)), .nil0, .vi ((0:Int)), .val (.bool false)]),(129152, .box [.vi (y1.2), .vi (y2.2), .vi (v7_18), .vi (y4.2), .vi (v7_20), .vi (y7.2), .vi (y5.2), .vi (y6.2), .ref 64000000000008265736, .vi (y8.2.2), .ref 64000000000008265738, .vi (v13_25), .vi (v13_26), .nil0, .vi ((0:Int)), .val (.bool false)]),(64000000000008265736, .row (V.ci .nil) true y8.2.1),(64000000000008265738, .row (V.ci .nil) true v13_30)]⟩
noncomputable abbrev ZM.s7 (x0:(Z3))(y1:(Z3)×Int)(y2:(Z3)×Int)(y4:(Z3)×Int)(y5:(Z3)×Int)(y6:(Z3)×Int)(y7:(Z3)×Int)(y8:(Z3)×List Int×Int)(v7_1:Int)(v7_2:Int)(v7_18:Int)(v7_20:Int):V.St:=⟨[(0, .v false [.ptr 0 0]),(2, .v false [.ptr 64000 0]),(3, .v false [.ptr 129152 0])],[(0, .box [.val (.sl (.cons (.int .u8) .nil) x0.1), .vi (v7_1), .vi (v7_2)]),(64000, .box [.vi ((0:Int)), .vi ((0:Int)), .vi ((0:Int)), .vi ((0:Int)), .vi ((0:Int)), .vi ((0:Int)), .vi ((0:Int)), .vi ((0:Int)), .nil0, .vi ((0:Int)), .nil0, .vi ((0:Int)), .vi ((0:Int)), .nil0, .vi ((0:Int)), .val (.bool false)]),(129152, .box [.vi (y1.2), .vi (y2.2), .vi (v7_18), .vi (y4.2), .vi (v7_20), .vi (y7.2), .vi (y5.2), .vi (y6.2), .ref 64000000000008265736, .vi (y8.2.2), .nil0, .vi ((0:Int)), .vi ((0:Int)), .nil0, .vi ((0:Int)), .val (.bool false)]),(64000000000008265736, .row (V.ci .nil) true y8.2.1)]⟩
theorem ZM.r13 (x0:(Z3))(v7_18:Int)(v7_20:Int)(y1:(Z3)×Int)(y2:(Z3)×Int)(y4:(Z3)×Int)(y5:(Z3)×Int)(y6:(Z3)×Int)(y7:(Z3)×Int)(y8:(Z3)×List Int×Int)(v13_1:Int)(v13_2:Int)(v13_25:Int)(v13_26:Int)(v13_30:List Int):V.joinF ZM.E Tryz.f86.ntmps [1,1,1] [] (V.codeOf Tryz.f86) (ZM.kt x0) (ZM.s13 x0 v7_18 v7_20 y1 y2 y4 y5 y6 y7 y8 v13_1 v13_2 v13_25 v13_26 v13_30)=ZM.g13 x0 v7_18 v7_20 y1 y2 y4 y5 y6 y7 y8 v13_1 v13_2 v13_25 v13_26 v13_30:=by kernel_rfl
theorem ZM.e13 (x0:(Z3))(v7_18:Int)(v7_20:Int)(y1:(Z3)×Int)(y2:(Z3)×Int)(y4:(Z3)×Int)(y5:(Z3)×Int)(y6:(Z3)×Int)(y7:(Z3)×Int)(y8:(Z3)×List Int×Int)(v13_1:Int)(v13_2:Int)(v13_25:Int)(v13_26:Int)(v13_30:List Int):V.jn (V.joinF ZM.E Tryz.f86.ntmps [1,1,1] [] (V.codeOf Tryz.f86) (ZM.kt x0)) (ZM.s13 x0 v7_18 v7_20 y1 y2 y4 y5 y6 y7 y8 v13_1 v13_2 v13_25 v13_26 v13_30)=ZM.l13 x0 v7_18 v7_20 y1 y2 y4 y5 y6 y7 y8 v13_1 v13_2 v13_25 v13_26 v13_30:=by
 rw[V.jn_eq,ZM.r13]
 rfl
theorem ZM.r7 (x0:(Z3))(y1:(Z3)×Int)(y2:(Z3)×Int)(y4:(Z3)×Int)(y5:(Z3)×Int)(y6:(Z3)×Int)(y7:(Z3)×Int)(y8:(Z3)×List Int×Int)(v7_1:Int)(v7_2:Int)(v7_18:Int)(v7_20:Int):V.joinF ZM.E Tryz.f86.ntmps [1,1] [] (V.codeOf Tryz.f86) (ZM.kt x0) (ZM.s7 x0 y1 y2 y4 y5 y6 y7 y8 v7_1 v7_2 v7_18 v7_20)=ZM.g7 x0 y1 y2 y4 y5 y6 y7 y8 (fun y1 y2 y4 y5 y6 y7 y8 v13_1 v13_2 v13_25 v13_26 v13_30=>V.jn (V.joinF ZM.E Tryz.f86.ntmps [1,1,1] [] (V.codeOf Tryz.f86) (ZM.kt x0)) (ZM.s13 x0 v7_18 v7_20 y1 y2 y4 y5 y6 y7 y8 v13_1 v13_2 v13_25 v13_26 v13_30)) v7_1 v7_2 v7_18 v7_20:=by kernel_rfl
theorem ZM.e7 (x0:(Z3))(y1:(Z3)×Int)(y2:(Z3)×Int)(y4:(Z3)×Int)(y5:(Z3)×Int)(y6:(Z3)×Int)(y7:(Z3)×Int)(y8:(Z3)×List Int×Int)(v7_1:Int)(v7_2:Int)(v7_18:Int)(v7_20:Int):V.jn (V.joinF ZM.E Tryz.f86.ntmps [1,1] [] (V.codeOf Tryz.f86) (ZM.kt x0)) (ZM.s7 x0 y1 y2 y4 y5 y6 y7 y8 v7_1 v7_2 v7_18 v7_20)=ZM.l7 x0 y1 y2 y4 y5 y6 y7 y8 v7_1 v7_2 v7_18 v7_20:=by
 rw[V.jn_eq,ZM.r7]
 simp only[ZM.e13]
 rfl
theorem ZM.v (x0:(Z3)):V.evBody ZM.E ZM.con Tryz.f86 ((x0):(Z3))=ZM.b x0 (fun y1 y2 y4 y5 y6 y7 y8 v7_1 v7_2 v7_18 v7_20=>V.jn (V.joinF ZM.E Tryz.f86.ntmps [1,1] [] (V.codeOf Tryz.f86) (ZM.kt x0)) (ZM.s7 x0 y1 y2 y4 y5 y6 y7 y8 v7_1 v7_2 v7_18 v7_20)):=by kernel_rfl
theorem ZM.eq (x0:(Z3)):V.evBody ZM.E ZM.con Tryz.f86 ((x0):(Z3))=ZM x0:=by
 rw[ZM.v]
 simp only[ZM.e7]
 rfl
theorem ZM.ok :V.Valid Tryz.prog 86 ZM.con:=
 V.fo (V.tab_cons Zm.ok (V.tab_cons Xw.ok (V.tab_cons ZK.ok V.tab_nil))) Tryz.func86 (by kernel_rfl) (fun x y h=>(show V.evBody ZM.E ZM.con Tryz.f86 x=_ from ZM.eq x).trans (V.cfl (by kernel_rfl) h))
noncomputable abbrev Z8.con :V.Con:=⟨(.cons (.ptr (.cons (.sl (.cons (.int .u8) .nil)) (V.ci (V.ci .nil)))) (.cons (.sl (V.ci .nil)) .nil)),(.cons (.ptr (.cons (.sl (.cons (.int .u8) .nil)) (V.ci (V.ci .nil)))) (V.ci .nil)),fun(x:(Z3)×List Int)=>Z8 x.1 x.2,[(0,false)],[(false,1),(false,1)],[(false,1)],[false],[]⟩
noncomputable abbrev Z8.E :V.Env:=V.mkE V.tys [(39,Zm.con)] [] [] [] [] []
theorem Z8.eq (x0:(Z3))(x1:List Int):V.evBody Z8.E Z8.con Tryz.f40 ((x0,x1):(Z3)×List Int)=Z8 x0 x1:=by kernel_rfl
theorem Z8.ok :V.Valid Tryz.prog 40 Z8.con:=
 V.fo (V.tab_cons Zm.ok V.tab_nil) Tryz.func40 (by kernel_rfl) (fun x y h=>(show V.evBody Z8.E Z8.con Tryz.f40 x=_ from Z8.eq x.1 x.2).trans (V.cfl (by kernel_rfl) h))
noncomputable abbrev XH.con :V.Con:=⟨(.cons (.ptr (.cons (.sl (.cons (.int .u8) .nil)) (V.ci (V.ci .nil)))) .nil),(.cons (.ptr (.cons (.sl (.cons (.int .u8) .nil)) (V.ci (V.ci .nil)))) (.cons (.sl (V.ci .nil)) (V.ci .nil))),fun(x:(Z3))=>XH x,[(0,false)],[(false,1)],[(true,2)],[true,false],[]⟩
noncomputable abbrev XH.E :V.Env:=V.mkE V.tys [(39,Zm.con),(40,Z8.con),(74,ZK.con)] [] [] [] [] [(6,[1000])]
theorem XH.eq (x0:(Z3)):V.evBody XH.E XH.con Tryz.f33 ((x0):(Z3))=XH x0:=by kernel_rfl
theorem XH.ok :V.Valid Tryz.prog 33 XH.con:=
 V.fo (V.tab_cons Zm.ok (V.tab_cons Z8.ok (V.tab_cons ZK.ok V.tab_nil))) Tryz.func33 (by kernel_rfl) (fun x y h=>(show V.evBody XH.E XH.con Tryz.f33 x=_ from XH.eq x).trans (V.cfl (by kernel_rfl) h))
noncomputable abbrev WK.con :V.Con:=⟨(.cons (.ptr (.cons (.sl (.cons (.int .u8) .nil)) (V.ci (V.ci .nil)))) .nil),(.cons (.ptr (.cons (.sl (.cons (.int .u8) .nil)) (V.ci (V.ci .nil)))) (V.ci (V.ci (V.ci (V.ci (V.ci (V.ci (V.ci (V.ci (.cons (.sl (V.ci .nil)) (V.ci (.cons (.sl (V.ci .nil)) (V.ci (V.ci (.cons (.sl (V.ci .nil)) (V.ci (.cons .bool .nil))))))))))))))))),fun(x:(Z3))=>WK x,[(0,false)],[(false,1)],[(true,16)],[false,false,false,false,false,false,false,false,true,false,true,false,false,true,false,false],[]⟩
noncomputable abbrev WK.E :V.Env:=V.mkE V.tys [(33,XH.con),(39,Zm.con),(40,Z8.con),(86,ZM.con)] [] [] [] [] []
theorem WK.eq (x0:(Z3)):V.evBody WK.E WK.con Tryz.f52 ((x0):(Z3))=WK x0:=by kernel_rfl
theorem WK.ok :V.Valid Tryz.prog 52 WK.con:=
 V.fo (V.tab_cons XH.ok (V.tab_cons Zm.ok (V.tab_cons Z8.ok (V.tab_cons ZM.ok V.tab_nil)))) Tryz.func52 (by kernel_rfl) (fun x y h=>(show V.evBody WK.E WK.con Tryz.f52 x=_ from WK.eq x).trans (V.cfl (by kernel_rfl) h))
noncomputable abbrev XW.con :V.Con:=⟨(.cons (.ptr (.cons (.sl (.cons (.int .u8) .nil)) (V.ci (V.ci .nil)))) (.cons (.sl (.cons .str .nil)) .nil)),(.cons (.ptr (.cons (.sl (.cons (.int .u8) .nil)) (V.ci (V.ci .nil)))) (.cons .str .nil)),fun(x:(Z3)×List ByteArray)=>XW x.1 x.2,[(0,false)],[(false,1),(false,1)],[(false,1)],[false],[]⟩
noncomputable abbrev XW.E :V.Env:=V.mkE V.tys [(39,Zm.con)] [] [] [] [] []
theorem XW.eq (x0:(Z3))(x1:List ByteArray):V.evBody XW.E XW.con Tryz.f131 ((x0,x1):(Z3)×List ByteArray)=XW x0 x1:=by kernel_rfl
theorem XW.ok :V.Valid Tryz.prog 131 XW.con:=
 V.fo (V.tab_cons Zm.ok V.tab_nil) Tryz.func131 (by kernel_rfl) (fun x y h=>(show V.evBody XW.E XW.con Tryz.f131 x=_ from XW.eq x.1 x.2).trans (V.cfl (by kernel_rfl) h))
noncomputable abbrev XO.con :V.Con:=⟨(.cons (.ptr (.cons (.sl (.cons (.int .u8) .nil)) (V.ci (V.ci .nil)))) .nil),(.cons (.ptr (.cons (.sl (.cons (.int .u8) .nil)) (V.ci (V.ci .nil)))) (.cons .str .nil)),fun(x:(Z3))=>XO x,[(0,false)],[(false,1)],[(false,1)],[false],[]⟩
noncomputable abbrev XO.E :V.Env:=V.mkE V.tys [(131,XW.con)] [] [] [] [] []
theorem XO.eq (x0:(Z3)):V.evBody XO.E XO.con Tryz.f127 ((x0):(Z3))=XO x0:=by kernel_rfl
theorem XO.ok :V.Valid Tryz.prog 127 XO.con:=
 V.fo (V.tab_cons XW.ok V.tab_nil) Tryz.func127 (by kernel_rfl) (fun x y h=>(show V.evBody XO.E XO.con Tryz.f127 x=_ from XO.eq x).trans (V.cfl (by kernel_rfl) h))
noncomputable abbrev U4.con :V.Con:=⟨(.cons .str (V.ci .nil)),V.eEntry,fun(x:ByteArray×Int)=>U4 x.1 x.2,[],[(false,1),(false,1)],[(true,4)],[false,false,false,true],[]⟩
noncomputable abbrev U4.E :V.Env:=V.mkE V.tys [] [] [] [] [] []
theorem U4.eq (x0:ByteArray)(x1:Int):V.evBody U4.E U4.con Tryz.f128 ((x0,x1):ByteArray×Int)=U4 x0 x1:=by kernel_rfl
theorem U4.ok :V.Valid Tryz.prog 128 U4.con:=
 V.fo V.tab_nil Tryz.func128 (by kernel_rfl) (fun x y h=>(show V.evBody U4.E U4.con Tryz.f128 x=_ from U4.eq x.1 x.2).trans (V.cfl (by kernel_rfl) h))
noncomputable abbrev Yh.con :V.Con:=⟨(.cons (.ptr (.cons (.sl (.cons (.int .u8) .nil)) (V.ci (V.ci .nil)))) .nil),(.cons (.ptr (.cons (.sl (.cons (.int .u8) .nil)) (V.ci (V.ci .nil)))) (.cons (.sl (.cons .str .nil)) .nil)),fun(x:(Z3))=>Yh x,[(0,false)],[(false,1)],[(false,1)],[true],[]⟩
noncomputable abbrev Yh.E :V.Env:=V.mkE V.tys [(39,Zm.con),(127,XO.con)] [(6,[0,3,4],[(64000038400192,(.cons .str .nil),true)])] [] [] [] []
noncomputable abbrev Yh.kt (x0:(Z3)):V.Kt ((Z3)×List ByteArray):=V.ktOf Yh.E Yh.con Tryz.f130 ((x0):(Z3))
noncomputable abbrev Yh.s6 (x0:(Z3))(v6_0:Int)(v6_2:Int)(v6_3:Int)(v6_4:List ByteArray):V.St:=⟨[(0, .v false [.ptr 0 0]),(3, .v false [.ref 64000038400192]),(4, .v false [.vi (v6_0)])],[(0, .box [.val (.sl (.cons (.int .u8) .nil) x0.1), .vi (v6_2), .vi (v6_3)]),(64000038400192, .row (.cons .str .nil) true v6_4)]⟩
theorem Yh.r6 (x0:(Z3))(R:V.St→Option ((Z3)×List ByteArray))(v6_0:Int)(v6_2:Int)(v6_3:Int)(v6_4:List ByteArray):V.loopF Yh.E Tryz.f130.ntmps [1,1,0,1,0] [] (V.codeOf Tryz.f130) (Yh.kt x0) R (Yh.s6 x0 v6_0 v6_2 v6_3 v6_4)=Yh.g6 x0 (fun v6_0 v6_2 v6_3 v6_4=>R (Yh.s6 x0 v6_0 v6_2 v6_3 v6_4)) v6_0 v6_2 v6_3 v6_4:=by kernel_rfl
theorem Yh.e6 (x0:(Z3)):∀(n:Nat) (v6_0:Int) (v6_2:Int) (v6_3:Int) (v6_4:List ByteArray),V.loopN (V.loopF Yh.E Tryz.f130.ntmps [1,1,0,1,0] [] (V.codeOf Tryz.f130) (Yh.kt x0)) n (Yh.s6 x0 v6_0 v6_2 v6_3 v6_4)=Yh.l6 x0 n v6_0 v6_2 v6_3 v6_4:=by
 intro n
 induction n with
 |zero=>intros;rw[V.loopN_z];rfl
 |succ n ih=>
  intro v6_0 v6_2 v6_3 v6_4
  rw[V.loopN_s,Yh.r6]
  simp only[ih]
  first|exact(Yh.u6 ..).symm|rfl
theorem Yh.v (x0:(Z3)):V.evBody Yh.E Yh.con Tryz.f130 ((x0):(Z3))=Yh.b x0 (fun v6_0 v6_2 v6_3 v6_4=>V.loopN (V.loopF Yh.E Tryz.f130.ntmps [1,1,0,1,0] [] (V.codeOf Tryz.f130) (Yh.kt x0)) V.KK (Yh.s6 x0 v6_0 v6_2 v6_3 v6_4)):=by kernel_rfl
theorem Yh.eq (x0:(Z3)):V.evBody Yh.E Yh.con Tryz.f130 ((x0):(Z3))=Yh x0:=by
 rw[Yh.v]
 simp only[Yh.e6]
 rfl
theorem Yh.ok :V.Valid Tryz.prog 130 Yh.con:=
 V.fo (V.tab_cons Zm.ok (V.tab_cons XO.ok V.tab_nil)) Tryz.func130 (by kernel_rfl) (fun x y h=>(show V.evBody Yh.E Yh.con Tryz.f130 x=_ from Yh.eq x).trans (V.cfl (by kernel_rfl) h))
noncomputable abbrev W5.con :V.Con:=⟨(.cons (.sl (.cons .str .nil)) .nil),(.cons (.sl (.cons .str .nil)) .nil),fun(x:List ByteArray)=>W5 x,[],[(false,1)],[(false,1)],[true],[]⟩
noncomputable abbrev W5.E :V.Env:=V.mkE V.tys [] [] [] [] [] []
theorem W5.eq (x0:List ByteArray):V.evBody W5.E W5.con Tryz.f132 ((x0):List ByteArray)=W5 x0:=by kernel_rfl
theorem W5.ok :V.Valid Tryz.prog 132 W5.con:=
 V.fo V.tab_nil Tryz.func132 (by kernel_rfl) (fun x y h=>(show V.evBody W5.E W5.con Tryz.f132 x=_ from W5.eq x).trans (V.cfl (by kernel_rfl) h))
noncomputable abbrev U3.con :V.Con:=⟨(.cons .str (V.ci (.cons (.sl (.cons .str .nil)) .nil))),V.eEntry,fun(x:ByteArray×Int×List ByteArray)=>U3 x.1 x.2.1 x.2.2,[],[(false,1),(false,1),(false,1)],[(true,4)],[false,false,false,true],[]⟩
noncomputable abbrev U3.E :V.Env:=V.mkE V.tys [(132,W5.con)] [] [] [] [] []
theorem U3.eq (x0:ByteArray)(x1:Int)(x2:List ByteArray):V.evBody U3.E U3.con Tryz.f129 ((x0,x1,x2):ByteArray×Int×List ByteArray)=U3 x0 x1 x2:=by kernel_rfl
theorem U3.ok :V.Valid Tryz.prog 129 U3.con:=
 V.fo (V.tab_cons W5.ok V.tab_nil) Tryz.func129 (by kernel_rfl) (fun x y h=>(show V.evBody U3.E U3.con Tryz.f129 x=_ from U3.eq x.1 x.2.1 x.2.2).trans (V.cfl (by kernel_rfl) h))
noncomputable abbrev Wi.con :V.Con:=⟨(.cons .str (V.ci .nil)),V.eEntry,fun(x:ByteArray×Int)=>Wi x.1 x.2,[],[(false,1),(false,1)],[(true,4)],[false,false,false,true],[]⟩
noncomputable abbrev Wi.E :V.Env:=V.mkE V.tys [] [] [] [] [] []
theorem Wi.eq (x0:ByteArray)(x1:Int):V.evBody Wi.E Wi.con Tryz.f57 ((x0,x1):ByteArray×Int)=Wi x0 x1:=by kernel_rfl
theorem Wi.ok :V.Valid Tryz.prog 57 Wi.con:=
 V.fo V.tab_nil Tryz.func57 (by kernel_rfl) (fun x y h=>(show V.evBody Wi.E Wi.con Tryz.f57 x=_ from Wi.eq x.1 x.2).trans (V.cfl (by kernel_rfl) h))
noncomputable abbrev W6.con :V.Con:=⟨(.cons (.ptr (.cons (.sl (.cons (.int .u8) .nil)) (V.ci (V.ci .nil)))) .nil),(.cons (.ptr (.cons (.sl (.cons (.int .u8) .nil)) (V.ci (V.ci .nil)))) (.cons .str (V.ci (V.ci (.cons (.sl (.cons .str .nil)) .nil))))),fun(x:(Z3))=>W6 x,[(0,false)],[(false,1)],[(true,4)],[false,false,false,true],[]⟩
noncomputable abbrev W6.E :V.Env:=V.mkE V.tys [(39,Zm.con),(57,Wi.con),(127,XO.con),(128,U4.con),(129,U3.con),(130,Yh.con)] [] [] [] [] []
theorem W6.eq (x0:(Z3)):V.evBody W6.E W6.con Tryz.f90 ((x0):(Z3))=W6 x0:=by kernel_rfl
theorem W6.ok :V.Valid Tryz.prog 90 W6.con:=
 V.fo (V.tab_cons Zm.ok (V.tab_cons Wi.ok (V.tab_cons XO.ok (V.tab_cons U4.ok (V.tab_cons U3.ok (V.tab_cons Yh.ok V.tab_nil)))))) Tryz.func90 (by kernel_rfl) (fun x y h=>(show V.evBody W6.E W6.con Tryz.f90 x=_ from W6.eq x).trans (V.cfl (by kernel_rfl) h))
noncomputable abbrev W0.con :V.Con:=⟨(.cons .str (.cons .str .nil)),(V.ci .nil),fun(x:ByteArray×ByteArray)=>W0 x.1 x.2,[],[(false,1),(false,1)],[(false,1)],[false],[]⟩
noncomputable abbrev W0.E :V.Env:=V.mkE V.tys [] [] [] [] [] []
theorem W0.eq (x0:ByteArray)(x1:ByteArray):V.evBody W0.E W0.con Tryz.f82 ((x0,x1):ByteArray×ByteArray)=W0 x0 x1:=by kernel_rfl
theorem W0.ok :V.Valid Tryz.prog 82 W0.con:=
 V.fo V.tab_nil Tryz.func82 (by kernel_rfl) (fun x y h=>(show V.evBody W0.E W0.con Tryz.f82 x=_ from W0.eq x.1 x.2).trans (V.cfl (by kernel_rfl) h))
noncomputable abbrev XP.con :V.Con:=⟨V.eEntry,V.eEntry,fun(x:ByteArray×Int×Int×List ByteArray)=>XP x,[],[(true,4)],[(true,4)],[false,false,false,true],[]⟩
noncomputable abbrev XP.E :V.Env:=V.mkE V.tys [(132,W5.con)] [] [(1,9)] [] [] []
theorem XP.eq (x0:Z4):V.evBody XP.E XP.con Tryz.f93 ((x0.1,x0.2.1,x0.2.2.1,x0.2.2.2):ByteArray×Int×Int×List ByteArray)=XP x0:=by kernel_rfl
theorem XP.ok :V.Valid Tryz.prog 93 XP.con:=
 V.fo (V.tab_cons W5.ok V.tab_nil) Tryz.func93 (by kernel_rfl) (fun x y h=>(show V.evBody XP.E XP.con Tryz.f93 x=_ from XP.eq x).trans (V.cfl (by kernel_rfl) h))
noncomputable abbrev Yg.con :V.Con:=⟨(V.ci (V.ci (V.ci .nil))),(.cons .bool .nil),fun(x:Int×Int×Int)=>Yg x.1 x.2.1 x.2.2,[],[(false,1),(false,1),(false,1)],[(false,1)],[false],[]⟩
noncomputable abbrev Yg.E :V.Env:=V.mkE V.tys [] [] [] [] [] []
theorem Yg.eq (x0:Int)(x1:Int)(x2:Int):V.evBody Yg.E Yg.con Tryz.f78 ((x0,x1,x2):Int×Int×Int)=Yg x0 x1 x2:=by kernel_rfl
theorem Yg.ok :V.Valid Tryz.prog 78 Yg.con:=
 V.fo V.tab_nil Tryz.func78 (by kernel_rfl) (fun x y h=>(show V.evBody Yg.E Yg.con Tryz.f78 x=_ from Yg.eq x.1 x.2.1 x.2.2).trans (V.cfl (by kernel_rfl) h))
noncomputable abbrev ZA.con :V.Con:=⟨(.cons .str .nil),(.cons .bool .nil),fun(x:ByteArray)=>ZA x,[],[(false,1)],[(false,1)],[false],[]⟩
noncomputable abbrev ZA.E :V.Env:=V.mkE V.tys [(78,Yg.con)] [(7,[0],[]),(8,[0,3],[])] [] [] [] []
noncomputable abbrev ZA.kt (x0:ByteArray):V.Kt Bool:=V.ktOf ZA.E ZA.con Tryz.f117 ((x0):ByteArray)
noncomputable abbrev ZA.s8 (x0:ByteArray)(v8_1:Int):V.St:=⟨[(0, .v false [.val (.str x0)]),(3, .v false [.vi (v8_1)])],[]⟩
noncomputable abbrev ZA.s7 (x0:ByteArray):V.St:=⟨[(0, .v false [.val (.str x0)])],[]⟩
theorem ZA.r8 (x0:ByteArray)(R:V.St→Option Bool)(v8_1:Int):V.loopF ZA.E Tryz.f117.ntmps [1,1,0,1,0] [] (V.codeOf Tryz.f117) (ZA.kt x0) R (ZA.s8 x0 v8_1)=ZA.g8 x0 (fun v8_1=>R (ZA.s8 x0 v8_1)) v8_1:=by kernel_rfl
theorem ZA.e8 (x0:ByteArray):∀(n:Nat) (v8_1:Int),V.loopN (V.loopF ZA.E Tryz.f117.ntmps [1,1,0,1,0] [] (V.codeOf Tryz.f117) (ZA.kt x0)) n (ZA.s8 x0 v8_1)=ZA.l8 x0 n v8_1:=by
 intro n
 induction n with
 |zero=>intros;rw[V.loopN_z];rfl
 |succ n ih=>
  intro v8_1
  rw[V.loopN_s,ZA.r8]
  simp only[ih]
  first|exact(ZA.u8 ..).symm|rfl
theorem ZA.r7 (x0:ByteArray):V.joinF ZA.E Tryz.f117.ntmps [1] [] (V.codeOf Tryz.f117) (ZA.kt x0) (ZA.s7 x0)=ZA.g7 x0 (fun v8_1=>V.loopN (V.loopF ZA.E Tryz.f117.ntmps [1,1,0,1,0] [] (V.codeOf Tryz.f117) (ZA.kt x0)) V.KK (ZA.s8 x0 v8_1)):=by kernel_rfl
theorem ZA.e7 (x0:ByteArray):V.jn (V.joinF ZA.E Tryz.f117.ntmps [1] [] (V.codeOf Tryz.f117) (ZA.kt x0)) (ZA.s7 x0)=ZA.l7 x0:=by
 rw[V.jn_eq,ZA.r7]
 simp only[ZA.e8]
 rfl
theorem ZA.v (x0:ByteArray):V.evBody ZA.E ZA.con Tryz.f117 ((x0):ByteArray)=ZA.b x0 (V.jn (V.joinF ZA.E Tryz.f117.ntmps [1] [] (V.codeOf Tryz.f117) (ZA.kt x0)) (ZA.s7 x0)):=by kernel_rfl
theorem ZA.eq (x0:ByteArray):V.evBody ZA.E ZA.con Tryz.f117 ((x0):ByteArray)=ZA x0:=by
 rw[ZA.v]
 simp only[ZA.e7]
 rfl
theorem ZA.ok :V.Valid Tryz.prog 117 ZA.con:=
 V.fo (V.tab_cons Yg.ok V.tab_nil) Tryz.func117 (by kernel_rfl) (fun x y h=>(show V.evBody ZA.E ZA.con Tryz.f117 x=_ from ZA.eq x).trans (V.cfl (by kernel_rfl) h))
noncomputable abbrev Yn.con :V.Con:=⟨(.cons (.sl (.cons .str .nil)) .nil),(.cons .bool .nil),fun(x:List ByteArray)=>Yn x,[],[(false,1)],[(false,1)],[false],[]⟩
noncomputable abbrev Yn.E :V.Env:=V.mkE V.tys [(78,Yg.con),(117,ZA.con)] [(4,[0,3],[])] [] [] [] []
noncomputable abbrev Yn.kt (x0:List ByteArray):V.Kt Bool:=V.ktOf Yn.E Yn.con Tryz.f118 ((x0):List ByteArray)
noncomputable abbrev Yn.s4 (x0:List ByteArray)(v4_1:Int):V.St:=⟨[(0, .v false [.val (.sl (.cons .str .nil) x0)]),(3, .v false [.vi (v4_1)])],[]⟩
theorem Yn.r4 (x0:List ByteArray)(R:V.St→Option Bool)(v4_1:Int):V.loopF Yn.E Tryz.f118.ntmps [1,0,1,0] [] (V.codeOf Tryz.f118) (Yn.kt x0) R (Yn.s4 x0 v4_1)=Yn.g4 x0 (fun v4_1=>R (Yn.s4 x0 v4_1)) v4_1:=by kernel_rfl
theorem Yn.e4 (x0:List ByteArray):∀(n:Nat) (v4_1:Int),V.loopN (V.loopF Yn.E Tryz.f118.ntmps [1,0,1,0] [] (V.codeOf Tryz.f118) (Yn.kt x0)) n (Yn.s4 x0 v4_1)=Yn.l4 x0 n v4_1:=by
 intro n
 induction n with
 |zero=>intros;rw[V.loopN_z];rfl
 |succ n ih=>
  intro v4_1
  rw[V.loopN_s,Yn.r4]
  simp only[ih]
  first|exact(Yn.u4 ..).symm|rfl
theorem Yn.v (x0:List ByteArray):V.evBody Yn.E Yn.con Tryz.f118 ((x0):List ByteArray)=Yn.b x0 (fun v4_1=>V.loopN (V.loopF Yn.E Tryz.f118.ntmps [1,0,1,0] [] (V.codeOf Tryz.f118) (Yn.kt x0)) V.KK (Yn.s4 x0 v4_1)):=by kernel_rfl
theorem Yn.eq (x0:List ByteArray):V.evBody Yn.E Yn.con Tryz.f118 ((x0):List ByteArray)=Yn x0:=by
 rw[Yn.v]
 simp only[Yn.e4]
 rfl
theorem Yn.ok :V.Valid Tryz.prog 118 Yn.con:=
 V.fo (V.tab_cons Yg.ok (V.tab_cons ZA.ok V.tab_nil)) Tryz.func118 (by kernel_rfl) (fun x y h=>(show V.evBody Yn.E Yn.con Tryz.f118 x=_ from Yn.eq x).trans (V.cfl (by kernel_rfl) h))
noncomputable abbrev WE.con :V.Con:=⟨V.eEntry,(.cons .bool .nil),fun(x:ByteArray×Int×Int×List ByteArray)=>WE x,[],[(true,4)],[(false,1)],[false],[]⟩
noncomputable abbrev WE.E :V.Env:=V.mkE V.tys [(78,Yg.con),(117,ZA.con),(118,Yn.con)] [] [] [] [] []
theorem WE.eq (x0:Z4):V.evBody WE.E WE.con Tryz.f81 ((x0.1,x0.2.1,x0.2.2.1,x0.2.2.2):ByteArray×Int×Int×List ByteArray)=WE x0:=by kernel_rfl
theorem WE.ok :V.Valid Tryz.prog 81 WE.con:=
 V.fo (V.tab_cons Yg.ok (V.tab_cons ZA.ok (V.tab_cons Yn.ok V.tab_nil))) Tryz.func81 (by kernel_rfl) (fun x y h=>(show V.evBody WE.E WE.con Tryz.f81 x=_ from WE.eq x).trans (V.cfl (by kernel_rfl) h))
noncomputable abbrev ZY.con :V.Con:=⟨(.cons (.sl V.eEntry) .nil),(.cons .bool .nil),fun(x:List Z4)=>ZY x,[],[(false,1)],[(false,1)],[false],[]⟩
noncomputable abbrev ZY.E :V.Env:=V.mkE V.tys [(81,WE.con),(82,W0.con)] [(4,[0,3],[])] [(4,21)] [] [] []
noncomputable abbrev ZY.kt (x0:List Z4):V.Kt Bool:=V.ktOf ZY.E ZY.con Tryz.f46 ((x0):List Z4)
noncomputable abbrev ZY.s4 (x0:List Z4)(v4_1:Int):V.St:=⟨[(0, .v false [.val (.sl V.eEntry x0)]),(3, .v false [.vi (v4_1)])],[]⟩
theorem ZY.r4 (x0:List Z4)(R:V.St→Option Bool)(v4_1:Int):V.loopF ZY.E Tryz.f46.ntmps [1,0,1,0] [] (V.codeOf Tryz.f46) (ZY.kt x0) R (ZY.s4 x0 v4_1)=ZY.g4 x0 (fun v4_1=>R (ZY.s4 x0 v4_1)) v4_1:=by kernel_rfl
theorem ZY.e4 (x0:List Z4):∀(n:Nat) (v4_1:Int),V.loopN (V.loopF ZY.E Tryz.f46.ntmps [1,0,1,0] [] (V.codeOf Tryz.f46) (ZY.kt x0)) n (ZY.s4 x0 v4_1)=ZY.l4 x0 n v4_1:=by
 intro n
 induction n with
 |zero=>intros;rw[V.loopN_z];rfl
 |succ n ih=>
  intro v4_1
  rw[V.loopN_s,ZY.r4]
  simp only[ih]
  first|exact(ZY.u4 ..).symm|rfl
theorem ZY.v (x0:List Z4):V.evBody ZY.E ZY.con Tryz.f46 ((x0):List Z4)=ZY.b x0 (fun v4_1=>V.loopN (V.loopF ZY.E Tryz.f46.ntmps [1,0,1,0] [] (V.codeOf Tryz.f46) (ZY.kt x0)) V.KK (ZY.s4 x0 v4_1)):=by kernel_rfl
theorem ZY.eq (x0:List Z4):V.evBody ZY.E ZY.con Tryz.f46 ((x0):List Z4)=ZY x0:=by
 rw[ZY.v]
 simp only[ZY.e4]
 rfl
theorem ZY.ok :V.Valid Tryz.prog 46 ZY.con:=
 V.fo (V.tab_cons WE.ok (V.tab_cons W0.ok V.tab_nil)) Tryz.func46 (by kernel_rfl) (fun x y h=>(show V.evBody ZY.E ZY.con Tryz.f46 x=_ from ZY.eq x).trans (V.cfl (by kernel_rfl) h))
noncomputable abbrev YI.con :V.Con:=⟨(.cons (.sl V.eEntry) .nil),(.cons (.sl V.eEntry) .nil),fun(x:List Z4)=>YI x,[],[(false,1)],[(false,1)],[true],[]⟩
noncomputable abbrev YI.E :V.Env:=V.mkE V.tys [(93,XP.con)] [(6,[0,3,4],[(64000038400192,V.eEntry,true)])] [] [] [] []
noncomputable abbrev YI.kt (x0:List Z4):V.Kt (List Z4):=V.ktOf YI.E YI.con Tryz.f94 ((x0):List Z4)
noncomputable abbrev YI.s6 (x0:List Z4)(v6_1:Int)(v6_2:List Z4):V.St:=⟨[(0, .v false [.val (.sl V.eEntry x0)]),(3, .v false [.ref 64000038400192]),(4, .v false [.vi (v6_1)])],[(64000038400192, .row V.eEntry true v6_2)]⟩
theorem YI.r6 (x0:List Z4)(R:V.St→Option (List Z4))(v6_1:Int)(v6_2:List Z4):V.loopF YI.E Tryz.f94.ntmps [1,1,0,1,0] [] (V.codeOf Tryz.f94) (YI.kt x0) R (YI.s6 x0 v6_1 v6_2)=YI.g6 x0 (fun v6_1 v6_2=>R (YI.s6 x0 v6_1 v6_2)) v6_1 v6_2:=by kernel_rfl
theorem YI.e6 (x0:List Z4):∀(n:Nat) (v6_1:Int) (v6_2:List Z4),V.loopN (V.loopF YI.E Tryz.f94.ntmps [1,1,0,1,0] [] (V.codeOf Tryz.f94) (YI.kt x0)) n (YI.s6 x0 v6_1 v6_2)=YI.l6 x0 n v6_1 v6_2:=by
 intro n
 induction n with
 |zero=>intros;rw[V.loopN_z];rfl
 |succ n ih=>
  intro v6_1 v6_2
  rw[V.loopN_s,YI.r6]
  simp only[ih]
  first|exact(YI.u6 ..).symm|rfl
theorem YI.v (x0:List Z4):V.evBody YI.E YI.con Tryz.f94 ((x0):List Z4)=YI.b x0 (fun v6_1 v6_2=>V.loopN (V.loopF YI.E Tryz.f94.ntmps [1,1,0,1,0] [] (V.codeOf Tryz.f94) (YI.kt x0)) V.KK (YI.s6 x0 v6_1 v6_2)):=by kernel_rfl
theorem YI.eq (x0:List Z4):V.evBody YI.E YI.con Tryz.f94 ((x0):List Z4)=YI x0:=by
 rw[YI.v]
 simp only[YI.e6]
 rfl
theorem YI.ok :V.Valid Tryz.prog 94 YI.con:=
 V.fo (V.tab_cons XP.ok V.tab_nil) Tryz.func94 (by kernel_rfl) (fun x y h=>(show V.evBody YI.E YI.con Tryz.f94 x=_ from YI.eq x).trans (V.cfl (by kernel_rfl) h))
noncomputable abbrev Zi.con :V.Con:=⟨(.cons (.sl V.eEntry) (.cons .str (V.ci (V.ci (.cons (.sl (.cons .str .nil)) .nil))))),(.cons (.sl V.eEntry) (.cons .bool .nil)),fun(x:List Z4×ByteArray×Int×Int×List ByteArray)=>Zi x.1 x.2,[],[(false,1),(true,4)],[(false,1),(false,1)],[true,false],[]⟩
noncomputable abbrev Zi.E :V.Env:=V.mkE V.tys [(46,ZY.con),(82,W0.con),(93,XP.con),(94,YI.con)] [(8,[0,3,6,7,8],[(64000051200384,V.eEntry,true)]),(17,[0,3,6,7,8,9,30],[]),(21,[0,3,6,7,8,9],[]),(29,[0,6],[]),(31,[0,6,60],[])] [(6,7)] [] [] []
noncomputable abbrev Zi.kt (x0:List Z4)(x1:Z4):V.Kt (List Z4×Bool):=V.ktOf Zi.E Zi.con Tryz.f56 ((x0,x1.1,x1.2.1,x1.2.2.1,x1.2.2.2):List Z4×ByteArray×Int×Int×List ByteArray)
noncomputable abbrev Zi.s21 (x0:List Z4)(x1:Z4)(v8_2:Int)(y1:Int)(v21_1:Bool)(v21_8:List Z4):V.St:=⟨[(0, .v false [.val (.sl V.eEntry x0)]),(3, .v false [.ptr 64000 0]),(6, .v false [.ref 64000134400384]),(7, .v false [.val (.bool v21_1)]),(8, .v false [.vi (v8_2)]),(9, .v false [.vi (y1)])],[(64000, .box [.val (.str x1.1), .vi (x1.2.1), .vi (x1.2.2.1), .val (.sl (.cons .str .nil) x1.2.2.2)]),(64000134400384, .row V.eEntry true v21_8)]⟩
noncomputable abbrev Zi.s17 (x0:List Z4)(x1:Z4)(v8_1:Bool)(v8_2:Int)(v8_7:List Z4)(y1:Int)(v17_4:Bool):V.St:=⟨[(0, .v false [.val (.sl V.eEntry x0)]),(3, .v false [.ptr 64000 0]),(6, .v false [.ref 64000108800384]),(7, .v false [.val (.bool v8_1)]),(8, .v false [.vi (v8_2)]),(9, .v false [.vi (y1)]),(30, .v false [.val (.bool v17_4)])],[(64000, .box [.val (.str x1.1), .vi (x1.2.1), .vi (x1.2.2.1), .val (.sl (.cons .str .nil) x1.2.2.2)]),(64000108800384, .row V.eEntry true v8_7)]⟩
noncomputable abbrev Zi.s31 (x0:List Z4)(v29_1:List Z4)(v31_1:Bool):V.St:=⟨[(0, .v false [.val (.sl V.eEntry x0)]),(6, .v false [.ref 64000198400384]),(60, .v false [.val (.bool v31_1)])],[(64000198400384, .row V.eEntry true v29_1)]⟩
noncomputable abbrev Zi.s29 (x0:List Z4)(v29_1:List Z4):V.St:=⟨[(0, .v false [.val (.sl V.eEntry x0)]),(6, .v false [.ref 64000185600384])],[(64000185600384, .row V.eEntry true v29_1)]⟩
noncomputable abbrev Zi.s8 (x0:List Z4)(x1:Z4)(v8_1:Bool)(v8_2:Int)(v8_7:List Z4):V.St:=⟨[(0, .v false [.val (.sl V.eEntry x0)]),(3, .v false [.ptr 64000 0]),(6, .v false [.ref 64000051200384]),(7, .v false [.val (.bool v8_1)]),(8, .v false [.vi (v8_2)])],[(64000, .box [.val (.str x1.1), .vi (x1.2.1), .vi (x1.2.2.1), .val (.sl (.cons .str .nil) x1.2.2.2)]),(64000051200384, .row V.eEntry true v8_7)]⟩
theorem Zi.r21 (x0:List Z4)(x1:Z4)(v8_2:Int)(y1:Int)(R8:V.St→Option (List Z4×Bool))(v21_1:Bool)(v21_8:List Z4):V.joinF Zi.E Tryz.f56.ntmps [1,1,1,0,1,0,0,1,0,0,1] [R8] (V.codeOf Tryz.f56) (Zi.kt x0 x1) (Zi.s21 x0 x1 v8_2 y1 v21_1 v21_8)=Zi.g21 x0 x1 v8_2 y1 (fun v8_1 v8_2 v8_7=>R8 (Zi.s8 x0 x1 v8_1 v8_2 v8_7)) v21_1 v21_8:=by kernel_rfl
theorem Zi.e21 (x0:List Z4)(x1:Z4)(v8_2:Int)(y1:Int)(R8:V.St→Option (List Z4×Bool))(v21_1:Bool)(v21_8:List Z4):V.jn (V.joinF Zi.E Tryz.f56.ntmps [1,1,1,0,1,0,0,1,0,0,1] [R8] (V.codeOf Tryz.f56) (Zi.kt x0 x1)) (Zi.s21 x0 x1 v8_2 y1 v21_1 v21_8)=Zi.l21 x0 x1 v8_2 y1 (fun v8_1 v8_2 v8_7=>R8 (Zi.s8 x0 x1 v8_1 v8_2 v8_7)) v21_1 v21_8:=by
 rw[V.jn_eq,Zi.r21]
 rfl
theorem Zi.r17 (x0:List Z4)(x1:Z4)(v8_1:Bool)(v8_2:Int)(v8_7:List Z4)(y1:Int)(R8:V.St→Option (List Z4×Bool))(v17_4:Bool):V.joinF Zi.E Tryz.f56.ntmps [1,1,1,0,1,0,0,1,0,0,1,0] [R8] (V.codeOf Tryz.f56) (Zi.kt x0 x1) (Zi.s17 x0 x1 v8_1 v8_2 v8_7 y1 v17_4)=Zi.g17 x0 x1 v8_1 v8_2 v8_7 y1 (fun v8_1 v8_2 v8_7=>R8 (Zi.s8 x0 x1 v8_1 v8_2 v8_7)) (fun y1 v21_1 v21_8=>V.jn (V.joinF Zi.E Tryz.f56.ntmps [1,1,1,0,1,0,0,1,0,0,1] [R8] (V.codeOf Tryz.f56) (Zi.kt x0 x1)) (Zi.s21 x0 x1 v8_2 y1 v21_1 v21_8)) v17_4:=by kernel_rfl
theorem Zi.e17 (x0:List Z4)(x1:Z4)(v8_1:Bool)(v8_2:Int)(v8_7:List Z4)(y1:Int)(R8:V.St→Option (List Z4×Bool))(v17_4:Bool):V.jn (V.joinF Zi.E Tryz.f56.ntmps [1,1,1,0,1,0,0,1,0,0,1,0] [R8] (V.codeOf Tryz.f56) (Zi.kt x0 x1)) (Zi.s17 x0 x1 v8_1 v8_2 v8_7 y1 v17_4)=Zi.l17 x0 x1 v8_1 v8_2 v8_7 y1 (fun v8_1 v8_2 v8_7=>R8 (Zi.s8 x0 x1 v8_1 v8_2 v8_7)) v17_4:=by
 rw[V.jn_eq,Zi.r17]
 simp only[Zi.e21]
 rfl
theorem Zi.r31 (x0:List Z4)(x1:Z4)(v29_1:List Z4)(v31_1:Bool):V.joinF Zi.E Tryz.f56.ntmps [1,1,1,1,1,0] [] (V.codeOf Tryz.f56) (Zi.kt x0 x1) (Zi.s31 x0 v29_1 v31_1)=Zi.g31 x0 v29_1 v31_1:=by kernel_rfl
theorem Zi.e31 (x0:List Z4)(x1:Z4)(v29_1:List Z4)(v31_1:Bool):V.jn (V.joinF Zi.E Tryz.f56.ntmps [1,1,1,1,1,0] [] (V.codeOf Tryz.f56) (Zi.kt x0 x1)) (Zi.s31 x0 v29_1 v31_1)=Zi.l31 x0 v29_1 v31_1:=by
 rw[V.jn_eq,Zi.r31]
 rfl
theorem Zi.r29 (x0:List Z4)(x1:Z4)(v29_1:List Z4):V.joinF Zi.E Tryz.f56.ntmps [1,1,1,1] [] (V.codeOf Tryz.f56) (Zi.kt x0 x1) (Zi.s29 x0 v29_1)=Zi.g29 x0 (fun v31_1=>V.jn (V.joinF Zi.E Tryz.f56.ntmps [1,1,1,1,1,0] [] (V.codeOf Tryz.f56) (Zi.kt x0 x1)) (Zi.s31 x0 v29_1 v31_1)) v29_1:=by kernel_rfl
theorem Zi.e29 (x0:List Z4)(x1:Z4)(v29_1:List Z4):V.jn (V.joinF Zi.E Tryz.f56.ntmps [1,1,1,1] [] (V.codeOf Tryz.f56) (Zi.kt x0 x1)) (Zi.s29 x0 v29_1)=Zi.l29 x0 v29_1:=by
 rw[V.jn_eq,Zi.r29]
 simp only[Zi.e31]
 rfl
theorem Zi.r8 (x0:List Z4)(x1:Z4)(R:V.St→Option (List Z4×Bool))(v8_1:Bool)(v8_2:Int)(v8_7:List Z4):V.loopF Zi.E Tryz.f56.ntmps [1,1,1,0,1,0] [] (V.codeOf Tryz.f56) (Zi.kt x0 x1) R (Zi.s8 x0 x1 v8_1 v8_2 v8_7)=Zi.g8 x0 x1 (fun v8_1 v8_2 v8_7=>R (Zi.s8 x0 x1 v8_1 v8_2 v8_7)) (fun y1 v17_4=>V.jn (V.joinF Zi.E Tryz.f56.ntmps [1,1,1,0,1,0,0,1,0,0,1,0] [R] (V.codeOf Tryz.f56) (Zi.kt x0 x1)) (Zi.s17 x0 x1 v8_1 v8_2 v8_7 y1 v17_4)) (fun v29_1=>V.jn (V.joinF Zi.E Tryz.f56.ntmps [1,1,1,1] [] (V.codeOf Tryz.f56) (Zi.kt x0 x1)) (Zi.s29 x0 v29_1)) v8_1 v8_2 v8_7:=by kernel_rfl
theorem Zi.e8 (x0:List Z4)(x1:Z4):∀(n:Nat) (v8_1:Bool) (v8_2:Int) (v8_7:List Z4),V.loopN (V.loopF Zi.E Tryz.f56.ntmps [1,1,1,0,1,0] [] (V.codeOf Tryz.f56) (Zi.kt x0 x1)) n (Zi.s8 x0 x1 v8_1 v8_2 v8_7)=Zi.l8 x0 x1 n v8_1 v8_2 v8_7:=by
 intro n
 induction n with
 |zero=>intros;rw[V.loopN_z];rfl
 |succ n ih=>
  intro v8_1 v8_2 v8_7
  rw[V.loopN_s,Zi.r8]
  simp only[Zi.e17,Zi.e29,ih]
  first|exact(Zi.u8 ..).symm|rfl
theorem Zi.v (x0:List Z4)(x1:Z4):V.evBody Zi.E Zi.con Tryz.f56 ((x0,x1.1,x1.2.1,x1.2.2.1,x1.2.2.2):List Z4×ByteArray×Int×Int×List ByteArray)=Zi.b x0 x1 (fun v8_1 v8_2 v8_7=>V.loopN (V.loopF Zi.E Tryz.f56.ntmps [1,1,1,0,1,0] [] (V.codeOf Tryz.f56) (Zi.kt x0 x1)) V.KK (Zi.s8 x0 x1 v8_1 v8_2 v8_7)):=by kernel_rfl
theorem Zi.eq (x0:List Z4)(x1:Z4):V.evBody Zi.E Zi.con Tryz.f56 ((x0,x1.1,x1.2.1,x1.2.2.1,x1.2.2.2):List Z4×ByteArray×Int×Int×List ByteArray)=Zi x0 x1:=by
 rw[Zi.v]
 simp only[Zi.e8]
 rfl
theorem Zi.ok :V.Valid Tryz.prog 56 Zi.con:=
 V.fo (V.tab_cons ZY.ok (V.tab_cons W0.ok (V.tab_cons XP.ok (V.tab_cons YI.ok V.tab_nil)))) Tryz.func56 (by kernel_rfl) (fun x y h=>(show V.evBody Zi.E Zi.con Tryz.f56 x=_ from Zi.eq x.1 x.2).trans (V.cfl (by kernel_rfl) h))
noncomputable abbrev Y6.con :V.Con:=⟨(.cons (.ptr (.cons (.sl (.cons (.int .u8) .nil)) (V.ci (V.ci .nil)))) .nil),(.cons (.ptr (.cons (.sl (.cons (.int .u8) .nil)) (V.ci (V.ci .nil)))) (.cons (.sl V.eEntry) .nil)),fun(x:(Z3))=>Y6 x,[(0,false)],[(false,1)],[(false,1)],[true],[]⟩
noncomputable abbrev Y6.E :V.Env:=V.mkE V.tys [(39,Zm.con),(56,Zi.con),(90,W6.con)] [(6,[0,3,4],[(64000038400192,V.eEntry,true)])] [] [] [] []
noncomputable abbrev Y6.kt (x0:(Z3)):V.Kt ((Z3)×List Z4):=V.ktOf Y6.E Y6.con Tryz.f54 ((x0):(Z3))
noncomputable abbrev Y6.s6 (x0:(Z3))(v6_0:Int)(v6_2:Int)(v6_3:Int)(v6_4:List Z4):V.St:=⟨[(0, .v false [.ptr 0 0]),(3, .v false [.ref 64000038400192]),(4, .v false [.vi (v6_0)])],[(0, .box [.val (.sl (.cons (.int .u8) .nil) x0.1), .vi (v6_2), .vi (v6_3)]),(64000038400192, .row V.eEntry true v6_4)]⟩
theorem Y6.r6 (x0:(Z3))(R:V.St→Option ((Z3)×List Z4))(v6_0:Int)(v6_2:Int)(v6_3:Int)(v6_4:List Z4):V.loopF Y6.E Tryz.f54.ntmps [1,1,0,1,0] [] (V.codeOf Tryz.f54) (Y6.kt x0) R (Y6.s6 x0 v6_0 v6_2 v6_3 v6_4)=Y6.g6 x0 (fun v6_0 v6_2 v6_3 v6_4=>R (Y6.s6 x0 v6_0 v6_2 v6_3 v6_4)) v6_0 v6_2 v6_3 v6_4:=by kernel_rfl
theorem Y6.e6 (x0:(Z3)):∀(n:Nat) (v6_0:Int) (v6_2:Int) (v6_3:Int) (v6_4:List Z4),V.loopN (V.loopF Y6.E Tryz.f54.ntmps [1,1,0,1,0] [] (V.codeOf Tryz.f54) (Y6.kt x0)) n (Y6.s6 x0 v6_0 v6_2 v6_3 v6_4)=Y6.l6 x0 n v6_0 v6_2 v6_3 v6_4:=by
 intro n
 induction n with
 |zero=>intros;rw[V.loopN_z];rfl
 |succ n ih=>
  intro v6_0 v6_2 v6_3 v6_4
  rw[V.loopN_s,Y6.r6]
  simp only[ih]
  first|exact(Y6.u6 ..).symm|rfl
theorem Y6.v (x0:(Z3)):V.evBody Y6.E Y6.con Tryz.f54 ((x0):(Z3))=Y6.b x0 (fun v6_0 v6_2 v6_3 v6_4=>V.loopN (V.loopF Y6.E Tryz.f54.ntmps [1,1,0,1,0] [] (V.codeOf Tryz.f54) (Y6.kt x0)) V.KK (Y6.s6 x0 v6_0 v6_2 v6_3 v6_4)):=by kernel_rfl
theorem Y6.eq (x0:(Z3)):V.evBody Y6.E Y6.con Tryz.f54 ((x0):(Z3))=Y6 x0:=by
 rw[Y6.v]
 simp only[Y6.e6]
 rfl
theorem Y6.ok :V.Valid Tryz.prog 54 Y6.con:=
 V.fo (V.tab_cons Zm.ok (V.tab_cons Zi.ok (V.tab_cons W6.ok V.tab_nil))) Tryz.func54 (by kernel_rfl) (fun x y h=>(show V.evBody Y6.E Y6.con Tryz.f54 x=_ from Y6.eq x).trans (V.cfl (by kernel_rfl) h))
noncomputable abbrev XG.con :V.Con:=⟨(.cons (.sl (V.ci .nil)) (V.ci .nil)),(.cons (.sl (V.ci .nil)) .nil),fun(x:List Int×Int)=>XG x,[],[(true,2)],[(false,1)],[true],[]⟩
noncomputable abbrev XG.E :V.Env:=V.mkE V.tys [] [] [] [] [] []
theorem XG.eq (x0:Z5):V.evBody XG.E XG.con Tryz.f146 ((x0.1,x0.2):List Int×Int)=XG x0:=by kernel_rfl
theorem XG.ok :V.Valid Tryz.prog 146 XG.con:=
 V.fo V.tab_nil Tryz.func146 (by kernel_rfl) (fun x y h=>(show V.evBody XG.E XG.con Tryz.f146 x=_ from XG.eq x).trans (V.cfl (by kernel_rfl) h))
noncomputable abbrev WI.con :V.Con:=⟨(V.ci (V.ci .nil)),(V.ci .nil),fun(x:Int×Int)=>WI x.1 x.2,[],[(false,1),(false,1)],[(false,1)],[false],[]⟩
noncomputable abbrev WI.E :V.Env:=V.mkE V.tys [(78,Yg.con)] [] [] [] [] []
theorem WI.eq (x0:Int)(x1:Int):V.evBody WI.E WI.con Tryz.f145 ((x0,x1):Int×Int)=WI x0 x1:=by kernel_rfl
theorem WI.ok :V.Valid Tryz.prog 145 WI.con:=
 V.fo (V.tab_cons Yg.ok V.tab_nil) Tryz.func145 (by kernel_rfl) (fun x y h=>(show V.evBody WI.E WI.con Tryz.f145 x=_ from WI.eq x.1 x.2).trans (V.cfl (by kernel_rfl) h))
noncomputable abbrev ZG.con :V.Con:=⟨(.cons (.sl (V.ci .nil)) .nil),(V.ci .nil),fun(x:List Int)=>ZG x,[],[(false,1)],[(false,1)],[false],[]⟩
noncomputable abbrev ZG.E :V.Env:=V.mkE V.tys [(145,WI.con)] [(6,[0,3,4],[])] [] [] [] []
noncomputable abbrev ZG.kt (x0:List Int):V.Kt Int:=V.ktOf ZG.E ZG.con Tryz.f115 ((x0):List Int)
noncomputable abbrev ZG.s6 (x0:List Int)(v6_1:Int)(v6_2:Int):V.St:=⟨[(0, .v false [.val (.sl (V.ci .nil) x0)]),(3, .v false [.vi (v6_1)]),(4, .v false [.vi (v6_2)])],[]⟩
theorem ZG.r6 (x0:List Int)(R:V.St→Option Int)(v6_1:Int)(v6_2:Int):V.loopF ZG.E Tryz.f115.ntmps [1,1,0,1,0] [] (V.codeOf Tryz.f115) (ZG.kt x0) R (ZG.s6 x0 v6_1 v6_2)=ZG.g6 x0 (fun v6_1 v6_2=>R (ZG.s6 x0 v6_1 v6_2)) v6_1 v6_2:=by kernel_rfl
theorem ZG.e6 (x0:List Int):∀(n:Nat) (v6_1:Int) (v6_2:Int),V.loopN (V.loopF ZG.E Tryz.f115.ntmps [1,1,0,1,0] [] (V.codeOf Tryz.f115) (ZG.kt x0)) n (ZG.s6 x0 v6_1 v6_2)=ZG.l6 x0 n v6_1 v6_2:=by
 intro n
 induction n with
 |zero=>intros;rw[V.loopN_z];rfl
 |succ n ih=>
  intro v6_1 v6_2
  rw[V.loopN_s,ZG.r6]
  simp only[ih]
  first|exact(ZG.u6 ..).symm|rfl
theorem ZG.v (x0:List Int):V.evBody ZG.E ZG.con Tryz.f115 ((x0):List Int)=ZG.b x0 (fun v6_1 v6_2=>V.loopN (V.loopF ZG.E Tryz.f115.ntmps [1,1,0,1,0] [] (V.codeOf Tryz.f115) (ZG.kt x0)) V.KK (ZG.s6 x0 v6_1 v6_2)):=by kernel_rfl
theorem ZG.eq (x0:List Int):V.evBody ZG.E ZG.con Tryz.f115 ((x0):List Int)=ZG x0:=by
 rw[ZG.v]
 simp only[ZG.e6]
 rfl
theorem ZG.ok :V.Valid Tryz.prog 115 ZG.con:=
 V.fo (V.tab_cons WI.ok V.tab_nil) Tryz.func115 (by kernel_rfl) (fun x y h=>(show V.evBody ZG.E ZG.con Tryz.f115 x=_ from ZG.eq x).trans (V.cfl (by kernel_rfl) h))
noncomputable abbrev W3.con :V.Con:=⟨(.cons (.sl (V.ci .nil)) (V.ci (V.ci .nil))),(V.ci .nil),fun(x:List Int×Int×Int)=>W3 (x.1,x.2.1) x.2.2,[],[(true,2),(false,1)],[(false,1)],[false],[]⟩
noncomputable abbrev W3.E :V.Env:=V.mkE V.tys [(115,ZG.con),(146,XG.con)] [] [] [] [] []
theorem W3.eq (x0:Z5)(x1:Int):V.evBody W3.E W3.con Tryz.f149 ((x0.1,x0.2,x1):List Int×Int×Int)=W3 x0 x1:=by kernel_rfl
theorem W3.ok :V.Valid Tryz.prog 149 W3.con:=
 V.fo (V.tab_cons ZG.ok (V.tab_cons XG.ok V.tab_nil)) Tryz.func149 (by kernel_rfl) (fun x y h=>(show V.evBody W3.E W3.con Tryz.f149 x=_ from W3.eq (x.1,x.2.1) x.2.2).trans (V.cfl (by kernel_rfl) h))
noncomputable abbrev YF.con :V.Con:=⟨(.cons (.sl (.cons (.int .u8) .nil)) .nil),(.cons (.sl (V.ci .nil)) .nil),fun(x:List Int)=>YF x,[],[(false,1)],[(false,1)],[true],[]⟩
noncomputable abbrev YF.E :V.Env:=V.mkE V.tys [] [(6,[0,3,4],[])] [] [] [] []
noncomputable abbrev YF.kt (x0:List Int):V.Kt (List Int):=V.ktOf YF.E YF.con Tryz.f171 ((x0):List Int)
noncomputable abbrev YF.s6 (x0:List Int)(v6_1:Int)(v6_2:List Int):V.St:=⟨[(0, .v false [.val (.sl (.cons (.int .u8) .nil) x0)]),(3, .v false [.ref 64000038400192]),(4, .v false [.vi (v6_1)])],[(64000038400192, .row (V.ci .nil) true v6_2)]⟩
theorem YF.r6 (x0:List Int)(R:V.St→Option (List Int))(v6_1:Int)(v6_2:List Int):V.loopF YF.E Tryz.f171.ntmps [1,1,0,1,0] [] (V.codeOf Tryz.f171) (YF.kt x0) R (YF.s6 x0 v6_1 v6_2)=YF.g6 x0 (fun v6_1 v6_2=>R (YF.s6 x0 v6_1 v6_2)) v6_1 v6_2:=by kernel_rfl
theorem YF.e6 (x0:List Int):∀(n:Nat) (v6_1:Int) (v6_2:List Int),V.loopN (V.loopF YF.E Tryz.f171.ntmps [1,1,0,1,0] [] (V.codeOf Tryz.f171) (YF.kt x0)) n (YF.s6 x0 v6_1 v6_2)=YF.l6 x0 n v6_1 v6_2:=by
 intro n
 induction n with
 |zero=>intros;rw[V.loopN_z];rfl
 |succ n ih=>
  intro v6_1 v6_2
  rw[V.loopN_s,YF.r6]
  simp only[ih]
  first|exact(YF.u6 ..).symm|rfl
theorem YF.v (x0:List Int):V.evBody YF.E YF.con Tryz.f171 ((x0):List Int)=YF.b x0 (fun v6_1 v6_2=>V.loopN (V.loopF YF.E Tryz.f171.ntmps [1,1,0,1,0] [] (V.codeOf Tryz.f171) (YF.kt x0)) V.KK (YF.s6 x0 v6_1 v6_2)):=by kernel_rfl
theorem YF.eq (x0:List Int):V.evBody YF.E YF.con Tryz.f171 ((x0):List Int)=YF x0:=by
 rw[YF.v]
 simp only[YF.e6]
 rfl
theorem YF.ok :V.Valid Tryz.prog 171 YF.con:=
 V.fo V.tab_nil Tryz.func171 (by kernel_rfl) (fun x y h=>(show V.evBody YF.E YF.con Tryz.f171 x=_ from YF.eq x).trans (V.cfl (by kernel_rfl) h))
noncomputable abbrev Wa.con :V.Con:=⟨(.cons .str .nil),(.cons (.sl (V.ci .nil)) .nil),fun(x:ByteArray)=>Wa x,[],[(false,1)],[(false,1)],[true],[]⟩
noncomputable abbrev Wa.E :V.Env:=V.mkE V.tys [(171,YF.con)] [] [] [] [] []
theorem Wa.eq (x0:ByteArray):V.evBody Wa.E Wa.con Tryz.f160 ((x0):ByteArray)=Wa x0:=by kernel_rfl
theorem Wa.ok :V.Valid Tryz.prog 160 Wa.con:=
 V.fo (V.tab_cons YF.ok V.tab_nil) Tryz.func160 (by kernel_rfl) (fun x y h=>(show V.evBody Wa.E Wa.con Tryz.f160 x=_ from Wa.eq x).trans (V.cfl (by kernel_rfl) h))
noncomputable abbrev YG.con :V.Con:=⟨V.eEntry,(.cons (.sl (V.ci .nil)) .nil),fun(x:ByteArray×Int×Int×List ByteArray)=>YG x,[],[(true,4)],[(false,1)],[true],[]⟩
noncomputable abbrev YG.E :V.Env:=V.mkE V.tys [(160,Wa.con)] [(6,[1,3,4],[])] [(1,11)] [] [] []
noncomputable abbrev YG.kt (x0:Z4):V.Kt (List Int):=V.ktOf YG.E YG.con Tryz.f148 ((x0.1,x0.2.1,x0.2.2.1,x0.2.2.2):ByteArray×Int×Int×List ByteArray)
noncomputable abbrev YG.s6 (x0:Z4)(v6_0:Int)(v6_5:List Int):V.St:=⟨[(1, .v false [.ptr 64000 0]),(3, .v false [.ref 64000038400192]),(4, .v false [.vi (v6_0)])],[(64000, .box [.val (.str x0.1), .vi (x0.2.1), .vi (x0.2.2.1), .val (.sl (.cons .str .nil) x0.2.2.2)]),(64000038400192, .row (V.ci .nil) true v6_5)]⟩
theorem YG.r6 (x0:Z4)(R:V.St→Option (List Int))(v6_0:Int)(v6_5:List Int):V.loopF YG.E Tryz.f148.ntmps [1,1,0,1,0] [] (V.codeOf Tryz.f148) (YG.kt x0) R (YG.s6 x0 v6_0 v6_5)=YG.g6 x0 (fun v6_0 v6_5=>R (YG.s6 x0 v6_0 v6_5)) v6_0 v6_5:=by kernel_rfl
theorem YG.e6 (x0:Z4):∀(n:Nat) (v6_0:Int) (v6_5:List Int),V.loopN (V.loopF YG.E Tryz.f148.ntmps [1,1,0,1,0] [] (V.codeOf Tryz.f148) (YG.kt x0)) n (YG.s6 x0 v6_0 v6_5)=YG.l6 x0 n v6_0 v6_5:=by
 intro n
 induction n with
 |zero=>intros;rw[V.loopN_z];rfl
 |succ n ih=>
  intro v6_0 v6_5
  rw[V.loopN_s,YG.r6]
  simp only[ih]
  first|exact(YG.u6 ..).symm|rfl
theorem YG.v (x0:Z4):V.evBody YG.E YG.con Tryz.f148 ((x0.1,x0.2.1,x0.2.2.1,x0.2.2.2):ByteArray×Int×Int×List ByteArray)=YG.b x0 (fun v6_0 v6_5=>V.loopN (V.loopF YG.E Tryz.f148.ntmps [1,1,0,1,0] [] (V.codeOf Tryz.f148) (YG.kt x0)) V.KK (YG.s6 x0 v6_0 v6_5)):=by kernel_rfl
theorem YG.eq (x0:Z4):V.evBody YG.E YG.con Tryz.f148 ((x0.1,x0.2.1,x0.2.2.1,x0.2.2.2):ByteArray×Int×Int×List ByteArray)=YG x0:=by
 rw[YG.v]
 simp only[YG.e6]
 rfl
theorem YG.ok :V.Valid Tryz.prog 148 YG.con:=
 V.fo (V.tab_cons Wa.ok V.tab_nil) Tryz.func148 (by kernel_rfl) (fun x y h=>(show V.evBody YG.E YG.con Tryz.f148 x=_ from YG.eq x).trans (V.cfl (by kernel_rfl) h))
noncomputable abbrev Wh.con :V.Con:=⟨V.eEntry,(V.ci .nil),fun(x:ByteArray×Int×Int×List ByteArray)=>Wh x,[],[(true,4)],[(false,1)],[false],[]⟩
noncomputable abbrev Wh.E :V.Env:=V.mkE V.tys [(115,ZG.con),(148,YG.con)] [] [] [] [] []
theorem Wh.eq (x0:Z4):V.evBody Wh.E Wh.con Tryz.f120 ((x0.1,x0.2.1,x0.2.2.1,x0.2.2.2):ByteArray×Int×Int×List ByteArray)=Wh x0:=by kernel_rfl
theorem Wh.ok :V.Valid Tryz.prog 120 Wh.con:=
 V.fo (V.tab_cons ZG.ok (V.tab_cons YG.ok V.tab_nil)) Tryz.func120 (by kernel_rfl) (fun x y h=>(show V.evBody Wh.E Wh.con Tryz.f120 x=_ from Wh.eq x).trans (V.cfl (by kernel_rfl) h))
noncomputable abbrev YH.con :V.Con:=⟨(.cons (.sl V.eEntry) .nil),(.cons (.sl (V.ci .nil)) .nil),fun(x:List Z4)=>YH x,[],[(false,1)],[(false,1)],[true],[]⟩
noncomputable abbrev YH.E :V.Env:=V.mkE V.tys [(120,Wh.con)] [(6,[0,3,4],[(64000038400192,(V.ci .nil),true)])] [] [] [] []
noncomputable abbrev YH.kt (x0:List Z4):V.Kt (List Int):=V.ktOf YH.E YH.con Tryz.f85 ((x0):List Z4)
noncomputable abbrev YH.s6 (x0:List Z4)(v6_1:Int)(v6_2:List Int):V.St:=⟨[(0, .v false [.val (.sl V.eEntry x0)]),(3, .v false [.ref 64000038400192]),(4, .v false [.vi (v6_1)])],[(64000038400192, .row (V.ci .nil) true v6_2)]⟩
theorem YH.r6 (x0:List Z4)(R:V.St→Option (List Int))(v6_1:Int)(v6_2:List Int):V.loopF YH.E Tryz.f85.ntmps [1,1,0,1,0] [] (V.codeOf Tryz.f85) (YH.kt x0) R (YH.s6 x0 v6_1 v6_2)=YH.g6 x0 (fun v6_1 v6_2=>R (YH.s6 x0 v6_1 v6_2)) v6_1 v6_2:=by kernel_rfl
theorem YH.e6 (x0:List Z4):∀(n:Nat) (v6_1:Int) (v6_2:List Int),V.loopN (V.loopF YH.E Tryz.f85.ntmps [1,1,0,1,0] [] (V.codeOf Tryz.f85) (YH.kt x0)) n (YH.s6 x0 v6_1 v6_2)=YH.l6 x0 n v6_1 v6_2:=by
 intro n
 induction n with
 |zero=>intros;rw[V.loopN_z];rfl
 |succ n ih=>
  intro v6_1 v6_2
  rw[V.loopN_s,YH.r6]
  simp only[ih]
  first|exact(YH.u6 ..).symm|rfl
theorem YH.v (x0:List Z4):V.evBody YH.E YH.con Tryz.f85 ((x0):List Z4)=YH.b x0 (fun v6_1 v6_2=>V.loopN (V.loopF YH.E Tryz.f85.ntmps [1,1,0,1,0] [] (V.codeOf Tryz.f85) (YH.kt x0)) V.KK (YH.s6 x0 v6_1 v6_2)):=by kernel_rfl
theorem YH.eq (x0:List Z4):V.evBody YH.E YH.con Tryz.f85 ((x0):List Z4)=YH x0:=by
 rw[YH.v]
 simp only[YH.e6]
 rfl
theorem YH.ok :V.Valid Tryz.prog 85 YH.con:=
 V.fo (V.tab_cons Wh.ok V.tab_nil) Tryz.func85 (by kernel_rfl) (fun x y h=>(show V.evBody YH.E YH.con Tryz.f85 x=_ from YH.eq x).trans (V.cfl (by kernel_rfl) h))
noncomputable abbrev WJ.con :V.Con:=⟨(V.ci (V.ci .nil)),(V.ci .nil),fun(x:Int×Int)=>WJ x.1 x.2,[],[(false,1),(false,1)],[(false,1)],[false],[]⟩
noncomputable abbrev WJ.E :V.Env:=V.mkE V.tys [(115,ZG.con)] [] [] [] [] []
theorem WJ.eq (x0:Int)(x1:Int):V.evBody WJ.E WJ.con Tryz.f147 ((x0,x1):Int×Int)=WJ x0 x1:=by kernel_rfl
theorem WJ.ok :V.Valid Tryz.prog 147 WJ.con:=
 V.fo (V.tab_cons ZG.ok V.tab_nil) Tryz.func147 (by kernel_rfl) (fun x y h=>(show V.evBody WJ.E WJ.con Tryz.f147 x=_ from WJ.eq x.1 x.2).trans (V.cfl (by kernel_rfl) h))
noncomputable abbrev Yy.con :V.Con:=⟨(.cons (.sl (V.ci .nil)) .nil),(.cons (.sl (V.ci .nil)) .nil),fun(x:List Int)=>Yy x,[],[(false,1)],[(false,1)],[true],[]⟩
noncomputable abbrev Yy.E :V.Env:=V.mkE V.tys [(147,WJ.con)] [(6,[0,3,4],[(64000038400192,(V.ci .nil),true)])] [(6,12)] [] [] []
noncomputable abbrev Yy.kt (x0:List Int):V.Kt (List Int):=V.ktOf Yy.E Yy.con Tryz.f119 ((x0):List Int)
noncomputable abbrev Yy.s6 (x0:List Int)(v6_1:Int)(v6_2:List Int):V.St:=⟨[(0, .v false [.val (.sl (V.ci .nil) x0)]),(3, .v false [.ref 64000038400192]),(4, .v false [.vi (v6_1)])],[(64000038400192, .row (V.ci .nil) true v6_2)]⟩
theorem Yy.r6 (x0:List Int)(R:V.St→Option (List Int))(v6_1:Int)(v6_2:List Int):V.loopF Yy.E Tryz.f119.ntmps [1,1,0,1,0] [] (V.codeOf Tryz.f119) (Yy.kt x0) R (Yy.s6 x0 v6_1 v6_2)=Yy.g6 x0 (fun v6_1 v6_2=>R (Yy.s6 x0 v6_1 v6_2)) v6_1 v6_2:=by kernel_rfl
theorem Yy.e6 (x0:List Int):∀(n:Nat) (v6_1:Int) (v6_2:List Int),V.loopN (V.loopF Yy.E Tryz.f119.ntmps [1,1,0,1,0] [] (V.codeOf Tryz.f119) (Yy.kt x0)) n (Yy.s6 x0 v6_1 v6_2)=Yy.l6 x0 n v6_1 v6_2:=by
 intro n
 induction n with
 |zero=>intros;rw[V.loopN_z];rfl
 |succ n ih=>
  intro v6_1 v6_2
  rw[V.loopN_s,Yy.r6]
  simp only[ih]
  first|exact(Yy.u6 ..).symm|rfl
theorem Yy.v (x0:List Int):V.evBody Yy.E Yy.con Tryz.f119 ((x0):List Int)=Yy.b x0 (fun v6_1 v6_2=>V.loopN (V.loopF Yy.E Tryz.f119.ntmps [1,1,0,1,0] [] (V.codeOf Tryz.f119) (Yy.kt x0)) V.KK (Yy.s6 x0 v6_1 v6_2)):=by kernel_rfl
theorem Yy.eq (x0:List Int):V.evBody Yy.E Yy.con Tryz.f119 ((x0):List Int)=Yy x0:=by
 rw[Yy.v]
 simp only[Yy.e6]
 rfl
theorem Yy.ok :V.Valid Tryz.prog 119 Yy.con:=
 V.fo (V.tab_cons WJ.ok V.tab_nil) Tryz.func119 (by kernel_rfl) (fun x y h=>(show V.evBody Yy.E Yy.con Tryz.f119 x=_ from Yy.eq x).trans (V.cfl (by kernel_rfl) h))
noncomputable abbrev Yx.con :V.Con:=⟨(.cons (.sl (V.ci .nil)) .nil),(V.ci .nil),fun(x:List Int)=>Yx x,[],[(false,1)],[(false,1)],[false],[]⟩
noncomputable abbrev Yx.E :V.Env:=V.mkE V.tys [(115,ZG.con),(119,Yy.con)] [(8,[3],[(3,(V.ci .nil),false)])] [] [] [] []
noncomputable abbrev Yx.kt (x0:List Int):V.Kt Int:=V.ktOf Yx.E Yx.con Tryz.f84 ((x0):List Int)
noncomputable abbrev Yx.s8 (v8_0:List Int):V.St:=⟨[(3, .v false [.val (.sl (V.ci .nil) v8_0)])],[]⟩
theorem Yx.r8 (x0:List Int)(R:V.St→Option Int)(v8_0:List Int):V.loopF Yx.E Tryz.f84.ntmps [1,1,1,0,0] [] (V.codeOf Tryz.f84) (Yx.kt x0) R (Yx.s8 v8_0)=Yx.g8 (fun v8_0=>R (Yx.s8 v8_0)) v8_0:=by kernel_rfl
theorem Yx.e8 (x0:List Int):∀(n:Nat) (v8_0:List Int),V.loopN (V.loopF Yx.E Tryz.f84.ntmps [1,1,1,0,0] [] (V.codeOf Tryz.f84) (Yx.kt x0)) n (Yx.s8 v8_0)=Yx.l8 n v8_0:=by
 intro n
 induction n with
 |zero=>intros;rw[V.loopN_z];rfl
 |succ n ih=>
  intro v8_0
  rw[V.loopN_s,Yx.r8]
  simp only[ih]
  first|exact(Yx.u8 ..).symm|rfl
theorem Yx.v (x0:List Int):V.evBody Yx.E Yx.con Tryz.f84 ((x0):List Int)=Yx.b x0 (fun v8_0=>V.loopN (V.loopF Yx.E Tryz.f84.ntmps [1,1,1,0,0] [] (V.codeOf Tryz.f84) (Yx.kt x0)) V.KK (Yx.s8 v8_0)):=by kernel_rfl
theorem Yx.eq (x0:List Int):V.evBody Yx.E Yx.con Tryz.f84 ((x0):List Int)=Yx x0:=by
 rw[Yx.v]
 simp only[Yx.e8]
 rfl
theorem Yx.ok :V.Valid Tryz.prog 84 Yx.con:=
 V.fo (V.tab_cons ZG.ok (V.tab_cons Yy.ok V.tab_nil)) Tryz.func84 (by kernel_rfl) (fun x y h=>(show V.evBody Yx.E Yx.con Tryz.f84 x=_ from Yx.eq x).trans (V.cfl (by kernel_rfl) h))
noncomputable abbrev WZ.con :V.Con:=⟨(V.ci (V.ci .nil)),(V.ci .nil),fun(x:Int×Int)=>WZ x.1 x.2,[],[(false,1),(false,1)],[(false,1)],[false],[]⟩
noncomputable abbrev WZ.E :V.Env:=V.mkE V.tys [(115,ZG.con)] [] [] [] [] []
theorem WZ.eq (x0:Int)(x1:Int):V.evBody WZ.E WZ.con Tryz.f83 ((x0,x1):Int×Int)=WZ x0 x1:=by kernel_rfl
theorem WZ.ok :V.Valid Tryz.prog 83 WZ.con:=
 V.fo (V.tab_cons ZG.ok V.tab_nil) Tryz.func83 (by kernel_rfl) (fun x y h=>(show V.evBody WZ.E WZ.con Tryz.f83 x=_ from WZ.eq x.1 x.2).trans (V.cfl (by kernel_rfl) h))
noncomputable abbrev XN.con :V.Con:=⟨(.cons (.sl V.eEntry) .nil),(V.ci .nil),fun(x:List Z4)=>XN x,[],[(false,1)],[(false,1)],[false],[]⟩
noncomputable abbrev XN.E :V.Env:=V.mkE V.tys [(83,WZ.con),(84,Yx.con),(85,YH.con)] [] [] [] [] []
theorem XN.eq (x0:List Z4):V.evBody XN.E XN.con Tryz.f47 ((x0):List Z4)=XN x0:=by kernel_rfl
theorem XN.ok :V.Valid Tryz.prog 47 XN.con:=
 V.fo (V.tab_cons WZ.ok (V.tab_cons Yx.ok (V.tab_cons YH.ok V.tab_nil))) Tryz.func47 (by kernel_rfl) (fun x y h=>(show V.evBody XN.E XN.con Tryz.f47 x=_ from XN.eq x).trans (V.cfl (by kernel_rfl) h))
noncomputable abbrev X3.con :V.Con:=⟨(.cons (.sl (V.ci .nil)) (V.ci .nil)),(.cons (.sl (V.ci .nil)) (V.ci .nil)),fun(x:List Int×Int)=>X3 x,[],[(true,2)],[(true,2)],[true,false],[]⟩
noncomputable abbrev X3.E :V.Env:=V.mkE V.tys [] [] [(1,6)] [] [] []
theorem X3.eq (x0:Z5):V.evBody X3.E X3.con Tryz.f49 ((x0.1,x0.2):List Int×Int)=X3 x0:=by kernel_rfl
theorem X3.ok :V.Valid Tryz.prog 49 X3.con:=
 V.fo V.tab_nil Tryz.func49 (by kernel_rfl) (fun x y h=>(show V.evBody X3.E X3.con Tryz.f49 x=_ from X3.eq x).trans (V.cfl (by kernel_rfl) h))
noncomputable abbrev ZU.con :V.Con:=⟨(.cons (.sl (V.ci .nil)) (V.ci .nil)),(.cons .bool .nil),fun(x:List Int×Int)=>ZU x,[],[(true,2)],[(false,1)],[false],[]⟩
noncomputable abbrev ZU.E :V.Env:=V.mkE V.tys [(78,Yg.con)] [(4,[1,3],[])] [(4,22)] [] [] []
noncomputable abbrev ZU.kt (x0:Z5):V.Kt Bool:=V.ktOf ZU.E ZU.con Tryz.f114 ((x0.1,x0.2):List Int×Int)
noncomputable abbrev ZU.s4 (x0:Z5)(v4_0:Int):V.St:=⟨[(1, .v false [.ptr 64000 0]),(3, .v false [.vi (v4_0)])],[(64000, .box [.val (.sl (V.ci .nil) x0.1), .vi (x0.2)])]⟩
theorem ZU.r4 (x0:Z5)(R:V.St→Option Bool)(v4_0:Int):V.loopF ZU.E Tryz.f114.ntmps [1,0,1,0] [] (V.codeOf Tryz.f114) (ZU.kt x0) R (ZU.s4 x0 v4_0)=ZU.g4 x0 (fun v4_0=>R (ZU.s4 x0 v4_0)) v4_0:=by kernel_rfl
theorem ZU.e4 (x0:Z5):∀(n:Nat) (v4_0:Int),V.loopN (V.loopF ZU.E Tryz.f114.ntmps [1,0,1,0] [] (V.codeOf Tryz.f114) (ZU.kt x0)) n (ZU.s4 x0 v4_0)=ZU.l4 x0 n v4_0:=by
 intro n
 induction n with
 |zero=>intros;rw[V.loopN_z];rfl
 |succ n ih=>
  intro v4_0
  rw[V.loopN_s,ZU.r4]
  simp only[ih]
  first|exact(ZU.u4 ..).symm|rfl
theorem ZU.v (x0:Z5):V.evBody ZU.E ZU.con Tryz.f114 ((x0.1,x0.2):List Int×Int)=ZU.b x0 (fun v4_0=>V.loopN (V.loopF ZU.E Tryz.f114.ntmps [1,0,1,0] [] (V.codeOf Tryz.f114) (ZU.kt x0)) V.KK (ZU.s4 x0 v4_0)):=by kernel_rfl
theorem ZU.eq (x0:Z5):V.evBody ZU.E ZU.con Tryz.f114 ((x0.1,x0.2):List Int×Int)=ZU x0:=by
 rw[ZU.v]
 simp only[ZU.e4]
 rfl
theorem ZU.ok :V.Valid Tryz.prog 114 ZU.con:=
 V.fo (V.tab_cons Yg.ok V.tab_nil) Tryz.func114 (by kernel_rfl) (fun x y h=>(show V.evBody ZU.E ZU.con Tryz.f114 x=_ from ZU.eq x).trans (V.cfl (by kernel_rfl) h))
noncomputable abbrev Xx.con :V.Con:=⟨(.cons (.sl (V.ci .nil)) (V.ci .nil)),(.cons .bool .nil),fun(x:List Int×Int)=>Xx x,[],[(true,2)],[(false,1)],[false],[]⟩
noncomputable abbrev Xx.E :V.Env:=V.mkE V.tys [] [] [] [] [] []
theorem Xx.eq (x0:Z5):V.evBody Xx.E Xx.con Tryz.f50 ((x0.1,x0.2):List Int×Int)=Xx x0:=by kernel_rfl
theorem Xx.ok :V.Valid Tryz.prog 50 Xx.con:=
 V.fo V.tab_nil Tryz.func50 (by kernel_rfl) (fun x y h=>(show V.evBody Xx.E Xx.con Tryz.f50 x=_ from Xx.eq x).trans (V.cfl (by kernel_rfl) h))
noncomputable abbrev Zq.con :V.Con:=⟨V.A0,(.cons .bool .nil),fun(x:V.D0)=>Zq (V.p0_0 x),[],[(true,16)],[(false,1)],[false],[]⟩
noncomputable abbrev Zq.E :V.Env:=V.mkE V.tys [(50,Xx.con),(78,Yg.con),(114,ZU.con)] [(7,[1],[]),(11,[1],[]),(21,[1],[])] [] [] [] []
noncomputable abbrev Zq.kt (x0:Z0):V.Kt Bool:=V.ktOf Zq.E Zq.con Tryz.f77 (V.fl0 x0)
noncomputable abbrev Zq.s21 (x0:Z0):V.St:=⟨[(1, .v false [.ptr 64000 0])],[(64000, .box (V.lsHead x0))]⟩
noncomputable abbrev Zq.s11 (x0:Z0):V.St:=⟨[(1, .v false [.ptr 64000 0])],[(64000, .box (V.lsHead x0))]⟩
noncomputable abbrev Zq.s7 (x0:Z0):V.St:=⟨[(1, .v false [.ptr 64000 0])],[(64000, .box (V.lsHead x0))]⟩
theorem Zq.r21 (x0:Z0):V.joinF Zq.E Tryz.f77.ntmps [1,1,1] [] (V.codeOf Tryz.f77) (Zq.kt x0) (Zq.s21 x0)=Zq.g21 x0:=by kernel_rfl
theorem Zq.e21 (x0:Z0):V.jn (V.joinF Zq.E Tryz.f77.ntmps [1,1,1] [] (V.codeOf Tryz.f77) (Zq.kt x0)) (Zq.s21 x0)=Zq.l21 x0:=by
 rw[V.jn_eq,Zq.r21]
 rfl
theorem Zq.r11 (x0:Z0):V.joinF Zq.E Tryz.f77.ntmps [1,1] [] (V.codeOf Tryz.f77) (Zq.kt x0) (Zq.s11 x0)=Zq.g11 x0 (V.jn (V.joinF Zq.E Tryz.f77.ntmps [1,1,1] [] (V.codeOf Tryz.f77) (Zq.kt x0)) (Zq.s21 x0)):=by kernel_rfl
theorem Zq.e11 (x0:Z0):V.jn (V.joinF Zq.E Tryz.f77.ntmps [1,1] [] (V.codeOf Tryz.f77) (Zq.kt x0)) (Zq.s11 x0)=Zq.l11 x0:=by
 rw[V.jn_eq,Zq.r11]
 simp only[Zq.e21]
 rfl
theorem Zq.r7 (x0:Z0):V.joinF Zq.E Tryz.f77.ntmps [1] [] (V.codeOf Tryz.f77) (Zq.kt x0) (Zq.s7 x0)=Zq.g7 x0 (V.jn (V.joinF Zq.E Tryz.f77.ntmps [1,1] [] (V.codeOf Tryz.f77) (Zq.kt x0)) (Zq.s11 x0)):=by kernel_rfl
theorem Zq.e7 (x0:Z0):V.jn (V.joinF Zq.E Tryz.f77.ntmps [1] [] (V.codeOf Tryz.f77) (Zq.kt x0)) (Zq.s7 x0)=Zq.l7 x0:=by
 rw[V.jn_eq,Zq.r7]
 simp only[Zq.e11]
 rfl
noncomputable abbrev Zq.s (x0:Z0):V.St:=⟨[(0, .v true (V.lsHead x0))],[]⟩
theorem Zq.v0 (x0:Z0):V.evBody Zq.E Zq.con Tryz.f77 (V.fl0 x0)=V.evC Zq.E Tryz.f77.ntmps (V.codeOf Tryz.f77) (Zq.kt x0) (Zq.s x0):=by kernel_rfl
theorem Zq.v (x0:Z0):V.evC Zq.E Tryz.f77.ntmps (V.codeOf Tryz.f77) (Zq.kt x0) (Zq.s x0)=Zq.b x0 (V.jn (V.joinF Zq.E Tryz.f77.ntmps [1] [] (V.codeOf Tryz.f77) (Zq.kt x0)) (Zq.s7 x0)):=by kernel_rfl
theorem Zq.eq (x0:Z0):V.evBody Zq.E Zq.con Tryz.f77 (V.fl0 x0)=Zq x0:=by
 rw[Zq.v0,Zq.v]
 simp only[Zq.e7]
 rfl
theorem Zq.ok :V.Valid Tryz.prog 77 Zq.con:=
 V.fo (V.tab_cons Xx.ok (V.tab_cons Yg.ok (V.tab_cons ZU.ok V.tab_nil))) Tryz.func77 (by kernel_rfl) (fun x y h=>(show V.evBody Zq.E Zq.con Tryz.f77 x=_ from Zq.eq (V.p0_0 x)).trans (V.cfl (by kernel_rfl) h))
noncomputable abbrev YK.con :V.Con:=⟨(.cons (.sl (V.ci .nil)) (V.ci (V.ci (.cons (.sl V.eEntry) (V.ci (V.ci .nil)))))),V.eRHeadBool,fun(x:List Int×Int×Int×List Z4×Int×Int)=>YK (x.1,x.2.1) x.2.2.1 x.2.2.2.1 x.2.2.2.2.1 x.2.2.2.2.2,[],[(true,2),(false,1),(false,1),(false,1),(false,1)],[(true,16),(false,1)],[false,false,false,false,false,false,false,false,true,false,true,false,false,true,false,false,false],[]⟩
noncomputable abbrev YK.E :V.Env:=V.mkE V.tys [(46,ZY.con),(47,XN.con),(49,X3.con),(77,Zq.con),(78,Yg.con),(149,W3.con)] [(5,[1,2,3,4,5,10,25],[])] [(3,16)] [] [] []
noncomputable abbrev YK.kt (x0:Z5)(x1:Int)(x2:List Z4)(x3:Int)(x4:Int):V.Kt Z7:=V.ktOf YK.E YK.con Tryz.f121 ((x0.1,x0.2,x1,x2,x3,x4):List Int×Int×Int×List Z4×Int×Int)
noncomputable abbrev YK.s5 (x0:Z5)(x1:Int)(x2:List Z4)(x3:Int)(x4:Int)(v5_4:Bool):V.St:=⟨[(1, .v false [.vi (x1)]),(2, .v false [.val (.sl V.eEntry x2)]),(3, .v false [.vi (x3)]),(4, .v false [.vi (x4)]),(5, .v false [.ptr 64000 0]),(10, .v false [.ptr 64064 0]),(25, .v false [.val (.bool v5_4)])],[(64000, .box [.val (.sl (V.ci .nil) x0.1), .vi (x0.2)]),(64064, .box [.vi ((0:Int)), .vi ((0:Int)), .vi ((0:Int)), .vi ((0:Int)), .vi ((0:Int)), .vi ((0:Int)), .vi ((0:Int)), .vi ((0:Int)), .nil0, .vi ((0:Int)), .nil0, .vi ((0:Int)), .vi ((0:Int)), .nil0, .vi ((0:Int)), .val (.bool false)])]⟩
theorem YK.r5 (x0:Z5)(x1:Int)(x2:List Z4)(x3:Int)(x4:Int)(v5_4:Bool):V.joinF YK.E Tryz.f121.ntmps [1,0] [] (V.codeOf Tryz.f121) (YK.kt x0 x1 x2 x3 x4) (YK.s5 x0 x1 x2 x3 x4 v5_4)=YK.g5 x0 x1 x2 x3 x4 v5_4:=by kernel_rfl
theorem YK.e5 (x0:Z5)(x1:Int)(x2:List Z4)(x3:Int)(x4:Int)(v5_4:Bool):V.jn (V.joinF YK.E Tryz.f121.ntmps [1,0] [] (V.codeOf Tryz.f121) (YK.kt x0 x1 x2 x3 x4)) (YK.s5 x0 x1 x2 x3 x4 v5_4)=YK.l5 x0 x1 x2 x3 x4 v5_4:=by
 rw[V.jn_eq,YK.r5]
 rfl
theorem YK.v (x0:Z5)(x1:Int)(x2:List Z4)(x3:Int)(x4:Int):V.evBody YK.E YK.con Tryz.f121 ((x0.1,x0.2,x1,x2,x3,x4):List Int×Int×Int×List Z4×Int×Int)=YK.b x0 x1 x2 x3 x4 (fun v5_4=>V.jn (V.joinF YK.E Tryz.f121.ntmps [1,0] [] (V.codeOf Tryz.f121) (YK.kt x0 x1 x2 x3 x4)) (YK.s5 x0 x1 x2 x3 x4 v5_4)):=by kernel_rfl
theorem YK.eq (x0:Z5)(x1:Int)(x2:List Z4)(x3:Int)(x4:Int):V.evBody YK.E YK.con Tryz.f121 ((x0.1,x0.2,x1,x2,x3,x4):List Int×Int×Int×List Z4×Int×Int)=YK x0 x1 x2 x3 x4:=by
 rw[YK.v]
 simp only[YK.e5]
 rfl
theorem YK.ok :V.Valid Tryz.prog 121 YK.con:=
 V.fo (V.tab_cons ZY.ok (V.tab_cons XN.ok (V.tab_cons X3.ok (V.tab_cons Zq.ok (V.tab_cons Yg.ok (V.tab_cons W3.ok V.tab_nil)))))) Tryz.func121 (by kernel_rfl) (fun x y h=>(show V.evBody YK.E YK.con Tryz.f121 x=_ from YK.eq (x.1,x.2.1) x.2.2.1 x.2.2.2.1 x.2.2.2.2.1 x.2.2.2.2.2).trans (V.cfl (by kernel_rfl) h))
noncomputable abbrev YU.con :V.Con:=⟨V.A0,V.eHead,fun(x:V.D0)=>YU (V.p0_0 x),[],[(true,16)],[(true,16)],[false,false,false,false,false,false,false,false,true,false,true,false,false,true,false,false],[]⟩
noncomputable abbrev YU.E :V.Env:=V.mkE V.tys [(49,X3.con)] [] [] [] [] []
noncomputable abbrev YU.kt (x0:Z0):V.Kt Z0:=V.ktOf YU.E YU.con Tryz.f79 (V.fl0 x0)
noncomputable abbrev YU.s (x0:Z0):V.St:=⟨[(0, .v true (V.lsHead x0))],[]⟩
theorem YU.v0 (x0:Z0):V.evBody YU.E YU.con Tryz.f79 (V.fl0 x0)=V.evC YU.E Tryz.f79.ntmps (V.codeOf Tryz.f79) (YU.kt x0) (YU.s x0):=by kernel_rfl
theorem YU.v (x0:Z0):V.evC YU.E Tryz.f79.ntmps (V.codeOf Tryz.f79) (YU.kt x0) (YU.s x0)=YU x0:=by kernel_rfl
theorem YU.eq (x0:Z0):V.evBody YU.E YU.con Tryz.f79 (V.fl0 x0)=YU x0:=(YU.v0 x0).trans (YU.v x0)
theorem YU.ok :V.Valid Tryz.prog 79 YU.con:=
 V.fo (V.tab_cons X3.ok V.tab_nil) Tryz.func79 (by kernel_rfl) (fun x y h=>(show V.evBody YU.E YU.con Tryz.f79 x=_ from YU.eq (V.p0_0 x)).trans (V.cfl (by kernel_rfl) h))
noncomputable abbrev YW.con :V.Con:=⟨V.A0,(.cons (.sl (V.ci .nil)) .nil),fun(x:V.D0)=>YW (V.p0_0 x),[],[(true,16)],[(false,1)],[true],[]⟩
noncomputable abbrev YW.E :V.Env:=V.mkE V.tys [(146,XG.con)] [] [] [] [] []
noncomputable abbrev YW.kt (x0:Z0):V.Kt (List Int):=V.ktOf YW.E YW.con Tryz.f116 (V.fl0 x0)
noncomputable abbrev YW.s (x0:Z0):V.St:=⟨[(0, .v true (V.lsHead x0))],[]⟩
theorem YW.v0 (x0:Z0):V.evBody YW.E YW.con Tryz.f116 (V.fl0 x0)=V.evC YW.E Tryz.f116.ntmps (V.codeOf Tryz.f116) (YW.kt x0) (YW.s x0):=by kernel_rfl
theorem YW.v (x0:Z0):V.evC YW.E Tryz.f116.ntmps (V.codeOf Tryz.f116) (YW.kt x0) (YW.s x0)=YW x0:=by kernel_rfl
theorem YW.eq (x0:Z0):V.evBody YW.E YW.con Tryz.f116 (V.fl0 x0)=YW x0:=(YW.v0 x0).trans (YW.v x0)
theorem YW.ok :V.Valid Tryz.prog 116 YW.con:=
 V.fo (V.tab_cons XG.ok V.tab_nil) Tryz.func116 (by kernel_rfl) (fun x y h=>(show V.evBody YW.E YW.con Tryz.f116 x=_ from YW.eq (V.p0_0 x)).trans (V.cfl (by kernel_rfl) h))
noncomputable abbrev Yp.con :V.Con:=⟨(.cons (.sl (V.ci .nil)) (V.ci .nil)),(.cons .bool .nil),fun(x:List Int×Int)=>Yp x.1 x.2,[],[(false,1),(false,1)],[(false,1)],[false],[]⟩
noncomputable abbrev Yp.E :V.Env:=V.mkE V.tys [] [(4,[0,1,5],[])] [] [] [] []
noncomputable abbrev Yp.kt (x0:List Int)(x1:Int):V.Kt Bool:=V.ktOf Yp.E Yp.con Tryz.f161 ((x0,x1):List Int×Int)
noncomputable abbrev Yp.s4 (x0:List Int)(x1:Int)(v4_2:Int):V.St:=⟨[(0, .v false [.val (.sl (V.ci .nil) x0)]),(1, .v false [.vi (x1)]),(5, .v false [.vi (v4_2)])],[]⟩
theorem Yp.r4 (x0:List Int)(x1:Int)(R:V.St→Option Bool)(v4_2:Int):V.loopF Yp.E Tryz.f161.ntmps [1,0,1,0] [] (V.codeOf Tryz.f161) (Yp.kt x0 x1) R (Yp.s4 x0 x1 v4_2)=Yp.g4 x0 x1 (fun v4_2=>R (Yp.s4 x0 x1 v4_2)) v4_2:=by kernel_rfl
theorem Yp.e4 (x0:List Int)(x1:Int):∀(n:Nat) (v4_2:Int),V.loopN (V.loopF Yp.E Tryz.f161.ntmps [1,0,1,0] [] (V.codeOf Tryz.f161) (Yp.kt x0 x1)) n (Yp.s4 x0 x1 v4_2)=Yp.l4 x0 x1 n v4_2:=by
 intro n
 induction n with
 |zero=>intros;rw[V.loopN_z];rfl
 |succ n ih=>
  intro v4_2
  rw[V.loopN_s,Yp.r4]
  simp only[ih]
  first|exact(Yp.u4 ..).symm|rfl
theorem Yp.v (x0:List Int)(x1:Int):V.evBody Yp.E Yp.con Tryz.f161 ((x0,x1):List Int×Int)=Yp.b x0 x1 (fun v4_2=>V.loopN (V.loopF Yp.E Tryz.f161.ntmps [1,0,1,0] [] (V.codeOf Tryz.f161) (Yp.kt x0 x1)) V.KK (Yp.s4 x0 x1 v4_2)):=by kernel_rfl
theorem Yp.eq (x0:List Int)(x1:Int):V.evBody Yp.E Yp.con Tryz.f161 ((x0,x1):List Int×Int)=Yp x0 x1:=by
 rw[Yp.v]
 simp only[Yp.e4]
 rfl
theorem Yp.ok :V.Valid Tryz.prog 161 Yp.con:=
 V.fo V.tab_nil Tryz.func161 (by kernel_rfl) (fun x y h=>(show V.evBody Yp.E Yp.con Tryz.f161 x=_ from Yp.eq x.1 x.2).trans (V.cfl (by kernel_rfl) h))
noncomputable abbrev WG.con :V.Con:=⟨(V.ci (.cons (.sl (V.ci .nil)) .nil)),(V.ci .nil),fun(x:Int×List Int)=>WG x.1 x.2,[],[(false,1),(false,1)],[(false,1)],[false],[]⟩
noncomputable abbrev WG.E :V.Env:=V.mkE V.tys [(115,ZG.con)] [] [] [] [] []
theorem WG.eq (x0:Int)(x1:List Int):V.evBody WG.E WG.con Tryz.f172 ((x0,x1):Int×List Int)=WG x0 x1:=by kernel_rfl
theorem WG.ok :V.Valid Tryz.prog 172 WG.con:=
 V.fo (V.tab_cons ZG.ok V.tab_nil) Tryz.func172 (by kernel_rfl) (fun x y h=>(show V.evBody WG.E WG.con Tryz.f172 x=_ from WG.eq x.1 x.2).trans (V.cfl (by kernel_rfl) h))
noncomputable abbrev W2.con :V.Con:=⟨(V.ci (.cons (.sl (V.ci .nil)) .nil)),(V.ci .nil),fun(x:Int×List Int)=>W2 x.1 x.2,[],[(false,1),(false,1)],[(false,1)],[false],[]⟩
noncomputable abbrev W2.E :V.Env:=V.mkE V.tys [(172,WG.con)] [] [] [] [] []
theorem W2.eq (x0:Int)(x1:List Int):V.evBody W2.E W2.con Tryz.f162 ((x0,x1):Int×List Int)=W2 x0 x1:=by kernel_rfl
theorem W2.ok :V.Valid Tryz.prog 162 W2.con:=
 V.fo (V.tab_cons WG.ok V.tab_nil) Tryz.func162 (by kernel_rfl) (fun x y h=>(show V.evBody W2.E W2.con Tryz.f162 x=_ from W2.eq x.1 x.2).trans (V.cfl (by kernel_rfl) h))
noncomputable abbrev Yo.con :V.Con:=⟨(.cons (.sl (V.ci .nil)) (.cons (.sl (V.ci .nil)) (V.ci (.cons (.sl (V.ci .nil)) .nil)))),(.cons (.sl (V.ci (V.ci .nil))) .nil),fun(x:List Int×List Int×Int×List Int)=>Yo x.1 (x.2.1,x.2.2.1) x.2.2.2,[],[(false,1),(true,2),(false,1)],[(false,1)],[true],[]⟩
noncomputable abbrev Yo.E :V.Env:=V.mkE V.tys [(161,Yp.con),(162,W2.con)] [(6,[0,2,4,7,8],[(64000038400448,(V.ci (V.ci .nil)),true)])] [(6,15)] [] [] []
noncomputable abbrev Yo.kt (x0:List Int)(x1:Z5)(x2:List Int):V.Kt (List Zb):=V.ktOf Yo.E Yo.con Tryz.f150 ((x0,x1.1,x1.2,x2):List Int×List Int×Int×List Int)
noncomputable abbrev Yo.s6 (x0:List Int)(x1:Z5)(x2:List Int)(v6_2:Int)(v6_5:List Zb):V.St:=⟨[(0, .v false [.val (.sl (V.ci .nil) x0)]),(2, .v false [.val (.sl (V.ci .nil) x2)]),(4, .v false [.ptr 64000 0]),(7, .v false [.ref 64000038400448]),(8, .v false [.vi (v6_2)])],[(64000, .box [.val (.sl (V.ci .nil) x1.1), .vi (x1.2)]),(64000038400448, .row (V.ci (V.ci .nil)) true v6_5)]⟩
theorem Yo.r6 (x0:List Int)(x1:Z5)(x2:List Int)(R:V.St→Option (List Zb))(v6_2:Int)(v6_5:List Zb):V.loopF Yo.E Tryz.f150.ntmps [1,1,0,1,0] [] (V.codeOf Tryz.f150) (Yo.kt x0 x1 x2) R (Yo.s6 x0 x1 x2 v6_2 v6_5)=Yo.g6 x0 x1 x2 (fun v6_2 v6_5=>R (Yo.s6 x0 x1 x2 v6_2 v6_5)) v6_2 v6_5:=by kernel_rfl
theorem Yo.e6 (x0:List Int)(x1:Z5)(x2:List Int):∀(n:Nat) (v6_2:Int) (v6_5:List Zb),V.loopN (V.loopF Yo.E Tryz.f150.ntmps [1,1,0,1,0] [] (V.codeOf Tryz.f150) (Yo.kt x0 x1 x2)) n (Yo.s6 x0 x1 x2 v6_2 v6_5)=Yo.l6 x0 x1 x2 n v6_2 v6_5:=by
 intro n
 induction n with
 |zero=>intros;rw[V.loopN_z];rfl
 |succ n ih=>
  intro v6_2 v6_5
  rw[V.loopN_s,Yo.r6]
  simp only[ih]
  first|exact(Yo.u6 ..).symm|rfl
theorem Yo.v (x0:List Int)(x1:Z5)(x2:List Int):V.evBody Yo.E Yo.con Tryz.f150 ((x0,x1.1,x1.2,x2):List Int×List Int×Int×List Int)=Yo.b x0 x1 x2 (fun v6_2 v6_5=>V.loopN (V.loopF Yo.E Tryz.f150.ntmps [1,1,0,1,0] [] (V.codeOf Tryz.f150) (Yo.kt x0 x1 x2)) V.KK (Yo.s6 x0 x1 x2 v6_2 v6_5)):=by kernel_rfl
theorem Yo.eq (x0:List Int)(x1:Z5)(x2:List Int):V.evBody Yo.E Yo.con Tryz.f150 ((x0,x1.1,x1.2,x2):List Int×List Int×Int×List Int)=Yo x0 x1 x2:=by
 rw[Yo.v]
 simp only[Yo.e6]
 rfl
theorem Yo.ok :V.Valid Tryz.prog 150 Yo.con:=
 V.fo (V.tab_cons Yp.ok (V.tab_cons W2.ok V.tab_nil)) Tryz.func150 (by kernel_rfl) (fun x y h=>(show V.evBody Yo.E Yo.con Tryz.f150 x=_ from Yo.eq x.1 (x.2.1,x.2.2.1) x.2.2.2).trans (V.cfl (by kernel_rfl) h))
noncomputable abbrev X4.con :V.Con:=⟨V.A1,V.eSigned,fun(x:V.D1)=>X4 (V.p1_0 x) (V.p1_1 x) (V.p1_2 x),[],[(false,1),(true,2),(true,16)],[(true,17)],[false,false,false,false,false,false,false,false,true,false,true,false,false,true,false,false,true],[]⟩
noncomputable abbrev X4.E :V.Env:=V.mkE V.tys [(79,YU.con),(116,YW.con),(150,Yo.con)] [] [(1,6)] [] [] []
noncomputable abbrev X4.kt (x0:List Int)(x1:Z5)(x2:Z0):V.Kt Z6:=V.ktOf X4.E X4.con Tryz.f122 (V.fl1 x0 x1 x2)
noncomputable abbrev X4.s (x0:List Int)(x1:Z5)(x2:Z0):V.St:=⟨[(0, .v false [.val (.sl (V.ci .nil) x0)]),(1, .v true [.val (.sl (V.ci .nil) x1.1), .vi (x1.2)]),(2, .v true (V.lsHead x2))],[]⟩
theorem X4.v0 (x0:List Int)(x1:Z5)(x2:Z0):V.evBody X4.E X4.con Tryz.f122 (V.fl1 x0 x1 x2)=V.evC X4.E Tryz.f122.ntmps (V.codeOf Tryz.f122) (X4.kt x0 x1 x2) (X4.s x0 x1 x2):=by kernel_rfl
theorem X4.v (x0:List Int)(x1:Z5)(x2:Z0):V.evC X4.E Tryz.f122.ntmps (V.codeOf Tryz.f122) (X4.kt x0 x1 x2) (X4.s x0 x1 x2)=X4 x0 x1 x2:=by kernel_rfl
theorem X4.eq (x0:List Int)(x1:Z5)(x2:Z0):V.evBody X4.E X4.con Tryz.f122 (V.fl1 x0 x1 x2)=X4 x0 x1 x2:=(X4.v0 x0 x1 x2).trans (X4.v x0 x1 x2)
theorem X4.ok :V.Valid Tryz.prog 122 X4.con:=
 V.fo (V.tab_cons YU.ok (V.tab_cons YW.ok (V.tab_cons Yo.ok V.tab_nil))) Tryz.func122 (by kernel_rfl) (fun x y h=>(show V.evBody X4.E X4.con Tryz.f122 x=_ from X4.eq (V.p1_0 x) (V.p1_1 x) (V.p1_2 x)).trans (V.cfl (by kernel_rfl) h))
noncomputable abbrev ZN.con :V.Con:=⟨(.cons (.ptr (.cons (.sl (.cons (.int .u8) .nil)) (V.ci (V.ci .nil)))) .nil),(.cons (.ptr (.cons (.sl (.cons (.int .u8) .nil)) (V.ci (V.ci .nil)))) (V.ci (V.ci (V.ci (V.ci (V.ci (V.ci (V.ci (V.ci (.cons (.sl (V.ci .nil)) (V.ci (.cons (.sl (V.ci .nil)) (V.ci (V.ci (.cons (.sl (V.ci .nil)) (V.ci (.cons .bool (.cons (.sl (V.ci (V.ci .nil))) .nil)))))))))))))))))),fun(x:(Z3))=>ZN x,[(0,false)],[(false,1)],[(true,17)],[false,false,false,false,false,false,false,false,true,false,true,false,false,true,false,false,true],[]⟩
noncomputable abbrev ZN.E :V.Env:=V.mkE V.tys [(39,Zm.con),(54,Y6.con),(74,ZK.con),(121,YK.con),(122,X4.con)] [(13,[0,2,3,7],[]),(25,[0,2,3,7],[])] [] [] [] [(5,[1000])]
noncomputable abbrev ZN.kt (x0:(Z3)):V.Kt ((Z3)×Int×Int×Int×Int×Int×Int×Int×Int×List Int×Int×List Int×Int×Int×List Int×Int×Bool×List Zb):=V.ktOf ZN.E ZN.con Tryz.f87 ((x0):(Z3))
noncomputable abbrev ZN.s25 (x0:(Z3))(v13_18:Int)(v13_19:Int)(v13_20:Int)(v13_21:Int)(v13_22:Int)(v13_23:Int)(v13_24:Int)(v13_25:Int)(v13_26:Int)(v13_30:Bool)(v13_31:List Int)(y1:(Z3)×List Int×Int)(v25_1:Int)(v25_2:Int)(v25_27:Int)(v25_28:Int)(v25_29:Int)(v25_32:List Int)(v25_33:List Int):V.St:=⟨[(0, .v false [.ptr 0 0]),(2, .v false [.ptr 64000 0]),(3, .v false [.ptr 128128 0]),(7, .v false [.ptr 384640 0])],[(0, .box [.val (.sl (.cons (.int .u8) .nil) x0.1), .vi (v25_1), .vi (v25_2)]),(64000, .box [.vi ((0:Int)), .vi ((0:Int)), .vi ((0:Int)), .vi ((0:Int)), .vi ((0:Int)), .vi ((0:Int)), .vi ((0:Int)), .vi ((0:Int)), .nil0, .vi ((0:Int)), .nil0, .vi ((0:Int)), .vi ((0:Int)), .nil0, .vi ((0:Int)), .val (.bool false), .nil0]),(128128, .box [.ref 64000000000008200192, .vi (y1.2.2)]),(64000000000008200192, .row (V.ci .nil) true y1.2.1),(384640, .box [.vi (v13_18), .vi (v13_19), .vi (v13_20), .vi (v13_21), .vi (v13_22), .vi (v13_23), .vi (v13_24), .vi (v13_25), .ref 64000000000024616968, .vi (v13_26), .ref 64000000000024616970, .vi (v25_27), .vi (v25_28), .ref 64000000000024616973, .vi (v25_29), .val (.bool v13_30)]),(64000000000024616968, .row (V.ci .nil) true v13_31),(64000000000024616970, .row (V.ci .nil) true v25_32),(64000000000024616973, .row (V.ci .nil) true v25_33)]⟩
noncomputable abbrev ZN.s13 (x0:(Z3))(y1:(Z3)×List Int×Int)(v13_1:Int)(v13_2:Int)(v13_18:Int)(v13_19:Int)(v13_20:Int)(v13_21:Int)(v13_22:Int)(v13_23:Int)(v13_24:Int)(v13_25:Int)(v13_26:Int)(v13_27:Int)(v13_28:Int)(v13_29:Int)(v13_30:Bool)(v13_31:List Int)(v13_32:List Int)(v13_33:List Int):V.St:=⟨[(0, .v false [.ptr 0 0]),(2, .v false [.ptr 64000 0]),(3, .v false [.ptr 128128 0]),(7, .v false [.ptr 384640 0])],[(0, .box [.val (.sl (.cons (.int .u8) .nil) x0.1), .vi (v13_1), .vi (v13_2)]),(64000, .box [.vi ((0:Int)), .vi ((0:Int)), .vi ((0:Int)), .vi ((0:Int)), .vi ((0:Int)), .vi ((0:Int)), .vi ((0:Int)), .vi ((0:Int)), .nil0, .vi ((0:Int)), .nil0, .vi ((0:Int)), .vi ((0:Int)), .nil0, .vi ((0:Int)), .val (.bool false), .nil0]),(128128, .box [.ref 64000000000008200192, .vi (y1.2.2)]),(64000000000008200192, .row (V.ci .nil) true y1.2.1),(384640, .box [.vi (v13_18), .vi (v13_19), .vi (v13_20), .vi (v13_21), .vi (v13_22), .vi (v13_23), .vi (v13_24), .vi (v13_25), .ref 64000000000024616968, .vi (v13_26), .ref 64000000000024616970, .vi (v13_27), .vi (v13_28), .ref 64000000000024616973, .vi (v13_29), .val (.bool v13_30)]),(64000000000024616968, .row (V.ci .nil) true v13_31),(64000000000024616970, .row (V.ci .nil) true v13_32),(64000000000024616973, .row (V.ci .nil) true v13_33)]⟩
theorem ZN.r25 (x0:(Z3))(v13_18:Int)(v13_19:Int)(v13_20:Int)(v13_21:Int)(v13_22:Int)(v13_23:Int)(v13_24:Int)(v13_25:Int)(v13_26:Int)(v13_30:Bool)(v13_31:List Int)(y1:(Z3)×List Int×Int)(v25_1:Int)(v25_2:Int)(v25_27:Int)(v25_28:Int)(v25_29:Int)(v25_32:List Int)(v25_33:List Int):V.joinF ZN.E Tryz.f87.ntmps [1,1,1,1,1,1] [] (V.codeOf Tryz.f87) (ZN.kt x0) (ZN.s25 x0 v13_18 v13_19 v13_20 v13_21 v13_22 v13_23 v13_24 v13_25 v13_26 v13_30 v13_31 y1 v25_1 v25_2 v25_27 v25_28 v25_29 v25_32 v25_33)=ZN.g25 x0 v13_18 v13_19 v13_20 v13_21 v13_22 v13_23 v13_24 v13_25 v13_26 v13_30 v13_31 y1 v25_1 v25_2 v25_27 v25_28 v25_29 v25_32 v25_33:=by kernel_rfl
theorem ZN.e25 (x0:(Z3))(v13_18:Int)(v13_19:Int)(v13_20:Int)(v13_21:Int)(v13_22:Int)(v13_23:Int)(v13_24:Int)(v13_25:Int)(v13_26:Int)(v13_30:Bool)(v13_31:List Int)(y1:(Z3)×List Int×Int)(v25_1:Int)(v25_2:Int)(v25_27:Int)(v25_28:Int)(v25_29:Int)(v25_32:List Int)(v25_33:List Int):V.jn (V.joinF ZN.E Tryz.f87.ntmps [1,1,1,1,1,1] [] (V.codeOf Tryz.f87) (ZN.kt x0)) (ZN.s25 x0 v13_18 v13_19 v13_20 v13_21 v13_22 v13_23 v13_24 v13_25 v13_26 v13_30 v13_31 y1 v25_1 v25_2 v25_27 v25_28 v25_29 v25_32 v25_33)=ZN.l25 x0 v13_18 v13_19 v13_20 v13_21 v13_22 v13_23 v13_24 v13_25 v13_26 v13_30 v13_31 y1 v25_1 v25_2 v25_27 v25_28 v25_29 v25_32 v25_33:=by
 rw[V.jn_eq,ZN.r25]
 rfl
theorem ZN.r13 (x0:(Z3))(y1:(Z3)×List Int×Int)(v13_1:Int)(v13_2:Int)(v13_18:Int)(v13_19:Int)(v13_20:Int)(v13_21:Int)(v13_22:Int)(v13_23:Int)(v13_24:Int)(v13_25:Int)(v13_26:Int)(v13_27:Int)(v13_28:Int)(v13_29:Int)(v13_30:Bool)(v13_31:List Int)(v13_32:List Int)(v13_33:List Int):V.joinF ZN.E Tryz.f87.ntmps [1,1,1,1,1] [] (V.codeOf Tryz.f87) (ZN.kt x0) (ZN.s13 x0 y1 v13_1 v13_2 v13_18 v13_19 v13_20 v13_21 v13_22 v13_23 v13_24 v13_25 v13_26 v13_27 v13_28 v13_29 v13_30 v13_31 v13_32 v13_33)=ZN.g13 x0 y1 (fun y1 v25_1 v25_2 v25_27 v25_28 v25_29 v25_32 v25_33=>V.jn (V.joinF ZN.E Tryz.f87.ntmps [1,1,1,1,1,1] [] (V.codeOf Tryz.f87) (ZN.kt x0)) (ZN.s25 x0 v13_18 v13_19 v13_20 v13_21 v13_22 v13_23 v13_24 v13_25 v13_26 v13_30 v13_31 y1 v25_1 v25_2 v25_27 v25_28 v25_29 v25_32 v25_33)) v13_1 v13_2 v13_18 v13_19 v13_20 v13_21 v13_22 v13_23 v13_24 v13_25 v13_26 v13_27 v13_28 v13_29 v13_30 v13_31 v13_32 v13_33:=by kernel_rfl
theorem ZN.e13 (x0:(Z3))(y1:(Z3)×List Int×Int)(v13_1:Int)(v13_2:Int)(v13_18:Int)(v13_19:Int)(v13_20:Int)(v13_21:Int)(v13_22:Int)(v13_23:Int)(v13_24:Int)(v13_25:Int)(v13_26:Int)(v13_27:Int)(v13_28:Int)(v13_29:Int)(v13_30:Bool)(v13_31:List Int)(v13_32:List Int)(v13_33:List Int):V.jn (V.joinF ZN.E Tryz.f87.ntmps [1,1,1,1,1] [] (V.codeOf Tryz.f87) (ZN.kt x0)) (ZN.s13 x0 y1 v13_1 v13_2 v13_18 v13_19 v13_20 v13_21 v13_22 v13_23 v13_24 v13_25 v13_26 v13_27 v13_28 v13_29 v13_30 v13_31 v13_32 v13_33)=ZN.l13 x0 y1 v13_1 v13_2 v13_18 v13_19 v13_20 v13_21 v13_22 v13_23 v13_24 v13_25 v13_26 v13_27 v13_28 v13_29 v13_30 v13_31 v13_32 v13_33:=by
 rw[V.jn_eq,ZN.r13]
 simp only[ZN.e25]
 rfl
theorem ZN.v (x0:(Z3)):V.evBody ZN.E ZN.con Tryz.f87 ((x0):(Z3))=ZN.b x0 (fun y1 v13_1 v13_2 v13_18 v13_19 v13_20 v13_21 v13_22 v13_23 v13_24 v13_25 v13_26 v13_27 v13_28 v13_29 v13_30 v13_31 v13_32 v13_33=>V.jn (V.joinF ZN.E Tryz.f87.ntmps [1,1,1,1,1] [] (V.codeOf Tryz.f87) (ZN.kt x0)) (ZN.s13 x0 y1 v13_1 v13_2 v13_18 v13_19 v13_20 v13_21 v13_22 v13_23 v13_24 v13_25 v13_26 v13_27 v13_28 v13_29 v13_30 v13_31 v13_32 v13_33)):=by kernel_rfl
theorem ZN.eq (x0:(Z3)):V.evBody ZN.E ZN.con Tryz.f87 ((x0):(Z3))=ZN x0:=by
 rw[ZN.v]
 simp only[ZN.e13]
 rfl
theorem ZN.ok :V.Valid Tryz.prog 87 ZN.con:=
 V.fo (V.tab_cons Zm.ok (V.tab_cons Y6.ok (V.tab_cons ZK.ok (V.tab_cons YK.ok (V.tab_cons X4.ok V.tab_nil))))) Tryz.func87 (by kernel_rfl) (fun x y h=>(show V.evBody ZN.E ZN.con Tryz.f87 x=_ from ZN.eq x).trans (V.cfl (by kernel_rfl) h))
noncomputable abbrev YX.con :V.Con:=⟨V.A0,(V.ci .nil),fun(x:V.D0)=>YX (V.p0_0 x),[],[(true,16)],[(false,1)],[false],[]⟩
noncomputable abbrev YX.E :V.Env:=V.mkE V.tys [(115,ZG.con),(116,YW.con)] [] [] [] [] []
noncomputable abbrev YX.kt (x0:Z0):V.Kt Int:=V.ktOf YX.E YX.con Tryz.f80 (V.fl0 x0)
noncomputable abbrev YX.s (x0:Z0):V.St:=⟨[(0, .v true (V.lsHead x0))],[]⟩
theorem YX.v0 (x0:Z0):V.evBody YX.E YX.con Tryz.f80 (V.fl0 x0)=V.evC YX.E Tryz.f80.ntmps (V.codeOf Tryz.f80) (YX.kt x0) (YX.s x0):=by kernel_rfl
theorem YX.v (x0:Z0):V.evC YX.E Tryz.f80.ntmps (V.codeOf Tryz.f80) (YX.kt x0) (YX.s x0)=YX x0:=by kernel_rfl
theorem YX.eq (x0:Z0):V.evBody YX.E YX.con Tryz.f80 (V.fl0 x0)=YX x0:=(YX.v0 x0).trans (YX.v x0)
theorem YX.ok :V.Valid Tryz.prog 80 YX.con:=
 V.fo (V.tab_cons ZG.ok (V.tab_cons YW.ok V.tab_nil)) Tryz.func80 (by kernel_rfl) (fun x y h=>(show V.evBody YX.E YX.con Tryz.f80 x=_ from YX.eq (V.p0_0 x)).trans (V.cfl (by kernel_rfl) h))
noncomputable abbrev Zd.con :V.Con:=⟨V.A2,(.cons (.ptr (.cons (.sl (.cons (.int .u8) .nil)) (V.ci (V.ci .nil)))) (V.ci (V.ci (V.ci (V.ci (V.ci (V.ci (V.ci (V.ci (.cons (.sl (V.ci .nil)) (V.ci (.cons (.sl (V.ci .nil)) (V.ci (V.ci (.cons (.sl (V.ci .nil)) (V.ci (.cons .bool (.cons (.sl (V.ci (V.ci .nil))) .nil)))))))))))))))))),fun(x:V.D2)=>Zd (V.p2_0 x) (V.p2_1 x),[(0,false)],[(false,1),(true,16)],[(true,17)],[false,false,false,false,false,false,false,false,true,false,true,false,false,true,false,false,true],[]⟩
noncomputable abbrev Zd.E :V.Env:=V.mkE V.tys [(39,Zm.con),(43,Xw.con),(47,XN.con),(49,X3.con),(54,Y6.con),(74,ZK.con),(79,YU.con),(80,YX.con),(122,X4.con)] [(11,[0,3,4,5],[]),(13,[0,3,4,5],[]),(25,[0,3,4,5,6],[]),(27,[0,3,4,5,6],[]),(41,[0,4,5,6,73],[]),(63,[0,4,5,6],[])] [] [] [] [(4,[1000]),(5,[1000]),(11,[1000]),(12,[1000])]
noncomputable abbrev Zd.kt (x0:(Z3))(x1:Z0):V.Kt ((Z3)×Int×Int×Int×Int×Int×Int×Int×Int×List Int×Int×List Int×Int×Int×List Int×Int×Bool×List Zb):=V.ktOf Zd.E Zd.con Tryz.f89 (V.fl2 x0 x1)
noncomputable abbrev Zd.s63 (x0:(Z3))(v11_33:Int)(y1:Z0)(y2:Int)(v63_1:Int)(v63_2:Int)(v63_18:Int)(v63_19:Int)(v63_20:Int)(v63_21:Int)(v63_22:Int)(v63_24:Int)(v63_25:Int)(v63_26:Int)(v63_27:Int)(v63_28:Bool)(v63_29:List Int)(v63_30:List Int)(v63_31:List Int)(v63_32:List Int)(v63_33:Int):V.St:=⟨[(0, .v false [.ptr 0 0]),(4, .v false [.ptr 64064 0]),(5, .v false [.ptr 128128 0]),(6, .v false [.ptr 512128 0])],[(0, .box [.val (.sl (.cons (.int .u8) .nil) x0.1), .vi (v63_1), .vi (v63_2)]),(64064, .box [.vi ((0:Int)), .vi ((0:Int)), .vi ((0:Int)), .vi ((0:Int)), .vi ((0:Int)), .vi ((0:Int)), .vi ((0:Int)), .vi ((0:Int)), .nil0, .vi ((0:Int)), .nil0, .vi ((0:Int)), .vi ((0:Int)), .nil0, .vi ((0:Int)), .val (.bool false), .nil0]),(128128, .box [.vi (y1.1), .vi (v11_33), .vi (v63_18), .vi (v63_19), .vi (v63_20), .vi (v63_21), .vi (v63_22), .vi (y2), .ref 64000000000008200200, .vi (v63_24), .ref 64000000000008200202, .vi (v63_25), .vi (v63_26), .ref 64000000000008200205, .vi (v63_27), .val (.bool v63_28)]),(64000000000008200200, .row (V.ci .nil) true v63_29),(64000000000008200202, .row (V.ci .nil) true v63_30),(64000000000008200205, .row (V.ci .nil) true v63_31),(512128, .box [.val (.sl (V.ci .nil) v63_32), .vi (v63_33)])]⟩
noncomputable abbrev Zd.s27 (x0:(Z3))(x1:Z0)(v11_33:Int)(v25_35:Int)(y1:Z0)(y2:Int)(v27_1:Int)(v27_2:Int)(v27_36:Int):V.St:=⟨[(0, .v false [.ptr 0 0]),(3, .v false [.ptr 64000 0]),(4, .v false [.ptr 64064 0]),(5, .v false [.ptr 128128 0]),(6, .v false [.ptr 512128 0])],[(0, .box [.val (.sl (.cons (.int .u8) .nil) x0.1), .vi (v27_1), .vi (v27_2)]),(64000, .box (V.lsHead x1)),(64064, .box [.vi ((0:Int)), .vi ((0:Int)), .vi ((0:Int)), .vi ((0:Int)), .vi ((0:Int)), .vi ((0:Int)), .vi ((0:Int)), .vi ((0:Int)), .nil0, .vi ((0:Int)), .nil0, .vi ((0:Int)), .vi ((0:Int)), .nil0, .vi ((0:Int)), .val (.bool false), .nil0]),(128128, .box [.vi (y1.1), .vi (v11_33), .vi ((2:Int)), .vi (v25_35), .vi (v27_36), .vi (y1.2.2.2.2.2.1), .vi (y1.2.2.2.2.2.2.1), .vi (y2), .ref 64000000000008200200, .vi (y1.2.2.2.2.2.2.2.2.2.1), .ref 64000000000008200202, .vi (y1.2.2.2.2.2.2.2.2.2.2.2.1), .vi (y1.2.2.2.2.2.2.2.2.2.2.2.2.1), .ref 64000000000008200205, .vi (y1.2.2.2.2.2.2.2.2.2.2.2.2.2.2.1), .val (.bool y1.2.2.2.2.2.2.2.2.2.2.2.2.2.2.2)]),(64000000000008200200, .row (V.ci .nil) true y1.2.2.2.2.2.2.2.2.1),(64000000000008200202, .row (V.ci .nil) true y1.2.2.2.2.2.2.2.2.2.2.1),(64000000000008200205, .row (V.ci .nil) true y1.2.2.2.2.2.2.2.2.2.2.2.2.2.1),(512128, .box [.val (.sl (V.ci .nil) x1.2.2.2.2.2.2.2.2.1), .vi (x1.2.2.2.2.2.2.2.2.2.1)])]⟩
noncomputable abbrev Zd.s25 (x0:(Z3))(x1:Z0)(v11_33:Int)(v13_36:Int)(y1:Z0)(y2:Int)(v25_1:Int)(v25_2:Int)(v25_35:Int):V.St:=⟨[(0, .v false [.ptr 0 0]),(3, .v false [.ptr 64000 0]),(4, .v false [.ptr 64064 0]),(5, .v false [.ptr 128128 0]),(6, .v false [.ptr 512128 0])],[(0, .box [.val (.sl (.cons (.int .u8) .nil) x0.1), .vi (v25_1), .vi (v25_2)]),(64000, .box (V.lsHead x1)),(64064, .box [.vi ((0:Int)), .vi ((0:Int)), .vi ((0:Int)), .vi ((0:Int)), .vi ((0:Int)), .vi ((0:Int)), .vi ((0:Int)), .vi ((0:Int)), .nil0, .vi ((0:Int)), .nil0, .vi ((0:Int)), .vi ((0:Int)), .nil0, .vi ((0:Int)), .val (.bool false), .nil0]),(128128, .box [.vi (y1.1), .vi (v11_33), .vi ((2:Int)), .vi (v25_35), .vi (v13_36), .vi (y1.2.2.2.2.2.1), .vi (y1.2.2.2.2.2.2.1), .vi (y2), .ref 64000000000008200200, .vi (y1.2.2.2.2.2.2.2.2.2.1), .ref 64000000000008200202, .vi (y1.2.2.2.2.2.2.2.2.2.2.2.1), .vi (y1.2.2.2.2.2.2.2.2.2.2.2.2.1), .ref 64000000000008200205, .vi (y1.2.2.2.2.2.2.2.2.2.2.2.2.2.2.1), .val (.bool y1.2.2.2.2.2.2.2.2.2.2.2.2.2.2.2)]),(64000000000008200200, .row (V.ci .nil) true y1.2.2.2.2.2.2.2.2.1),(64000000000008200202, .row (V.ci .nil) true y1.2.2.2.2.2.2.2.2.2.2.1),(64000000000008200205, .row (V.ci .nil) true y1.2.2.2.2.2.2.2.2.2.2.2.2.2.1),(512128, .box [.val (.sl (V.ci .nil) x1.2.2.2.2.2.2.2.2.1), .vi (x1.2.2.2.2.2.2.2.2.2.1)])]⟩
noncomputable abbrev Zd.s41 (x0:(Z3))(x1:Z0)(v11_33:Int)(v11_35:Int)(v13_36:Int)(y1:Z0)(y2:Int)(v41_0:Bool)(v41_2:Int)(v41_3:Int)(v41_29:Bool):V.St:=⟨[(0, .v false [.ptr 0 0]),(4, .v false [.ptr 64064 0]),(5, .v false [.ptr 128128 0]),(6, .v false [.ptr 512128 0]),(73, .v false [.val (.bool v41_0)])],[(0, .box [.val (.sl (.cons (.int .u8) .nil) x0.1), .vi (v41_2), .vi (v41_3)]),(64064, .box [.vi ((0:Int)), .vi ((0:Int)), .vi ((0:Int)), .vi ((0:Int)), .vi ((0:Int)), .vi ((0:Int)), .vi ((0:Int)), .vi ((0:Int)), .nil0, .vi ((0:Int)), .nil0, .vi ((0:Int)), .vi ((0:Int)), .nil0, .vi ((0:Int)), .val (.bool false), .nil0]),(128128, .box [.vi (y1.1), .vi (v11_33), .vi ((3:Int)), .vi (v11_35), .vi (v13_36), .vi (y1.2.2.2.2.2.1), .vi (y1.2.2.2.2.2.2.1), .vi (y2), .ref 64000000000008200200, .vi (y1.2.2.2.2.2.2.2.2.2.1), .ref 64000000000008200202, .vi (y1.2.2.2.2.2.2.2.2.2.2.2.1), .vi (y1.2.2.2.2.2.2.2.2.2.2.2.2.1), .ref 64000000000008200205, .vi (y1.2.2.2.2.2.2.2.2.2.2.2.2.2.2.1), .val (.bool v41_29)]),(64000000000008200200, .row (V.ci .nil) true y1.2.2.2.2.2.2.2.2.1),(64000000000008200202, .row (V.ci .nil) true y1.2.2.2.2.2.2.2.2.2.2.1),(64000000000008200205, .row (V.ci .nil) true y1.2.2.2.2.2.2.2.2.2.2.2.2.2.1),(512128, .box [.val (.sl (V.ci .nil) x1.2.2.2.2.2.2.2.2.2.2.2.2.2.1), .vi (x1.2.2.2.2.2.2.2.2.2.2.2.2.2.2.1)])]⟩
noncomputable abbrev Zd.s13 (x0:(Z3))(x1:Z0)(v11_33:Int)(v11_35:Int)(y1:Z0)(y2:Int)(v13_1:Int)(v13_2:Int)(v13_36:Int):V.St:=⟨[(0, .v false [.ptr 0 0]),(3, .v false [.ptr 64000 0]),(4, .v false [.ptr 64064 0]),(5, .v false [.ptr 128128 0])],[(0, .box [.val (.sl (.cons (.int .u8) .nil) x0.1), .vi (v13_1), .vi (v13_2)]),(64000, .box (V.lsHead x1)),(64064, .box [.vi ((0:Int)), .vi ((0:Int)), .vi ((0:Int)), .vi ((0:Int)), .vi ((0:Int)), .vi ((0:Int)), .vi ((0:Int)), .vi ((0:Int)), .nil0, .vi ((0:Int)), .nil0, .vi ((0:Int)), .vi ((0:Int)), .nil0, .vi ((0:Int)), .val (.bool false), .nil0]),(128128, .box [.vi (y1.1), .vi (v11_33), .vi (y1.2.2.1), .vi (v11_35), .vi (v13_36), .vi (y1.2.2.2.2.2.1), .vi (y1.2.2.2.2.2.2.1), .vi (y2), .ref 64000000000008200200, .vi (y1.2.2.2.2.2.2.2.2.2.1), .ref 64000000000008200202, .vi (y1.2.2.2.2.2.2.2.2.2.2.2.1), .vi (y1.2.2.2.2.2.2.2.2.2.2.2.2.1), .ref 64000000000008200205, .vi (y1.2.2.2.2.2.2.2.2.2.2.2.2.2.2.1), .val (.bool y1.2.2.2.2.2.2.2.2.2.2.2.2.2.2.2)]),(64000000000008200200, .row (V.ci .nil) true y1.2.2.2.2.2.2.2.2.1),(64000000000008200202, .row (V.ci .nil) true y1.2.2.2.2.2.2.2.2.2.2.1),(64000000000008200205, .row (V.ci .nil) true y1.2.2.2.2.2.2.2.2.2.2.2.2.2.1)]⟩
noncomputable abbrev Zd.s11 (x0:(Z3))(x1:Z0)(y1:Z0)(y2:Int)(v11_1:Int)(v11_2:Int)(v11_33:Int)(v11_35:Int):V.St:=⟨[(0, .v false [.ptr 0 0]),(3, .v false [.ptr 64000 0]),(4, .v false [.ptr 64064 0]),(5, .v false [.ptr 128128 0])],[(0, .box [.val (.sl (.cons (.int .u8) .nil) x0.1), .vi (v11_1), .vi (v11_2)]),(64000, .box (V.lsHead x1)),(64064, .box [.vi ((0:Int)), .vi ((0:Int)), .vi ((0:Int)), .vi ((0:Int)), .vi ((0:Int)), .vi ((0:Int)), .vi ((0:Int)), .vi ((0:Int)), .nil0, .vi ((0:Int)), .nil0, .vi ((0:Int)), .vi ((0:Int)), .nil0, .vi ((0:Int)), .val (.bool false), .nil0]),(128128, .box [.vi (y1.1), .vi (v11_33), .vi (y1.2.2.1), .vi (v11_35), .vi (y1.2.2.2.2.1), .vi (y1.2.2.2.2.2.1), .vi (y1.2.2.2.2.2.2.1), .vi (y2), .ref 64000000000008200200, .vi (y1.2.2.2.2.2.2.2.2.2.1), .ref 64000000000008200202, .vi (y1.2.2.2.2.2.2.2.2.2.2.2.1), .vi (y1.2.2.2.2.2.2.2.2.2.2.2.2.1), .ref 64000000000008200205, .vi (y1.2.2.2.2.2.2.2.2.2.2.2.2.2.2.1), .val (.bool y1.2.2.2.2.2.2.2.2.2.2.2.2.2.2.2)]),(64000000000008200200, .row (V.ci .nil) true y1.2.2.2.2.2.2.2.2.1),(64000000000008200202, .row (V.ci .nil) true y1.2.2.2.2.2.2.2.2.2.2.1),(64000000000008200205, .row (V.ci .nil) true y1.2.2.2.2.2.2.2.2.2.2.2.2.2.1)]⟩
theorem Zd.r63 (x0:(Z3))(x1:Z0)(v11_33:Int)(y1:Z0)(y2:Int)(v63_1:Int)(v63_2:Int)(v63_18:Int)(v63_19:Int)(v63_20:Int)(v63_21:Int)(v63_22:Int)(v63_24:Int)(v63_25:Int)(v63_26:Int)(v63_27:Int)(v63_28:Bool)(v63_29:List Int)(v63_30:List Int)(v63_31:List Int)(v63_32:List Int)(v63_33:Int):V.joinF Zd.E Tryz.f89.ntmps [1,1,1,1,1,1,1,1] [] (V.codeOf Tryz.f89) (Zd.kt x0 x1) (Zd.s63 x0 v11_33 y1 y2 v63_1 v63_2 v63_18 v63_19 v63_20 v63_21 v63_22 v63_24 v63_25 v63_26 v63_27 v63_28 v63_29 v63_30 v63_31 v63_32 v63_33)=Zd.g63 x0 v11_33 y1 y2 v63_1 v63_2 v63_18 v63_19 v63_20 v63_21 v63_22 v63_24 v63_25 v63_26 v63_27 v63_28 v63_29 v63_30 v63_31 v63_32 v63_33:=by kernel_rfl
theorem Zd.e63 (x0:(Z3))(x1:Z0)(v11_33:Int)(y1:Z0)(y2:Int)(v63_1:Int)(v63_2:Int)(v63_18:Int)(v63_19:Int)(v63_20:Int)(v63_21:Int)(v63_22:Int)(v63_24:Int)(v63_25:Int)(v63_26:Int)(v63_27:Int)(v63_28:Bool)(v63_29:List Int)(v63_30:List Int)(v63_31:List Int)(v63_32:List Int)(v63_33:Int):V.jn (V.joinF Zd.E Tryz.f89.ntmps [1,1,1,1,1,1,1,1] [] (V.codeOf Tryz.f89) (Zd.kt x0 x1)) (Zd.s63 x0 v11_33 y1 y2 v63_1 v63_2 v63_18 v63_19 v63_20 v63_21 v63_22 v63_24 v63_25 v63_26 v63_27 v63_28 v63_29 v63_30 v63_31 v63_32 v63_33)=Zd.l63 x0 v11_33 y1 y2 v63_1 v63_2 v63_18 v63_19 v63_20 v63_21 v63_22 v63_24 v63_25 v63_26 v63_27 v63_28 v63_29 v63_30 v63_31 v63_32 v63_33:=by
 rw[V.jn_eq,Zd.r63]
 rfl
theorem Zd.r27 (x0:(Z3))(x1:Z0)(v11_33:Int)(v25_35:Int)(y1:Z0)(y2:Int)(v27_1:Int)(v27_2:Int)(v27_36:Int):V.joinF Zd.E Tryz.f89.ntmps [1,1,1,1,1,1,1,1,0,1,0,1,0,1,1] [] (V.codeOf Tryz.f89) (Zd.kt x0 x1) (Zd.s27 x0 x1 v11_33 v25_35 y1 y2 v27_1 v27_2 v27_36)=Zd.g27 x0 x1 v11_33 v25_35 y1 y2 (fun y1 y2 v63_1 v63_2 v63_18 v63_19 v63_20 v63_21 v63_22 v63_24 v63_25 v63_26 v63_27 v63_28 v63_29 v63_30 v63_31 v63_32 v63_33=>V.jn (V.joinF Zd.E Tryz.f89.ntmps [1,1,1,1,1,1,1,1] [] (V.codeOf Tryz.f89) (Zd.kt x0 x1)) (Zd.s63 x0 v11_33 y1 y2 v63_1 v63_2 v63_18 v63_19 v63_20 v63_21 v63_22 v63_24 v63_25 v63_26 v63_27 v63_28 v63_29 v63_30 v63_31 v63_32 v63_33)) v27_1 v27_2 v27_36:=by kernel_rfl
theorem Zd.e27 (x0:(Z3))(x1:Z0)(v11_33:Int)(v25_35:Int)(y1:Z0)(y2:Int)(v27_1:Int)(v27_2:Int)(v27_36:Int):V.jn (V.joinF Zd.E Tryz.f89.ntmps [1,1,1,1,1,1,1,1,0,1,0,1,0,1,1] [] (V.codeOf Tryz.f89) (Zd.kt x0 x1)) (Zd.s27 x0 x1 v11_33 v25_35 y1 y2 v27_1 v27_2 v27_36)=Zd.l27 x0 x1 v11_33 v25_35 y1 y2 v27_1 v27_2 v27_36:=by
 rw[V.jn_eq,Zd.r27]
 simp only[Zd.e63]
 rfl
theorem Zd.r25 (x0:(Z3))(x1:Z0)(v11_33:Int)(v13_36:Int)(y1:Z0)(y2:Int)(v25_1:Int)(v25_2:Int)(v25_35:Int):V.joinF Zd.E Tryz.f89.ntmps [1,1,1,1,1,1,1,1,0,1,0,1,0,1] [] (V.codeOf Tryz.f89) (Zd.kt x0 x1) (Zd.s25 x0 x1 v11_33 v13_36 y1 y2 v25_1 v25_2 v25_35)=Zd.g25 x0 x1 v11_33 v13_36 y1 y2 (fun y1 y2 v27_1 v27_2 v27_36=>V.jn (V.joinF Zd.E Tryz.f89.ntmps [1,1,1,1,1,1,1,1,0,1,0,1,0,1,1] [] (V.codeOf Tryz.f89) (Zd.kt x0 x1)) (Zd.s27 x0 x1 v11_33 v25_35 y1 y2 v27_1 v27_2 v27_36)) v25_1 v25_2 v25_35:=by kernel_rfl
theorem Zd.e25 (x0:(Z3))(x1:Z0)(v11_33:Int)(v13_36:Int)(y1:Z0)(y2:Int)(v25_1:Int)(v25_2:Int)(v25_35:Int):V.jn (V.joinF Zd.E Tryz.f89.ntmps [1,1,1,1,1,1,1,1,0,1,0,1,0,1] [] (V.codeOf Tryz.f89) (Zd.kt x0 x1)) (Zd.s25 x0 x1 v11_33 v13_36 y1 y2 v25_1 v25_2 v25_35)=Zd.l25 x0 x1 v11_33 v13_36 y1 y2 v25_1 v25_2 v25_35:=by
 rw[V.jn_eq,Zd.r25]
 simp only[Zd.e27]
 rfl
theorem Zd.r41 (x0:(Z3))(x1:Z0)(v11_33:Int)(v11_35:Int)(v13_36:Int)(y1:Z0)(y2:Int)(v41_0:Bool)(v41_2:Int)(v41_3:Int)(v41_29:Bool):V.joinF Zd.E Tryz.f89.ntmps [1,1,1,1,1,1,1,1,0,1,0,1,1,1,0,1,1,1] [] (V.codeOf Tryz.f89) (Zd.kt x0 x1) (Zd.s41 x0 x1 v11_33 v11_35 v13_36 y1 y2 v41_0 v41_2 v41_3 v41_29)=Zd.g41 x0 x1 v11_33 v11_35 v13_36 y1 y2 (fun y1 y2 v63_1 v63_2 v63_18 v63_19 v63_20 v63_21 v63_22 v63_24 v63_25 v63_26 v63_27 v63_28 v63_29 v63_30 v63_31 v63_32 v63_33=>V.jn (V.joinF Zd.E Tryz.f89.ntmps [1,1,1,1,1,1,1,1] [] (V.codeOf Tryz.f89) (Zd.kt x0 x1)) (Zd.s63 x0 v11_33 y1 y2 v63_1 v63_2 v63_18 v63_19 v63_20 v63_21 v63_22 v63_24 v63_25 v63_26 v63_27 v63_28 v63_29 v63_30 v63_31 v63_32 v63_33)) v41_0 v41_2 v41_3 v41_29:=by kernel_rfl
theorem Zd.e41 (x0:(Z3))(x1:Z0)(v11_33:Int)(v11_35:Int)(v13_36:Int)(y1:Z0)(y2:Int)(v41_0:Bool)(v41_2:Int)(v41_3:Int)(v41_29:Bool):V.jn (V.joinF Zd.E Tryz.f89.ntmps [1,1,1,1,1,1,1,1,0,1,0,1,1,1,0,1,1,1] [] (V.codeOf Tryz.f89) (Zd.kt x0 x1)) (Zd.s41 x0 x1 v11_33 v11_35 v13_36 y1 y2 v41_0 v41_2 v41_3 v41_29)=Zd.l41 x0 x1 v11_33 v11_35 v13_36 y1 y2 v41_0 v41_2 v41_3 v41_29:=by
 rw[V.jn_eq,Zd.r41]
 simp only[Zd.e63]
 rfl
theorem Zd.r13 (x0:(Z3))(x1:Z0)(v11_33:Int)(v11_35:Int)(y1:Z0)(y2:Int)(v13_1:Int)(v13_2:Int)(v13_36:Int):V.joinF Zd.E Tryz.f89.ntmps [1,1,1,1,1] [] (V.codeOf Tryz.f89) (Zd.kt x0 x1) (Zd.s13 x0 x1 v11_33 v11_35 y1 y2 v13_1 v13_2 v13_36)=Zd.g13 x0 x1 v11_33 v11_35 y1 y2 (fun y1 y2 v25_1 v25_2 v25_35=>V.jn (V.joinF Zd.E Tryz.f89.ntmps [1,1,1,1,1,1,1,1,0,1,0,1,0,1] [] (V.codeOf Tryz.f89) (Zd.kt x0 x1)) (Zd.s25 x0 x1 v11_33 v13_36 y1 y2 v25_1 v25_2 v25_35)) (fun y1 y2 v41_0 v41_2 v41_3 v41_29=>V.jn (V.joinF Zd.E Tryz.f89.ntmps [1,1,1,1,1,1,1,1,0,1,0,1,1,1,0,1,1,1] [] (V.codeOf Tryz.f89) (Zd.kt x0 x1)) (Zd.s41 x0 x1 v11_33 v11_35 v13_36 y1 y2 v41_0 v41_2 v41_3 v41_29)) (fun y1 y2 v63_1 v63_2 v63_18 v63_19 v63_20 v63_21 v63_22 v63_24 v63_25 v63_26 v63_27 v63_28 v63_29 v63_30 v63_31 v63_32 v63_33=>V.jn (V.joinF Zd.E Tryz.f89.ntmps [1,1,1,1,1,1,1,1] [] (V.codeOf Tryz.f89) (Zd.kt x0 x1)) (Zd.s63 x0 v11_33 y1 y2 v63_1 v63_2 v63_18 v63_19 v63_20 v63_21 v63_22 v63_24 v63_25 v63_26 v63_27 v63_28 v63_29 v63_30 v63_31 v63_32 v63_33)) v13_1 v13_2 v13_36:=by kernel_rfl
theorem Zd.e13 (x0:(Z3))(x1:Z0)(v11_33:Int)(v11_35:Int)(y1:Z0)(y2:Int)(v13_1:Int)(v13_2:Int)(v13_36:Int):V.jn (V.joinF Zd.E Tryz.f89.ntmps [1,1,1,1,1] [] (V.codeOf Tryz.f89) (Zd.kt x0 x1)) (Zd.s13 x0 x1 v11_33 v11_35 y1 y2 v13_1 v13_2 v13_36)=Zd.l13 x0 x1 v11_33 v11_35 y1 y2 v13_1 v13_2 v13_36:=by
 rw[V.jn_eq,Zd.r13]
 simp only[Zd.e25,Zd.e41,Zd.e63]
 rfl
theorem Zd.r11 (x0:(Z3))(x1:Z0)(y1:Z0)(y2:Int)(v11_1:Int)(v11_2:Int)(v11_33:Int)(v11_35:Int):V.joinF Zd.E Tryz.f89.ntmps [1,1,1,1] [] (V.codeOf Tryz.f89) (Zd.kt x0 x1) (Zd.s11 x0 x1 y1 y2 v11_1 v11_2 v11_33 v11_35)=Zd.g11 x0 x1 y1 y2 (fun y1 y2 v13_1 v13_2 v13_36=>V.jn (V.joinF Zd.E Tryz.f89.ntmps [1,1,1,1,1] [] (V.codeOf Tryz.f89) (Zd.kt x0 x1)) (Zd.s13 x0 x1 v11_33 v11_35 y1 y2 v13_1 v13_2 v13_36)) v11_1 v11_2 v11_33 v11_35:=by kernel_rfl
theorem Zd.e11 (x0:(Z3))(x1:Z0)(y1:Z0)(y2:Int)(v11_1:Int)(v11_2:Int)(v11_33:Int)(v11_35:Int):V.jn (V.joinF Zd.E Tryz.f89.ntmps [1,1,1,1] [] (V.codeOf Tryz.f89) (Zd.kt x0 x1)) (Zd.s11 x0 x1 y1 y2 v11_1 v11_2 v11_33 v11_35)=Zd.l11 x0 x1 y1 y2 v11_1 v11_2 v11_33 v11_35:=by
 rw[V.jn_eq,Zd.r11]
 simp only[Zd.e13]
 rfl
noncomputable abbrev Zd.s (x0:(Z3))(x1:Z0):V.St:=⟨[(0, .v false [.ptr 0 0]),(1, .v true (V.lsHead x1))],[(0, .box [.val (.sl (.cons (.int .u8) .nil) x0.1), .vi (x0.2.1), .vi (x0.2.2)])]⟩
theorem Zd.v0 (x0:(Z3))(x1:Z0):V.evBody Zd.E Zd.con Tryz.f89 (V.fl2 x0 x1)=V.evC Zd.E Tryz.f89.ntmps (V.codeOf Tryz.f89) (Zd.kt x0 x1) (Zd.s x0 x1):=by kernel_rfl
theorem Zd.v (x0:(Z3))(x1:Z0):V.evC Zd.E Tryz.f89.ntmps (V.codeOf Tryz.f89) (Zd.kt x0 x1) (Zd.s x0 x1)=Zd.b x0 x1 (fun y1 y2 v11_1 v11_2 v11_33 v11_35=>V.jn (V.joinF Zd.E Tryz.f89.ntmps [1,1,1,1] [] (V.codeOf Tryz.f89) (Zd.kt x0 x1)) (Zd.s11 x0 x1 y1 y2 v11_1 v11_2 v11_33 v11_35)):=by kernel_rfl
theorem Zd.eq (x0:(Z3))(x1:Z0):V.evBody Zd.E Zd.con Tryz.f89 (V.fl2 x0 x1)=Zd x0 x1:=by
 rw[Zd.v0,Zd.v]
 simp only[Zd.e11]
 rfl
theorem Zd.ok :V.Valid Tryz.prog 89 Zd.con:=
 V.fo (V.tab_cons Zm.ok (V.tab_cons Xw.ok (V.tab_cons XN.ok (V.tab_cons X3.ok (V.tab_cons Y6.ok (V.tab_cons ZK.ok (V.tab_cons YU.ok (V.tab_cons YX.ok (V.tab_cons X4.ok V.tab_nil))))))))) Tryz.func89 (by kernel_rfl) (fun x y h=>(show V.evBody Zd.E Zd.con Tryz.f89 x=_ from Zd.eq (V.p2_0 x) (V.p2_1 x)).trans (V.cfl (by kernel_rfl) h))
noncomputable abbrev WF.con :V.Con:=⟨(V.ci (V.ci (.cons (.sl (V.ci .nil)) .nil))),(.cons .bool .nil),fun(x:Int×Int×List Int)=>WF (x.1,x.2.1) x.2.2,[],[(true,2),(false,1)],[(false,1)],[false],[]⟩
noncomputable abbrev WF.E :V.Env:=V.mkE V.tys [(78,Yg.con),(162,W2.con)] [] [(1,10)] [] [] []
theorem WF.eq (x0:Zb)(x1:List Int):V.evBody WF.E WF.con Tryz.f176 ((x0.1,x0.2,x1):Int×Int×List Int)=WF x0 x1:=by kernel_rfl
theorem WF.ok :V.Valid Tryz.prog 176 WF.con:=
 V.fo (V.tab_cons Yg.ok (V.tab_cons W2.ok V.tab_nil)) Tryz.func176 (by kernel_rfl) (fun x y h=>(show V.evBody WF.E WF.con Tryz.f176 x=_ from WF.eq (x.1,x.2.1) x.2.2).trans (V.cfl (by kernel_rfl) h))
noncomputable abbrev Zo.con :V.Con:=⟨(.cons (.sl (V.ci .nil)) (V.ci (.cons (.sl (V.ci .nil)) (.cons (.sl (V.ci (V.ci .nil))) .nil)))),(V.ci .nil),fun(x:List Int×Int×List Int×List Zb)=>Zo (x.1,x.2.1) x.2.2.1 x.2.2.2,[],[(true,2),(false,1),(false,1)],[(false,1)],[false],[]⟩
noncomputable abbrev Zo.E :V.Env:=V.mkE V.tys [(176,WF.con)] [(6,[1,2,3,7,8],[]),(12,[1,2,3,7,8,9],[]),(19,[1,2,3,7,8,9,41],[])] [(8,17)] [] [] []
noncomputable abbrev Zo.kt (x0:Z5)(x1:List Int)(x2:List Zb):V.Kt Int:=V.ktOf Zo.E Zo.con Tryz.f166 ((x0.1,x0.2,x1,x2):List Int×Int×List Int×List Zb)
noncomputable abbrev Zo.s19 (x0:Z5)(x1:List Int)(x2:List Zb)(v6_2:Int)(v6_3:Int)(v12_4:Int)(v19_5:Bool):V.St:=⟨[(1, .v false [.val (.sl (V.ci .nil) x1)]),(2, .v false [.val (.sl (V.ci (V.ci .nil)) x2)]),(3, .v false [.ptr 64000 0]),(7, .v false [.vi (v6_2)]),(8, .v false [.vi (v6_3)]),(9, .v false [.vi (v12_4)]),(41, .v false [.val (.bool v19_5)])],[(64000, .box [.val (.sl (V.ci .nil) x0.1), .vi (x0.2)])]⟩
noncomputable abbrev Zo.s12 (x0:Z5)(x1:List Int)(x2:List Zb)(v6_2:Int)(v6_3:Int)(v12_4:Int):V.St:=⟨[(1, .v false [.val (.sl (V.ci .nil) x1)]),(2, .v false [.val (.sl (V.ci (V.ci .nil)) x2)]),(3, .v false [.ptr 64000 0]),(7, .v false [.vi (v6_2)]),(8, .v false [.vi (v6_3)]),(9, .v false [.vi (v12_4)])],[(64000, .box [.val (.sl (V.ci .nil) x0.1), .vi (x0.2)])]⟩
noncomputable abbrev Zo.s6 (x0:Z5)(x1:List Int)(x2:List Zb)(v6_2:Int)(v6_3:Int):V.St:=⟨[(1, .v false [.val (.sl (V.ci .nil) x1)]),(2, .v false [.val (.sl (V.ci (V.ci .nil)) x2)]),(3, .v false [.ptr 64000 0]),(7, .v false [.vi (v6_2)]),(8, .v false [.vi (v6_3)])],[(64000, .box [.val (.sl (V.ci .nil) x0.1), .vi (x0.2)])]⟩
theorem Zo.r19 (x0:Z5)(x1:List Int)(x2:List Zb)(v12_4:Int)(v6_2:Int)(v6_3:Int)(R6:V.St→Option Int)(R12:V.St→Option Int)(v19_5:Bool):V.joinF Zo.E Tryz.f166.ntmps [1,1,0,1,0,0,1,0,0,1,0,0,1,0,0] [R6,R12] (V.codeOf Tryz.f166) (Zo.kt x0 x1 x2) (Zo.s19 x0 x1 x2 v6_2 v6_3 v12_4 v19_5)=Zo.g19 x0 x1 x2 v6_2 v6_3 v12_4 (fun v6_2 v6_3=>R6 (Zo.s6 x0 x1 x2 v6_2 v6_3)) (fun v12_4=>R12 (Zo.s12 x0 x1 x2 v6_2 v6_3 v12_4)) v19_5:=by kernel_rfl
theorem Zo.e19 (x0:Z5)(x1:List Int)(x2:List Zb)(v12_4:Int)(v6_2:Int)(v6_3:Int)(R6:V.St→Option Int)(R12:V.St→Option Int)(v19_5:Bool):V.jn (V.joinF Zo.E Tryz.f166.ntmps [1,1,0,1,0,0,1,0,0,1,0,0,1,0,0] [R6,R12] (V.codeOf Tryz.f166) (Zo.kt x0 x1 x2)) (Zo.s19 x0 x1 x2 v6_2 v6_3 v12_4 v19_5)=Zo.l19 x0 x1 x2 v6_2 v6_3 v12_4 (fun v6_2 v6_3=>R6 (Zo.s6 x0 x1 x2 v6_2 v6_3)) (fun v12_4=>R12 (Zo.s12 x0 x1 x2 v6_2 v6_3 v12_4)) v19_5:=by
 rw[V.jn_eq,Zo.r19]
 rfl
theorem Zo.r12 (x0:Z5)(x1:List Int)(x2:List Zb)(v6_2:Int)(v6_3:Int)(R6:V.St→Option Int)(R:V.St→Option Int)(v12_4:Int):V.loopF Zo.E Tryz.f166.ntmps [1,1,0,1,0,0,1,0,0,1,0] [R6] (V.codeOf Tryz.f166) (Zo.kt x0 x1 x2) R (Zo.s12 x0 x1 x2 v6_2 v6_3 v12_4)=Zo.g12 x0 x1 x2 v6_2 v6_3 (fun v6_2 v6_3=>R6 (Zo.s6 x0 x1 x2 v6_2 v6_3)) (fun v12_4=>R (Zo.s12 x0 x1 x2 v6_2 v6_3 v12_4)) (fun v19_5=>V.jn (V.joinF Zo.E Tryz.f166.ntmps [1,1,0,1,0,0,1,0,0,1,0,0,1,0,0] [R6,R] (V.codeOf Tryz.f166) (Zo.kt x0 x1 x2)) (Zo.s19 x0 x1 x2 v6_2 v6_3 v12_4 v19_5)) v12_4:=by kernel_rfl
theorem Zo.e12 (x0:Z5)(x1:List Int)(x2:List Zb)(v6_2:Int)(v6_3:Int)(R6:V.St→Option Int):∀(n:Nat) (v12_4:Int),V.loopN (V.loopF Zo.E Tryz.f166.ntmps [1,1,0,1,0,0,1,0,0,1,0] [R6] (V.codeOf Tryz.f166) (Zo.kt x0 x1 x2)) n (Zo.s12 x0 x1 x2 v6_2 v6_3 v12_4)=Zo.l12 x0 x1 x2 v6_2 v6_3 (fun v6_2 v6_3=>R6 (Zo.s6 x0 x1 x2 v6_2 v6_3)) n v12_4:=by
 intro n
 induction n with
 |zero=>intros;rw[V.loopN_z];rfl
 |succ n ih=>
  intro v12_4
  rw[V.loopN_s,Zo.r12]
  simp only[Zo.e19,ih]
  first|exact(Zo.u12 ..).symm|rfl
theorem Zo.r6 (x0:Z5)(x1:List Int)(x2:List Zb)(R:V.St→Option Int)(v6_2:Int)(v6_3:Int):V.loopF Zo.E Tryz.f166.ntmps [1,1,0,1,0] [] (V.codeOf Tryz.f166) (Zo.kt x0 x1 x2) R (Zo.s6 x0 x1 x2 v6_2 v6_3)=Zo.g6 x0 x1 x2 (fun v6_2 v6_3=>R (Zo.s6 x0 x1 x2 v6_2 v6_3)) (fun v12_4=>V.loopN (V.loopF Zo.E Tryz.f166.ntmps [1,1,0,1,0,0,1,0,0,1,0] [R] (V.codeOf Tryz.f166) (Zo.kt x0 x1 x2)) V.KK (Zo.s12 x0 x1 x2 v6_2 v6_3 v12_4)) v6_2 v6_3:=by kernel_rfl
theorem Zo.e6 (x0:Z5)(x1:List Int)(x2:List Zb):∀(n:Nat) (v6_2:Int) (v6_3:Int),V.loopN (V.loopF Zo.E Tryz.f166.ntmps [1,1,0,1,0] [] (V.codeOf Tryz.f166) (Zo.kt x0 x1 x2)) n (Zo.s6 x0 x1 x2 v6_2 v6_3)=Zo.l6 x0 x1 x2 n v6_2 v6_3:=by
 intro n
 induction n with
 |zero=>intros;rw[V.loopN_z];rfl
 |succ n ih=>
  intro v6_2 v6_3
  rw[V.loopN_s,Zo.r6]
  simp only[Zo.e12,ih]
  first|exact(Zo.u6 ..).symm|rfl
theorem Zo.v (x0:Z5)(x1:List Int)(x2:List Zb):V.evBody Zo.E Zo.con Tryz.f166 ((x0.1,x0.2,x1,x2):List Int×Int×List Int×List Zb)=Zo.b x0 x1 x2 (fun v6_2 v6_3=>V.loopN (V.loopF Zo.E Tryz.f166.ntmps [1,1,0,1,0] [] (V.codeOf Tryz.f166) (Zo.kt x0 x1 x2)) V.KK (Zo.s6 x0 x1 x2 v6_2 v6_3)):=by kernel_rfl
theorem Zo.eq (x0:Z5)(x1:List Int)(x2:List Zb):V.evBody Zo.E Zo.con Tryz.f166 ((x0.1,x0.2,x1,x2):List Int×Int×List Int×List Zb)=Zo x0 x1 x2:=by
 rw[Zo.v]
 simp only[Zo.e6]
 rfl
theorem Zo.ok :V.Valid Tryz.prog 166 Zo.con:=
 V.fo (V.tab_cons WF.ok V.tab_nil) Tryz.func166 (by kernel_rfl) (fun x y h=>(show V.evBody Zo.E Zo.con Tryz.f166 x=_ from Zo.eq (x.1,x.2.1) x.2.2.1 x.2.2.2).trans (V.cfl (by kernel_rfl) h))
noncomputable abbrev W1.con :V.Con:=⟨(.cons (.sl (V.ci .nil)) (V.ci (.cons (.sl (V.ci .nil)) (.cons (.sl (V.ci (V.ci .nil))) .nil)))),(.cons .bool .nil),fun(x:List Int×Int×List Int×List Zb)=>W1 (x.1,x.2.1) x.2.2.1 x.2.2.2,[],[(true,2),(false,1),(false,1)],[(false,1)],[false],[]⟩
noncomputable abbrev W1.E :V.Env:=V.mkE V.tys [(114,ZU.con),(166,Zo.con)] [] [(1,9)] [] [] []
theorem W1.eq (x0:Z5)(x1:List Int)(x2:List Zb):V.evBody W1.E W1.con Tryz.f155 ((x0.1,x0.2,x1,x2):List Int×Int×List Int×List Zb)=W1 x0 x1 x2:=by kernel_rfl
theorem W1.ok :V.Valid Tryz.prog 155 W1.con:=
 V.fo (V.tab_cons ZU.ok (V.tab_cons Zo.ok V.tab_nil)) Tryz.func155 (by kernel_rfl) (fun x y h=>(show V.evBody W1.E W1.con Tryz.f155 x=_ from W1.eq (x.1,x.2.1) x.2.2.1 x.2.2.2).trans (V.cfl (by kernel_rfl) h))
noncomputable abbrev Xm.con :V.Con:=⟨V.A3,(.cons .bool .nil),fun(x:V.D3)=>Xm (V.p3_0 x),[],[(true,17)],[(false,1)],[false],[]⟩
noncomputable abbrev Xm.E :V.Env:=V.mkE V.tys [(77,Zq.con),(116,YW.con),(149,W3.con),(155,W1.con)] [] [(2,34)] [] [] []
noncomputable abbrev Xm.kt (x0:Z6):V.Kt Bool:=V.ktOf Xm.E Xm.con Tryz.f173 (V.fl3 x0)
noncomputable abbrev Xm.s (x0:Z6):V.St:=⟨[(0, .v true (V.lsSigned x0))],[]⟩
theorem Xm.v0 (x0:Z6):V.evBody Xm.E Xm.con Tryz.f173 (V.fl3 x0)=V.evC Xm.E Tryz.f173.ntmps (V.codeOf Tryz.f173) (Xm.kt x0) (Xm.s x0):=by kernel_rfl
theorem Xm.v (x0:Z6):V.evC Xm.E Tryz.f173.ntmps (V.codeOf Tryz.f173) (Xm.kt x0) (Xm.s x0)=Xm x0:=by kernel_rfl
theorem Xm.eq (x0:Z6):V.evBody Xm.E Xm.con Tryz.f173 (V.fl3 x0)=Xm x0:=(Xm.v0 x0).trans (Xm.v x0)
theorem Xm.ok :V.Valid Tryz.prog 173 Xm.con:=
 V.fo (V.tab_cons Zq.ok (V.tab_cons YW.ok (V.tab_cons W3.ok (V.tab_cons W1.ok V.tab_nil)))) Tryz.func173 (by kernel_rfl) (fun x y h=>(show V.evBody Xm.E Xm.con Tryz.f173 x=_ from Xm.eq (V.p3_0 x)).trans (V.cfl (by kernel_rfl) h))
noncomputable abbrev Xq.con :V.Con:=⟨V.A4,(V.ci .nil),fun(x:V.D4)=>Xq (V.p4_0 x) (V.p4_1 x),[],[(true,16),(true,16)],[(false,1)],[false],[]⟩
noncomputable abbrev Xq.E :V.Env:=V.mkE V.tys [] [] [] [] [] []
noncomputable abbrev Xq.kt (x0:Z0)(x1:Z0):V.Kt Int:=V.ktOf Xq.E Xq.con Tryz.f152 (V.fl4 x0 x1)
noncomputable abbrev Xq.s (x0:Z0)(x1:Z0):V.St:=⟨[(0, .v true (V.lsHead x0)),(1, .v true (V.lsHead x1))],[]⟩
theorem Xq.v0 (x0:Z0)(x1:Z0):V.evBody Xq.E Xq.con Tryz.f152 (V.fl4 x0 x1)=V.evC Xq.E Tryz.f152.ntmps (V.codeOf Tryz.f152) (Xq.kt x0 x1) (Xq.s x0 x1):=by kernel_rfl
theorem Xq.v (x0:Z0)(x1:Z0):V.evC Xq.E Tryz.f152.ntmps (V.codeOf Tryz.f152) (Xq.kt x0 x1) (Xq.s x0 x1)=Xq x0 x1:=by kernel_rfl
theorem Xq.eq (x0:Z0)(x1:Z0):V.evBody Xq.E Xq.con Tryz.f152 (V.fl4 x0 x1)=Xq x0 x1:=(Xq.v0 x0 x1).trans (Xq.v x0 x1)
theorem Xq.ok :V.Valid Tryz.prog 152 Xq.con:=
 V.fo V.tab_nil Tryz.func152 (by kernel_rfl) (fun x y h=>(show V.evBody Xq.E Xq.con Tryz.f152 x=_ from Xq.eq (V.p4_0 x) (V.p4_1 x)).trans (V.cfl (by kernel_rfl) h))
noncomputable abbrev Y8.con :V.Con:=⟨(.cons (.sl (V.ci .nil)) (.cons (.sl (V.ci .nil)) .nil)),(.cons .bool .nil),fun(x:List Int×List Int)=>Y8 x.1 x.2,[],[(false,1),(false,1)],[(false,1)],[false],[]⟩
noncomputable abbrev Y8.E :V.Env:=V.mkE V.tys [] [(8,[0,1,5],[])] [(6,8)] [] [] []
noncomputable abbrev Y8.kt (x0:List Int)(x1:List Int):V.Kt Bool:=V.ktOf Y8.E Y8.con Tryz.f175 ((x0,x1):List Int×List Int)
noncomputable abbrev Y8.s8 (x0:List Int)(x1:List Int)(v8_2:Int):V.St:=⟨[(0, .v false [.val (.sl (V.ci .nil) x0)]),(1, .v false [.val (.sl (V.ci .nil) x1)]),(5, .v false [.vi (v8_2)])],[]⟩
theorem Y8.r8 (x0:List Int)(x1:List Int)(R:V.St→Option Bool)(v8_2:Int):V.loopF Y8.E Tryz.f175.ntmps [1,1,0,1,0] [] (V.codeOf Tryz.f175) (Y8.kt x0 x1) R (Y8.s8 x0 x1 v8_2)=Y8.g8 x0 x1 (fun v8_2=>R (Y8.s8 x0 x1 v8_2)) v8_2:=by kernel_rfl
theorem Y8.e8 (x0:List Int)(x1:List Int):∀(n:Nat) (v8_2:Int),V.loopN (V.loopF Y8.E Tryz.f175.ntmps [1,1,0,1,0] [] (V.codeOf Tryz.f175) (Y8.kt x0 x1)) n (Y8.s8 x0 x1 v8_2)=Y8.l8 x0 x1 n v8_2:=by
 intro n
 induction n with
 |zero=>intros;rw[V.loopN_z];rfl
 |succ n ih=>
  intro v8_2
  rw[V.loopN_s,Y8.r8]
  simp only[ih]
  first|exact(Y8.u8 ..).symm|rfl
theorem Y8.v (x0:List Int)(x1:List Int):V.evBody Y8.E Y8.con Tryz.f175 ((x0,x1):List Int×List Int)=Y8.b x0 x1 (fun v8_2=>V.loopN (V.loopF Y8.E Tryz.f175.ntmps [1,1,0,1,0] [] (V.codeOf Tryz.f175) (Y8.kt x0 x1)) V.KK (Y8.s8 x0 x1 v8_2)):=by kernel_rfl
theorem Y8.eq (x0:List Int)(x1:List Int):V.evBody Y8.E Y8.con Tryz.f175 ((x0,x1):List Int×List Int)=Y8 x0 x1:=by
 rw[Y8.v]
 simp only[Y8.e8]
 rfl
theorem Y8.ok :V.Valid Tryz.prog 175 Y8.con:=
 V.fo V.tab_nil Tryz.func175 (by kernel_rfl) (fun x y h=>(show V.evBody Y8.E Y8.con Tryz.f175 x=_ from Y8.eq x.1 x.2).trans (V.cfl (by kernel_rfl) h))
noncomputable abbrev XT.con :V.Con:=⟨(.cons (.sl (V.ci .nil)) (V.ci (.cons (.sl (V.ci .nil)) (V.ci .nil)))),(.cons .bool .nil),fun(x:List Int×Int×List Int×Int)=>XT (x.1,x.2.1) x.2.2,[],[(true,2),(true,2)],[(false,1)],[false],[]⟩
noncomputable abbrev XT.E :V.Env:=V.mkE V.tys [(175,Y8.con)] [] [] [] [] []
theorem XT.eq (x0:Z5)(x1:Z5):V.evBody XT.E XT.con Tryz.f164 ((x0.1,x0.2,x1.1,x1.2):List Int×Int×List Int×Int)=XT x0 x1:=by kernel_rfl
theorem XT.ok :V.Valid Tryz.prog 164 XT.con:=
 V.fo (V.tab_cons Y8.ok V.tab_nil) Tryz.func164 (by kernel_rfl) (fun x y h=>(show V.evBody XT.E XT.con Tryz.f164 x=_ from XT.eq (x.1,x.2.1) x.2.2).trans (V.cfl (by kernel_rfl) h))
noncomputable abbrev X9.con :V.Con:=⟨V.A4,(.cons .bool .nil),fun(x:V.D4)=>X9 (V.p4_0 x) (V.p4_1 x),[],[(true,16),(true,16)],[(false,1)],[false],[]⟩
noncomputable abbrev X9.E :V.Env:=V.mkE V.tys [] [] [] [] [] []
noncomputable abbrev X9.kt (x0:Z0)(x1:Z0):V.Kt Bool:=V.ktOf X9.E X9.con Tryz.f165 (V.fl4 x0 x1)
noncomputable abbrev X9.s (x0:Z0)(x1:Z0):V.St:=⟨[(0, .v true (V.lsHead x0)),(1, .v true (V.lsHead x1))],[]⟩
theorem X9.v0 (x0:Z0)(x1:Z0):V.evBody X9.E X9.con Tryz.f165 (V.fl4 x0 x1)=V.evC X9.E Tryz.f165.ntmps (V.codeOf Tryz.f165) (X9.kt x0 x1) (X9.s x0 x1):=by kernel_rfl
theorem X9.v (x0:Z0)(x1:Z0):V.evC X9.E Tryz.f165.ntmps (V.codeOf Tryz.f165) (X9.kt x0 x1) (X9.s x0 x1)=X9 x0 x1:=by kernel_rfl
theorem X9.eq (x0:Z0)(x1:Z0):V.evBody X9.E X9.con Tryz.f165 (V.fl4 x0 x1)=X9 x0 x1:=(X9.v0 x0 x1).trans (X9.v x0 x1)
theorem X9.ok :V.Valid Tryz.prog 165 X9.con:=
 V.fo V.tab_nil Tryz.func165 (by kernel_rfl) (fun x y h=>(show V.evBody X9.E X9.con Tryz.f165 x=_ from X9.eq (V.p4_0 x) (V.p4_1 x)).trans (V.cfl (by kernel_rfl) h))
noncomputable abbrev Yb.con :V.Con:=⟨V.A4,(V.ci .nil),fun(x:V.D4)=>Yb (V.p4_0 x) (V.p4_1 x),[],[(true,16),(true,16)],[(false,1)],[false],[]⟩
noncomputable abbrev Yb.E :V.Env:=V.mkE V.tys [(50,Xx.con),(164,XT.con),(165,X9.con)] [(9,[2,3,8],[])] [] [] [] []
noncomputable abbrev Yb.kt (x0:Z0)(x1:Z0):V.Kt Int:=V.ktOf Yb.E Yb.con Tryz.f153 (V.fl4 x0 x1)
noncomputable abbrev Yb.s9 (x0:Z0)(x1:Z0)(v9_0:Bool):V.St:=⟨[(2, .v false [.ptr 64000 0]),(3, .v false [.ptr 64064 0]),(8, .v false [.val (.bool v9_0)])],[(64000, .box (V.lsHead x0)),(64064, .box (V.lsHead x1))]⟩
theorem Yb.r9 (x0:Z0)(x1:Z0)(v9_0:Bool):V.joinF Yb.E Tryz.f153.ntmps [1,0,0,1,1] [] (V.codeOf Tryz.f153) (Yb.kt x0 x1) (Yb.s9 x0 x1 v9_0)=Yb.g9 x0 x1 v9_0:=by kernel_rfl
theorem Yb.e9 (x0:Z0)(x1:Z0)(v9_0:Bool):V.jn (V.joinF Yb.E Tryz.f153.ntmps [1,0,0,1,1] [] (V.codeOf Tryz.f153) (Yb.kt x0 x1)) (Yb.s9 x0 x1 v9_0)=Yb.l9 x0 x1 v9_0:=by
 rw[V.jn_eq,Yb.r9]
 rfl
noncomputable abbrev Yb.s (x0:Z0)(x1:Z0):V.St:=⟨[(0, .v true (V.lsHead x0)),(1, .v true (V.lsHead x1))],[]⟩
theorem Yb.v0 (x0:Z0)(x1:Z0):V.evBody Yb.E Yb.con Tryz.f153 (V.fl4 x0 x1)=V.evC Yb.E Tryz.f153.ntmps (V.codeOf Tryz.f153) (Yb.kt x0 x1) (Yb.s x0 x1):=by kernel_rfl
theorem Yb.v (x0:Z0)(x1:Z0):V.evC Yb.E Tryz.f153.ntmps (V.codeOf Tryz.f153) (Yb.kt x0 x1) (Yb.s x0 x1)=Yb.b x0 x1 (fun v9_0=>V.jn (V.joinF Yb.E Tryz.f153.ntmps [1,0,0,1,1] [] (V.codeOf Tryz.f153) (Yb.kt x0 x1)) (Yb.s9 x0 x1 v9_0)):=by kernel_rfl
theorem Yb.eq (x0:Z0)(x1:Z0):V.evBody Yb.E Yb.con Tryz.f153 (V.fl4 x0 x1)=Yb x0 x1:=by
 rw[Yb.v0,Yb.v]
 simp only[Yb.e9]
 rfl
theorem Yb.ok :V.Valid Tryz.prog 153 Yb.con:=
 V.fo (V.tab_cons Xx.ok (V.tab_cons XT.ok (V.tab_cons X9.ok V.tab_nil))) Tryz.func153 (by kernel_rfl) (fun x y h=>(show V.evBody Yb.E Yb.con Tryz.f153 x=_ from Yb.eq (V.p4_0 x) (V.p4_1 x)).trans (V.cfl (by kernel_rfl) h))
noncomputable abbrev Yc.con :V.Con:=⟨V.A4,(V.ci .nil),fun(x:V.D4)=>Yc (V.p4_0 x) (V.p4_1 x),[],[(true,16),(true,16)],[(false,1)],[false],[]⟩
noncomputable abbrev Yc.E :V.Env:=V.mkE V.tys [(50,Xx.con),(164,XT.con),(165,X9.con)] [(9,[2,3,9],[])] [] [] [] []
noncomputable abbrev Yc.kt (x0:Z0)(x1:Z0):V.Kt Int:=V.ktOf Yc.E Yc.con Tryz.f154 (V.fl4 x0 x1)
noncomputable abbrev Yc.s9 (x0:Z0)(x1:Z0)(v9_0:Bool):V.St:=⟨[(2, .v false [.ptr 64000 0]),(3, .v false [.ptr 64064 0]),(9, .v false [.val (.bool v9_0)])],[(64000, .box (V.lsHead x0)),(64064, .box (V.lsHead x1))]⟩
theorem Yc.r9 (x0:Z0)(x1:Z0)(v9_0:Bool):V.joinF Yc.E Tryz.f154.ntmps [1,0,0,1,1] [] (V.codeOf Tryz.f154) (Yc.kt x0 x1) (Yc.s9 x0 x1 v9_0)=Yc.g9 x0 x1 v9_0:=by kernel_rfl
theorem Yc.e9 (x0:Z0)(x1:Z0)(v9_0:Bool):V.jn (V.joinF Yc.E Tryz.f154.ntmps [1,0,0,1,1] [] (V.codeOf Tryz.f154) (Yc.kt x0 x1)) (Yc.s9 x0 x1 v9_0)=Yc.l9 x0 x1 v9_0:=by
 rw[V.jn_eq,Yc.r9]
 rfl
noncomputable abbrev Yc.s (x0:Z0)(x1:Z0):V.St:=⟨[(0, .v true (V.lsHead x0)),(1, .v true (V.lsHead x1))],[]⟩
theorem Yc.v0 (x0:Z0)(x1:Z0):V.evBody Yc.E Yc.con Tryz.f154 (V.fl4 x0 x1)=V.evC Yc.E Tryz.f154.ntmps (V.codeOf Tryz.f154) (Yc.kt x0 x1) (Yc.s x0 x1):=by kernel_rfl
theorem Yc.v (x0:Z0)(x1:Z0):V.evC Yc.E Tryz.f154.ntmps (V.codeOf Tryz.f154) (Yc.kt x0 x1) (Yc.s x0 x1)=Yc.b x0 x1 (fun v9_0=>V.jn (V.joinF Yc.E Tryz.f154.ntmps [1,0,0,1,1] [] (V.codeOf Tryz.f154) (Yc.kt x0 x1)) (Yc.s9 x0 x1 v9_0)):=by kernel_rfl
theorem Yc.eq (x0:Z0)(x1:Z0):V.evBody Yc.E Yc.con Tryz.f154 (V.fl4 x0 x1)=Yc x0 x1:=by
 rw[Yc.v0,Yc.v]
 simp only[Yc.e9]
 rfl
theorem Yc.ok :V.Valid Tryz.prog 154 Yc.con:=
 V.fo (V.tab_cons Xx.ok (V.tab_cons XT.ok (V.tab_cons X9.ok V.tab_nil))) Tryz.func154 (by kernel_rfl) (fun x y h=>(show V.evBody Yc.E Yc.con Tryz.f154 x=_ from Yc.eq (V.p4_0 x) (V.p4_1 x)).trans (V.cfl (by kernel_rfl) h))
noncomputable abbrev Zu.con :V.Con:=⟨V.A5,(V.ci .nil),fun(x:V.D5)=>Zu (V.p5_0 x) (V.p5_1 x),[],[(true,16),(true,17)],[(false,1)],[false],[]⟩
noncomputable abbrev Zu.E :V.Env:=V.mkE V.tys [(77,Zq.con),(80,YX.con),(116,YW.con),(152,Xq.con),(153,Yb.con),(154,Yc.con),(155,W1.con)] [(9,[2,3,5],[]),(13,[2,3,5],[]),(31,[3,5,6,7],[])] [(4,25),(15,8)] [] [] []
noncomputable abbrev Zu.kt (x0:Z0)(x1:Z6):V.Kt Int:=V.ktOf Zu.E Zu.con Tryz.f125 (V.fl5 x0 x1)
noncomputable abbrev Zu.s31 (x1:Z6)(v31_0:Int)(v31_34:List Int)(v31_35:Int):V.St:=⟨[(3, .v false [.ptr 64064 0]),(5, .v false [.ptr 128128 0]),(6, .v false [.vi (v31_0)]),(7, .v false [.ptr 512128 0])],[(64064, .box (V.lsSigned x1)),(128128, .box [.vi (x1.1), .vi (x1.2.1), .vi (x1.2.2.1), .vi (x1.2.2.2.1), .vi (x1.2.2.2.2.1), .vi (x1.2.2.2.2.2.1), .vi (x1.2.2.2.2.2.2.1), .vi (x1.2.2.2.2.2.2.2.1), .val (.sl (V.ci .nil) x1.2.2.2.2.2.2.2.2.1), .vi (x1.2.2.2.2.2.2.2.2.2.1), .val (.sl (V.ci .nil) x1.2.2.2.2.2.2.2.2.2.2.1), .vi (x1.2.2.2.2.2.2.2.2.2.2.2.1), .vi (x1.2.2.2.2.2.2.2.2.2.2.2.2.1), .val (.sl (V.ci .nil) x1.2.2.2.2.2.2.2.2.2.2.2.2.2.1), .vi (x1.2.2.2.2.2.2.2.2.2.2.2.2.2.2.1), .val (.bool x1.2.2.2.2.2.2.2.2.2.2.2.2.2.2.2.1)]),(512128, .box [.val (.sl (V.ci .nil) v31_34), .vi (v31_35)])]⟩
noncomputable abbrev Zu.s13 (x0:Z0)(x1:Z6):V.St:=⟨[(2, .v false [.ptr 64000 0]),(3, .v false [.ptr 64064 0]),(5, .v false [.ptr 128128 0])],[(64000, .box (V.lsHead x0)),(64064, .box (V.lsSigned x1)),(128128, .box [.vi (x1.1), .vi (x1.2.1), .vi (x1.2.2.1), .vi (x1.2.2.2.1), .vi (x1.2.2.2.2.1), .vi (x1.2.2.2.2.2.1), .vi (x1.2.2.2.2.2.2.1), .vi (x1.2.2.2.2.2.2.2.1), .val (.sl (V.ci .nil) x1.2.2.2.2.2.2.2.2.1), .vi (x1.2.2.2.2.2.2.2.2.2.1), .val (.sl (V.ci .nil) x1.2.2.2.2.2.2.2.2.2.2.1), .vi (x1.2.2.2.2.2.2.2.2.2.2.2.1), .vi (x1.2.2.2.2.2.2.2.2.2.2.2.2.1), .val (.sl (V.ci .nil) x1.2.2.2.2.2.2.2.2.2.2.2.2.2.1), .vi (x1.2.2.2.2.2.2.2.2.2.2.2.2.2.2.1), .val (.bool x1.2.2.2.2.2.2.2.2.2.2.2.2.2.2.2.1)])]⟩
noncomputable abbrev Zu.s9 (x0:Z0)(x1:Z6):V.St:=⟨[(2, .v false [.ptr 64000 0]),(3, .v false [.ptr 64064 0]),(5, .v false [.ptr 128128 0])],[(64000, .box (V.lsHead x0)),(64064, .box (V.lsSigned x1)),(128128, .box [.vi (x1.1), .vi (x1.2.1), .vi (x1.2.2.1), .vi (x1.2.2.2.1), .vi (x1.2.2.2.2.1), .vi (x1.2.2.2.2.2.1), .vi (x1.2.2.2.2.2.2.1), .vi (x1.2.2.2.2.2.2.2.1), .val (.sl (V.ci .nil) x1.2.2.2.2.2.2.2.2.1), .vi (x1.2.2.2.2.2.2.2.2.2.1), .val (.sl (V.ci .nil) x1.2.2.2.2.2.2.2.2.2.2.1), .vi (x1.2.2.2.2.2.2.2.2.2.2.2.1), .vi (x1.2.2.2.2.2.2.2.2.2.2.2.2.1), .val (.sl (V.ci .nil) x1.2.2.2.2.2.2.2.2.2.2.2.2.2.1), .vi (x1.2.2.2.2.2.2.2.2.2.2.2.2.2.2.1), .val (.bool x1.2.2.2.2.2.2.2.2.2.2.2.2.2.2.2.1)])]⟩
theorem Zu.r31 (x0:Z0)(x1:Z6)(v31_0:Int)(v31_34:List Int)(v31_35:Int):V.joinF Zu.E Tryz.f125.ntmps [1,1,1,1,1,1] [] (V.codeOf Tryz.f125) (Zu.kt x0 x1) (Zu.s31 x1 v31_0 v31_34 v31_35)=Zu.g31 x1 v31_0 v31_34 v31_35:=by kernel_rfl
theorem Zu.e31 (x0:Z0)(x1:Z6)(v31_0:Int)(v31_34:List Int)(v31_35:Int):V.jn (V.joinF Zu.E Tryz.f125.ntmps [1,1,1,1,1,1] [] (V.codeOf Tryz.f125) (Zu.kt x0 x1)) (Zu.s31 x1 v31_0 v31_34 v31_35)=Zu.l31 x1 v31_0 v31_34 v31_35:=by
 rw[V.jn_eq,Zu.r31]
 rfl
theorem Zu.r13 (x0:Z0)(x1:Z6):V.joinF Zu.E Tryz.f125.ntmps [1,1,1] [] (V.codeOf Tryz.f125) (Zu.kt x0 x1) (Zu.s13 x0 x1)=Zu.g13 x0 x1 (fun v31_0 v31_34 v31_35=>V.jn (V.joinF Zu.E Tryz.f125.ntmps [1,1,1,1,1,1] [] (V.codeOf Tryz.f125) (Zu.kt x0 x1)) (Zu.s31 x1 v31_0 v31_34 v31_35)):=by kernel_rfl
theorem Zu.e13 (x0:Z0)(x1:Z6):V.jn (V.joinF Zu.E Tryz.f125.ntmps [1,1,1] [] (V.codeOf Tryz.f125) (Zu.kt x0 x1)) (Zu.s13 x0 x1)=Zu.l13 x0 x1:=by
 rw[V.jn_eq,Zu.r13]
 simp only[Zu.e31]
 rfl
theorem Zu.r9 (x0:Z0)(x1:Z6):V.joinF Zu.E Tryz.f125.ntmps [1,1] [] (V.codeOf Tryz.f125) (Zu.kt x0 x1) (Zu.s9 x0 x1)=Zu.g9 x0 x1 (V.jn (V.joinF Zu.E Tryz.f125.ntmps [1,1,1] [] (V.codeOf Tryz.f125) (Zu.kt x0 x1)) (Zu.s13 x0 x1)):=by kernel_rfl
theorem Zu.e9 (x0:Z0)(x1:Z6):V.jn (V.joinF Zu.E Tryz.f125.ntmps [1,1] [] (V.codeOf Tryz.f125) (Zu.kt x0 x1)) (Zu.s9 x0 x1)=Zu.l9 x0 x1:=by
 rw[V.jn_eq,Zu.r9]
 simp only[Zu.e13]
 rfl
noncomputable abbrev Zu.s (x0:Z0)(x1:Z6):V.St:=⟨[(0, .v true (V.lsHead x0)),(1, .v true (V.lsSigned x1))],[]⟩
theorem Zu.v0 (x0:Z0)(x1:Z6):V.evBody Zu.E Zu.con Tryz.f125 (V.fl5 x0 x1)=V.evC Zu.E Tryz.f125.ntmps (V.codeOf Tryz.f125) (Zu.kt x0 x1) (Zu.s x0 x1):=by kernel_rfl
theorem Zu.v (x0:Z0)(x1:Z6):V.evC Zu.E Tryz.f125.ntmps (V.codeOf Tryz.f125) (Zu.kt x0 x1) (Zu.s x0 x1)=Zu.b x0 x1 (V.jn (V.joinF Zu.E Tryz.f125.ntmps [1,1] [] (V.codeOf Tryz.f125) (Zu.kt x0 x1)) (Zu.s9 x0 x1)):=by kernel_rfl
theorem Zu.eq (x0:Z0)(x1:Z6):V.evBody Zu.E Zu.con Tryz.f125 (V.fl5 x0 x1)=Zu x0 x1:=by
 rw[Zu.v0,Zu.v]
 simp only[Zu.e9]
 rfl
theorem Zu.ok :V.Valid Tryz.prog 125 Zu.con:=
 V.fo (V.tab_cons Zq.ok (V.tab_cons YX.ok (V.tab_cons YW.ok (V.tab_cons Xq.ok (V.tab_cons Yb.ok (V.tab_cons Yc.ok (V.tab_cons W1.ok V.tab_nil))))))) Tryz.func125 (by kernel_rfl) (fun x y h=>(show V.evBody Zu.E Zu.con Tryz.f125 x=_ from Zu.eq (V.p5_0 x) (V.p5_1 x)).trans (V.cfl (by kernel_rfl) h))
noncomputable abbrev Xn.con :V.Con:=⟨V.A5,(.cons .bool .nil),fun(x:V.D5)=>Xn (V.p5_0 x) (V.p5_1 x),[],[(true,16),(true,17)],[(false,1)],[false],[]⟩
noncomputable abbrev Xn.E :V.Env:=V.mkE V.tys [(125,Zu.con)] [] [] [] [] []
noncomputable abbrev Xn.kt (x0:Z0)(x1:Z6):V.Kt Bool:=V.ktOf Xn.E Xn.con Tryz.f174 (V.fl5 x0 x1)
noncomputable abbrev Xn.s (x0:Z0)(x1:Z6):V.St:=⟨[(0, .v true (V.lsHead x0)),(1, .v true (V.lsSigned x1))],[]⟩
theorem Xn.v0 (x0:Z0)(x1:Z6):V.evBody Xn.E Xn.con Tryz.f174 (V.fl5 x0 x1)=V.evC Xn.E Tryz.f174.ntmps (V.codeOf Tryz.f174) (Xn.kt x0 x1) (Xn.s x0 x1):=by kernel_rfl
theorem Xn.v (x0:Z0)(x1:Z6):V.evC Xn.E Tryz.f174.ntmps (V.codeOf Tryz.f174) (Xn.kt x0 x1) (Xn.s x0 x1)=Xn x0 x1:=by kernel_rfl
theorem Xn.eq (x0:Z0)(x1:Z6):V.evBody Xn.E Xn.con Tryz.f174 (V.fl5 x0 x1)=Xn x0 x1:=(Xn.v0 x0 x1).trans (Xn.v x0 x1)
theorem Xn.ok :V.Valid Tryz.prog 174 Xn.con:=
 V.fo (V.tab_cons Zu.ok V.tab_nil) Tryz.func174 (by kernel_rfl) (fun x y h=>(show V.evBody Xn.E Xn.con Tryz.f174 x=_ from Xn.eq (V.p5_0 x) (V.p5_1 x)).trans (V.cfl (by kernel_rfl) h))
noncomputable abbrev Yf.con :V.Con:=⟨(.cons (.sl V.eSigned) .nil),(V.ci .nil),fun(x:List Z6)=>Yf x,[],[(false,1)],[(false,1)],[false],[]⟩
noncomputable abbrev Yf.E :V.Env:=V.mkE V.tys [(173,Xm.con),(174,Xn.con)] [(4,[0,3],[])] [(4,23)] [] [] []
noncomputable abbrev Yf.kt (x0:List Z6):V.Kt Int:=V.ktOf Yf.E Yf.con Tryz.f163 ((x0):List Z6)
noncomputable abbrev Yf.s4 (x0:List Z6)(v4_1:Int):V.St:=⟨[(0, .v false [.val (.sl V.eSigned x0)]),(3, .v false [.vi (v4_1)])],[]⟩
theorem Yf.r4 (x0:List Z6)(R:V.St→Option Int)(v4_1:Int):V.loopF Yf.E Tryz.f163.ntmps [1,0,1,0] [] (V.codeOf Tryz.f163) (Yf.kt x0) R (Yf.s4 x0 v4_1)=Yf.g4 x0 (fun v4_1=>R (Yf.s4 x0 v4_1)) v4_1:=by kernel_rfl
theorem Yf.e4 (x0:List Z6):∀(n:Nat) (v4_1:Int),V.loopN (V.loopF Yf.E Tryz.f163.ntmps [1,0,1,0] [] (V.codeOf Tryz.f163) (Yf.kt x0)) n (Yf.s4 x0 v4_1)=Yf.l4 x0 n v4_1:=by
 intro n
 induction n with
 |zero=>intros;rw[V.loopN_z];rfl
 |succ n ih=>
  intro v4_1
  rw[V.loopN_s,Yf.r4]
  simp only[ih]
  first|exact(Yf.u4 ..).symm|rfl
theorem Yf.v (x0:List Z6):V.evBody Yf.E Yf.con Tryz.f163 ((x0):List Z6)=Yf.b x0 (fun v4_1=>V.loopN (V.loopF Yf.E Tryz.f163.ntmps [1,0,1,0] [] (V.codeOf Tryz.f163) (Yf.kt x0)) V.KK (Yf.s4 x0 v4_1)):=by kernel_rfl
theorem Yf.eq (x0:List Z6):V.evBody Yf.E Yf.con Tryz.f163 ((x0):List Z6)=Yf x0:=by
 rw[Yf.v]
 simp only[Yf.e4]
 rfl
theorem Yf.ok :V.Valid Tryz.prog 163 Yf.con:=
 V.fo (V.tab_cons Xm.ok (V.tab_cons Xn.ok V.tab_nil)) Tryz.func163 (by kernel_rfl) (fun x y h=>(show V.evBody Yf.E Yf.con Tryz.f163 x=_ from Yf.eq x).trans (V.cfl (by kernel_rfl) h))
noncomputable abbrev WD.con :V.Con:=⟨(.cons (.sl V.eSigned) .nil),(.cons .bool .nil),fun(x:List Z6)=>WD x,[],[(false,1)],[(false,1)],[false],[]⟩
noncomputable abbrev WD.E :V.Env:=V.mkE V.tys [(78,Yg.con),(163,Yf.con)] [] [] [] [] []
theorem WD.eq (x0:List Z6):V.evBody WD.E WD.con Tryz.f151 ((x0):List Z6)=WD x0:=by kernel_rfl
theorem WD.ok :V.Valid Tryz.prog 151 WD.con:=
 V.fo (V.tab_cons Yg.ok (V.tab_cons Yf.ok V.tab_nil)) Tryz.func151 (by kernel_rfl) (fun x y h=>(show V.evBody WD.E WD.con Tryz.f151 x=_ from WD.eq x).trans (V.cfl (by kernel_rfl) h))
noncomputable abbrev WH.con :V.Con:=⟨(.cons (.sl V.eSigned) .nil),V.eRHeadBool,fun(x:List Z6)=>WH x,[],[(false,1)],[(true,16),(false,1)],[false,false,false,false,false,false,false,false,true,false,true,false,false,true,false,false,false],[]⟩
noncomputable abbrev WH.E :V.Env:=V.mkE V.tys [(79,YU.con),(151,WD.con)] [] [] [] [] []
theorem WH.eq (x0:List Z6):V.evBody WH.E WH.con Tryz.f123 ((x0):List Z6)=WH x0:=by kernel_rfl
theorem WH.ok :V.Valid Tryz.prog 123 WH.con:=
 V.fo (V.tab_cons YU.ok (V.tab_cons WD.ok V.tab_nil)) Tryz.func123 (by kernel_rfl) (fun x y h=>(show V.evBody WH.E WH.con Tryz.f123 x=_ from WH.eq x).trans (V.cfl (by kernel_rfl) h))
noncomputable abbrev X5.con :V.Con:=⟨V.A3,V.eSigned,fun(x:V.D3)=>X5 (V.p3_0 x),[],[(true,17)],[(true,17)],[false,false,false,false,false,false,false,false,true,false,true,false,false,true,false,false,true],[]⟩
noncomputable abbrev X5.E :V.Env:=V.mkE V.tys [(79,YU.con)] [] [(1,6)] [] [] []
noncomputable abbrev X5.kt (x0:Z6):V.Kt Z6:=V.ktOf X5.E X5.con Tryz.f126 (V.fl3 x0)
noncomputable abbrev X5.s (x0:Z6):V.St:=⟨[(0, .v true (V.lsSigned x0))],[]⟩
theorem X5.v0 (x0:Z6):V.evBody X5.E X5.con Tryz.f126 (V.fl3 x0)=V.evC X5.E Tryz.f126.ntmps (V.codeOf Tryz.f126) (X5.kt x0) (X5.s x0):=by kernel_rfl
theorem X5.v (x0:Z6):V.evC X5.E Tryz.f126.ntmps (V.codeOf Tryz.f126) (X5.kt x0) (X5.s x0)=X5 x0:=by kernel_rfl
theorem X5.eq (x0:Z6):V.evBody X5.E X5.con Tryz.f126 (V.fl3 x0)=X5 x0:=(X5.v0 x0).trans (X5.v x0)
theorem X5.ok :V.Valid Tryz.prog 126 X5.con:=
 V.fo (V.tab_cons YU.ok V.tab_nil) Tryz.func126 (by kernel_rfl) (fun x y h=>(show V.evBody X5.E X5.con Tryz.f126 x=_ from X5.eq (V.p3_0 x)).trans (V.cfl (by kernel_rfl) h))
noncomputable abbrev Yu.con :V.Con:=⟨(.cons (.sl V.eSigned) .nil),(.cons (.sl V.eSigned) .nil),fun(x:List Z6)=>Yu x,[],[(false,1)],[(false,1)],[true],[]⟩
noncomputable abbrev Yu.E :V.Env:=V.mkE V.tys [(126,X5.con)] [(6,[0,3,4],[(64000038400192,V.eSigned,true)])] [] [] [] []
noncomputable abbrev Yu.kt (x0:List Z6):V.Kt (List Z6):=V.ktOf Yu.E Yu.con Tryz.f124 ((x0):List Z6)
noncomputable abbrev Yu.s6 (x0:List Z6)(v6_1:Int)(v6_2:List Z6):V.St:=⟨[(0, .v false [.val (.sl V.eSigned x0)]),(3, .v false [.ref 64000038400192]),(4, .v false [.vi (v6_1)])],[(64000038400192, .row V.eSigned true v6_2)]⟩
theorem Yu.r6 (x0:List Z6)(R:V.St→Option (List Z6))(v6_1:Int)(v6_2:List Z6):V.loopF Yu.E Tryz.f124.ntmps [1,1,0,1,0] [] (V.codeOf Tryz.f124) (Yu.kt x0) R (Yu.s6 x0 v6_1 v6_2)=Yu.g6 x0 (fun v6_1 v6_2=>R (Yu.s6 x0 v6_1 v6_2)) v6_1 v6_2:=by kernel_rfl
theorem Yu.e6 (x0:List Z6):∀(n:Nat) (v6_1:Int) (v6_2:List Z6),V.loopN (V.loopF Yu.E Tryz.f124.ntmps [1,1,0,1,0] [] (V.codeOf Tryz.f124) (Yu.kt x0)) n (Yu.s6 x0 v6_1 v6_2)=Yu.l6 x0 n v6_1 v6_2:=by
 intro n
 induction n with
 |zero=>intros;rw[V.loopN_z];rfl
 |succ n ih=>
  intro v6_1 v6_2
  rw[V.loopN_s,Yu.r6]
  simp only[ih]
  first|exact(Yu.u6 ..).symm|rfl
theorem Yu.v (x0:List Z6):V.evBody Yu.E Yu.con Tryz.f124 ((x0):List Z6)=Yu.b x0 (fun v6_1 v6_2=>V.loopN (V.loopF Yu.E Tryz.f124.ntmps [1,1,0,1,0] [] (V.codeOf Tryz.f124) (Yu.kt x0)) V.KK (Yu.s6 x0 v6_1 v6_2)):=by kernel_rfl
theorem Yu.eq (x0:List Z6):V.evBody Yu.E Yu.con Tryz.f124 ((x0):List Z6)=Yu x0:=by
 rw[Yu.v]
 simp only[Yu.e6]
 rfl
theorem Yu.ok :V.Valid Tryz.prog 124 Yu.con:=
 V.fo (V.tab_cons X5.ok V.tab_nil) Tryz.func124 (by kernel_rfl) (fun x y h=>(show V.evBody Yu.E Yu.con Tryz.f124 x=_ from Yu.eq x).trans (V.cfl (by kernel_rfl) h))
noncomputable abbrev Yt.con :V.Con:=⟨V.A6,(.cons (.sl V.eSigned) (V.ci .nil)),fun(x:V.D6)=>Yt (V.p6_0 x) (V.p6_1 x),[],[(false,1),(true,17)],[(false,1),(false,1)],[true,false],[]⟩
noncomputable abbrev Yt.E :V.Env:=V.mkE V.tys [(123,WH.con),(124,Yu.con),(125,Zu.con),(126,X5.con)] [(7,[0,3,6,20],[])] [(7,3)] [] [] []
noncomputable abbrev Yt.kt (x0:List Z6)(x1:Z6):V.Kt (List Z6×Int):=V.ktOf Yt.E Yt.con Tryz.f88 (V.fl6 x0 x1)
noncomputable abbrev Yt.s7 (x0:List Z6)(x1:Z6)(y1:Z7)(v7_1:Bool):V.St:=⟨[(0, .v false [.val (.sl V.eSigned x0)]),(3, .v false [.ptr 64000 0]),(6, .v false [.ptr 128320 0]),(20, .v false [.val (.bool v7_1)])],[(64000, .box (V.lsSigned x1)),(128320, .box [.vi (y1.1), .vi (y1.2.1), .vi (y1.2.2.1), .vi (y1.2.2.2.1), .vi (y1.2.2.2.2.1), .vi (y1.2.2.2.2.2.1), .vi (y1.2.2.2.2.2.2.1), .vi (y1.2.2.2.2.2.2.2.1), .ref 64000000000008212488, .vi (y1.2.2.2.2.2.2.2.2.2.1), .ref 64000000000008212490, .vi (y1.2.2.2.2.2.2.2.2.2.2.2.1), .vi (y1.2.2.2.2.2.2.2.2.2.2.2.2.1), .ref 64000000000008212493, .vi (y1.2.2.2.2.2.2.2.2.2.2.2.2.2.2.1), .val (.bool y1.2.2.2.2.2.2.2.2.2.2.2.2.2.2.2.1)]),(64000000000008212488, .row (V.ci .nil) true y1.2.2.2.2.2.2.2.2.1),(64000000000008212490, .row (V.ci .nil) true y1.2.2.2.2.2.2.2.2.2.2.1),(64000000000008212493, .row (V.ci .nil) true y1.2.2.2.2.2.2.2.2.2.2.2.2.2.1)]⟩
theorem Yt.r7 (x0:List Z6)(x1:Z6)(y1:Z7)(v7_1:Bool):V.joinF Yt.E Tryz.f88.ntmps [1,1,0] [] (V.codeOf Tryz.f88) (Yt.kt x0 x1) (Yt.s7 x0 x1 y1 v7_1)=Yt.g7 x0 x1 y1 v7_1:=by kernel_rfl
theorem Yt.e7 (x0:List Z6)(x1:Z6)(y1:Z7)(v7_1:Bool):V.jn (V.joinF Yt.E Tryz.f88.ntmps [1,1,0] [] (V.codeOf Tryz.f88) (Yt.kt x0 x1)) (Yt.s7 x0 x1 y1 v7_1)=Yt.l7 x0 x1 y1 v7_1:=by
 rw[V.jn_eq,Yt.r7]
 rfl
noncomputable abbrev Yt.s (x0:List Z6)(x1:Z6):V.St:=⟨[(0, .v false [.val (.sl V.eSigned x0)]),(1, .v true (V.lsSigned x1))],[]⟩
theorem Yt.v0 (x0:List Z6)(x1:Z6):V.evBody Yt.E Yt.con Tryz.f88 (V.fl6 x0 x1)=V.evC Yt.E Tryz.f88.ntmps (V.codeOf Tryz.f88) (Yt.kt x0 x1) (Yt.s x0 x1):=by kernel_rfl
theorem Yt.v (x0:List Z6)(x1:Z6):V.evC Yt.E Tryz.f88.ntmps (V.codeOf Tryz.f88) (Yt.kt x0 x1) (Yt.s x0 x1)=Yt.b x0 x1 (fun y1 v7_1=>V.jn (V.joinF Yt.E Tryz.f88.ntmps [1,1,0] [] (V.codeOf Tryz.f88) (Yt.kt x0 x1)) (Yt.s7 x0 x1 y1 v7_1)):=by kernel_rfl
theorem Yt.eq (x0:List Z6)(x1:Z6):V.evBody Yt.E Yt.con Tryz.f88 (V.fl6 x0 x1)=Yt x0 x1:=by
 rw[Yt.v0,Yt.v]
 simp only[Yt.e7]
 rfl
theorem Yt.ok :V.Valid Tryz.prog 88 Yt.con:=
 V.fo (V.tab_cons WH.ok (V.tab_cons Yu.ok (V.tab_cons Zu.ok (V.tab_cons X5.ok V.tab_nil)))) Tryz.func88 (by kernel_rfl) (fun x y h=>(show V.evBody Yt.E Yt.con Tryz.f88 x=_ from Yt.eq (V.p6_0 x) (V.p6_1 x)).trans (V.cfl (by kernel_rfl) h))
noncomputable abbrev Yz.con :V.Con:=⟨(.cons (.ptr (.cons (.sl (.cons (.int .u8) .nil)) (V.ci (V.ci .nil)))) .nil),(.cons (.ptr (.cons (.sl (.cons (.int .u8) .nil)) (V.ci (V.ci .nil)))) (.cons (.sl V.eSigned) .nil)),fun(x:(Z3))=>Yz x,[(0,false)],[(false,1)],[(false,1)],[true],[]⟩
noncomputable abbrev Yz.E :V.Env:=V.mkE V.tys [(39,Zm.con),(87,ZN.con),(88,Yt.con),(89,Zd.con)] [(6,[0,3,4],[])] [] [] [] []
noncomputable abbrev Yz.kt (x0:(Z3)):V.Kt ((Z3)×List Z6):=V.ktOf Yz.E Yz.con Tryz.f53 ((x0):(Z3))
noncomputable abbrev Yz.s6 (x0:(Z3))(v6_0:Int)(v6_2:Int)(v6_3:Int)(v6_4:List Z6):V.St:=⟨[(0, .v false [.ptr 0 0]),(3, .v false [.ref 64000038400192]),(4, .v false [.vi (v6_0)])],[(0, .box [.val (.sl (.cons (.int .u8) .nil) x0.1), .vi (v6_2), .vi (v6_3)]),(64000038400192, .row V.eSigned true v6_4)]⟩
theorem Yz.r6 (x0:(Z3))(R:V.St→Option ((Z3)×List Z6))(v6_0:Int)(v6_2:Int)(v6_3:Int)(v6_4:List Z6):V.loopF Yz.E Tryz.f53.ntmps [1,1,0,1,0] [] (V.codeOf Tryz.f53) (Yz.kt x0) R (Yz.s6 x0 v6_0 v6_2 v6_3 v6_4)=Yz.g6 x0 (fun v6_0 v6_2 v6_3 v6_4=>R (Yz.s6 x0 v6_0 v6_2 v6_3 v6_4)) v6_0 v6_2 v6_3 v6_4:=by kernel_rfl
theorem Yz.e6 (x0:(Z3)):∀(n:Nat) (v6_0:Int) (v6_2:Int) (v6_3:Int) (v6_4:List Z6),V.loopN (V.loopF Yz.E Tryz.f53.ntmps [1,1,0,1,0] [] (V.codeOf Tryz.f53) (Yz.kt x0)) n (Yz.s6 x0 v6_0 v6_2 v6_3 v6_4)=Yz.l6 x0 n v6_0 v6_2 v6_3 v6_4:=by
 intro n
 induction n with
 |zero=>intros;rw[V.loopN_z];rfl
 |succ n ih=>
  intro v6_0 v6_2 v6_3 v6_4
  rw[V.loopN_s,Yz.r6]
  simp only[ih]
  first|exact(Yz.u6 ..).symm|rfl
theorem Yz.v (x0:(Z3)):V.evBody Yz.E Yz.con Tryz.f53 ((x0):(Z3))=Yz.b x0 (fun v6_0 v6_2 v6_3 v6_4=>V.loopN (V.loopF Yz.E Tryz.f53.ntmps [1,1,0,1,0] [] (V.codeOf Tryz.f53) (Yz.kt x0)) V.KK (Yz.s6 x0 v6_0 v6_2 v6_3 v6_4)):=by kernel_rfl
theorem Yz.eq (x0:(Z3)):V.evBody Yz.E Yz.con Tryz.f53 ((x0):(Z3))=Yz x0:=by
 rw[Yz.v]
 simp only[Yz.e6]
 rfl
theorem Yz.ok :V.Valid Tryz.prog 53 Yz.con:=
 V.fo (V.tab_cons Zm.ok (V.tab_cons ZN.ok (V.tab_cons Yt.ok (V.tab_cons Zd.ok V.tab_nil)))) Tryz.func53 (by kernel_rfl) (fun x y h=>(show V.evBody Yz.E Yz.con Tryz.f53 x=_ from Yz.eq x).trans (V.cfl (by kernel_rfl) h))
noncomputable abbrev Yd.con :V.Con:=⟨(.cons (.ptr (.cons (.sl (.cons (.int .u8) .nil)) (V.ci (V.ci .nil)))) .nil),(.cons (.ptr (.cons (.sl (.cons (.int .u8) .nil)) (V.ci (V.ci .nil)))) (V.ci (V.ci (V.ci (V.ci (V.ci (V.ci (V.ci (V.ci (.cons (.sl (V.ci .nil)) (V.ci (.cons (.sl (V.ci .nil)) (V.ci (V.ci (.cons (.sl (V.ci .nil)) (V.ci (.cons .bool .nil))))))))))))))))),fun(x:(Z3))=>Yd x,[(0,false)],[(false,1)],[(true,16)],[false,false,false,false,false,false,false,false,false,false,false,false,false,false,false,false],[]⟩
noncomputable abbrev Yd.E :V.Env:=V.mkE V.tys [(43,Xw.con),(52,WK.con),(53,Yz.con)] [(9,[0,2,3],[(3,V.eSigned,false)])] [] [] [] []
noncomputable abbrev Yd.kt (x0:(Z3)):V.Kt ((Z3)×Int×Int×Int×Int×Int×Int×Int×Int×List Int×Int×List Int×Int×Int×List Int×Int×Bool):=V.ktOf Yd.E Yd.con Tryz.f24 ((x0):(Z3))
noncomputable abbrev Yd.s9 (x0:(Z3))(y3:(Z3)×List Z6):V.St:=⟨[(0, .v false [.ptr 0 0]),(2, .v false [.ptr 64000 0]),(3, .v false [.val (.sl V.eSigned y3.2)])],[(0, .box [.val (.sl (.cons (.int .u8) .nil) x0.1), .vi (y3.1.2.1), .vi (y3.1.2.2)]),(64000, .box [.vi ((0:Int)), .vi ((0:Int)), .vi ((0:Int)), .vi ((0:Int)), .vi ((0:Int)), .vi ((0:Int)), .vi ((0:Int)), .vi ((0:Int)), .nil0, .vi ((0:Int)), .nil0, .vi ((0:Int)), .vi ((0:Int)), .nil0, .vi ((0:Int)), .val (.bool false)])]⟩
theorem Yd.r9 (x0:(Z3))(y3:(Z3)×List Z6):V.joinF Yd.E Tryz.f24.ntmps [1,1] [] (V.codeOf Tryz.f24) (Yd.kt x0) (Yd.s9 x0 y3)=Yd.g9 x0 y3:=by kernel_rfl
theorem Yd.e9 (x0:(Z3))(y3:(Z3)×List Z6):V.jn (V.joinF Yd.E Tryz.f24.ntmps [1,1] [] (V.codeOf Tryz.f24) (Yd.kt x0)) (Yd.s9 x0 y3)=Yd.l9 x0 y3:=by
 rw[V.jn_eq,Yd.r9]
 rfl
theorem Yd.v (x0:(Z3)):V.evBody Yd.E Yd.con Tryz.f24 ((x0):(Z3))=Yd.b x0 (fun y3=>V.jn (V.joinF Yd.E Tryz.f24.ntmps [1,1] [] (V.codeOf Tryz.f24) (Yd.kt x0)) (Yd.s9 x0 y3)):=by kernel_rfl
theorem Yd.eq (x0:(Z3)):V.evBody Yd.E Yd.con Tryz.f24 ((x0):(Z3))=Yd x0:=by
 rw[Yd.v]
 simp only[Yd.e9]
 rfl
theorem Yd.ok :V.Valid Tryz.prog 24 Yd.con:=
 V.fo (V.tab_cons Xw.ok (V.tab_cons WK.ok (V.tab_cons Yz.ok V.tab_nil))) Tryz.func24 (by kernel_rfl) (fun x y h=>(show V.evBody Yd.E Yd.con Tryz.f24 x=_ from Yd.eq x).trans (V.cfl (by kernel_rfl) h))
noncomputable abbrev XX.con :V.Con:=⟨(.cons (.ptr (.cons (.sl (.cons (.int .u8) .nil)) (V.ci (V.ci .nil)))) .nil),(.cons (.ptr (.cons (.sl (.cons (.int .u8) .nil)) (V.ci (V.ci .nil)))) (.cons .str .nil)),fun(x:(Z3))=>XX x,[(0,false)],[(false,1)],[(false,1)],[false],[]⟩
noncomputable abbrev XX.E :V.Env:=V.mkE V.tys [(43,Xw.con),(127,XO.con),(131,XW.con)] [] [] [] [] []
theorem XX.eq (x0:(Z3)):V.evBody XX.E XX.con Tryz.f91 ((x0):(Z3))=XX x0:=by kernel_rfl
theorem XX.ok :V.Valid Tryz.prog 91 XX.con:=
 V.fo (V.tab_cons Xw.ok (V.tab_cons XO.ok (V.tab_cons XW.ok V.tab_nil))) Tryz.func91 (by kernel_rfl) (fun x y h=>(show V.evBody XX.E XX.con Tryz.f91 x=_ from XX.eq x).trans (V.cfl (by kernel_rfl) h))
noncomputable abbrev WL.con :V.Con:=⟨(.cons (.ptr (.cons (.sl (.cons (.int .u8) .nil)) (V.ci (V.ci .nil)))) .nil),(.cons (.ptr (.cons (.sl (.cons (.int .u8) .nil)) (V.ci (V.ci .nil)))) (.cons (.sl (.cons .str .nil)) .nil)),fun(x:(Z3))=>WL x,[(0,false)],[(false,1)],[(false,1)],[true],[]⟩
noncomputable abbrev WL.E :V.Env:=V.mkE V.tys [(39,Zm.con),(91,XX.con),(130,Yh.con)] [] [] [] [] []
theorem WL.eq (x0:(Z3)):V.evBody WL.E WL.con Tryz.f92 ((x0):(Z3))=WL x0:=by kernel_rfl
theorem WL.ok :V.Valid Tryz.prog 92 WL.con:=
 V.fo (V.tab_cons Zm.ok (V.tab_cons XX.ok (V.tab_cons Yh.ok V.tab_nil))) Tryz.func92 (by kernel_rfl) (fun x y h=>(show V.evBody WL.E WL.con Tryz.f92 x=_ from WL.eq x).trans (V.cfl (by kernel_rfl) h))
noncomputable abbrev WM.con :V.Con:=⟨(.cons (.ptr (.cons (.sl (.cons (.int .u8) .nil)) (V.ci (V.ci .nil)))) .nil),(.cons (.ptr (.cons (.sl (.cons (.int .u8) .nil)) (V.ci (V.ci .nil)))) (.cons .str (V.ci (V.ci (.cons (.sl (.cons .str .nil)) .nil))))),fun(x:(Z3))=>WM x,[(0,false)],[(false,1)],[(true,4)],[false,false,false,true],[]⟩
noncomputable abbrev WM.E :V.Env:=V.mkE V.tys [(39,Zm.con),(40,Z8.con),(90,W6.con),(91,XX.con),(92,WL.con)] [] [] [] [] []
theorem WM.eq (x0:(Z3)):V.evBody WM.E WM.con Tryz.f55 ((x0):(Z3))=WM x0:=by kernel_rfl
theorem WM.ok :V.Valid Tryz.prog 55 WM.con:=
 V.fo (V.tab_cons Zm.ok (V.tab_cons Z8.ok (V.tab_cons W6.ok (V.tab_cons XX.ok (V.tab_cons WL.ok V.tab_nil))))) Tryz.func55 (by kernel_rfl) (fun x y h=>(show V.evBody WM.E WM.con Tryz.f55 x=_ from WM.eq x).trans (V.cfl (by kernel_rfl) h))
noncomputable abbrev YA.con :V.Con:=⟨(.cons (.ptr (.cons (.sl (.cons (.int .u8) .nil)) (V.ci (V.ci .nil)))) .nil),(.cons (.ptr (.cons (.sl (.cons (.int .u8) .nil)) (V.ci (V.ci .nil)))) (.cons (.sl V.eEntry) .nil)),fun(x:(Z3))=>YA x,[(0,false)],[(false,1)],[(false,1)],[true],[]⟩
noncomputable abbrev YA.E :V.Env:=V.mkE V.tys [(39,Zm.con),(54,Y6.con),(55,WM.con),(56,Zi.con),(57,Wi.con)] [(14,[0,3,19,20,21],[])] [] [] [] []
noncomputable abbrev YA.kt (x0:(Z3)):V.Kt ((Z3)×List Z4):=V.ktOf YA.E YA.con Tryz.f25 ((x0):(Z3))
noncomputable abbrev YA.s14 (x0:(Z3))(y2:(Z3)×Int)(v14_0:Int)(v14_1:Int)(v14_5:List Z4)(v14_6:List ByteArray):V.St:=⟨[(0, .v false [.ptr 0 0]),(3, .v false [.ref 64000089600192]),(19, .v false [.ref 64000089601216]),(20, .v false [.vi (v14_0)]),(21, .v false [.vi (v14_1)])],[(0, .box [.val (.sl (.cons (.int .u8) .nil) x0.1), .vi (y2.1.2.1), .vi (y2.1.2.2)]),(64000089600192, .row V.eEntry true v14_5),(64000089601216, .row (.cons .str .nil) true v14_6)]⟩
theorem YA.r14 (x0:(Z3))(y2:(Z3)×Int)(R:V.St→Option ((Z3)×List Z4))(v14_0:Int)(v14_1:Int)(v14_5:List Z4)(v14_6:List ByteArray):V.loopF YA.E Tryz.f25.ntmps [1,1,0,1,0,1,1,1,0,1,0] [] (V.codeOf Tryz.f25) (YA.kt x0) R (YA.s14 x0 y2 v14_0 v14_1 v14_5 v14_6)=YA.g14 x0 y2 (fun v14_0 v14_1 v14_5 v14_6=>R (YA.s14 x0 y2 v14_0 v14_1 v14_5 v14_6)) v14_0 v14_1 v14_5 v14_6:=by kernel_rfl
theorem YA.e14 (x0:(Z3))(y2:(Z3)×Int):∀(n:Nat) (v14_0:Int) (v14_1:Int) (v14_5:List Z4) (v14_6:List ByteArray),V.loopN (V.loopF YA.E Tryz.f25.ntmps [1,1,0,1,0,1,1,1,0,1,0] [] (V.codeOf Tryz.f25) (YA.kt x0)) n (YA.s14 x0 y2 v14_0 v14_1 v14_5 v14_6)=YA.l14 x0 y2 n v14_0 v14_1 v14_5 v14_6:=by
 intro n
 induction n with
 |zero=>intros;rw[V.loopN_z];rfl
 |succ n ih=>
  intro v14_0 v14_1 v14_5 v14_6
  rw[V.loopN_s,YA.r14]
  simp only[ih]
  first|exact(YA.u14 ..).symm|rfl
theorem YA.v (x0:(Z3)):V.evBody YA.E YA.con Tryz.f25 ((x0):(Z3))=YA.b x0 (fun y2 v14_0 v14_1 v14_5 v14_6=>V.loopN (V.loopF YA.E Tryz.f25.ntmps [1,1,0,1,0,1,1,1,0,1,0] [] (V.codeOf Tryz.f25) (YA.kt x0)) V.KK (YA.s14 x0 y2 v14_0 v14_1 v14_5 v14_6)):=by kernel_rfl
theorem YA.eq (x0:(Z3)):V.evBody YA.E YA.con Tryz.f25 ((x0):(Z3))=YA x0:=by
 rw[YA.v]
 simp only[YA.e14]
 rfl
theorem YA.ok :V.Valid Tryz.prog 25 YA.con:=
 V.fo (V.tab_cons Zm.ok (V.tab_cons Y6.ok (V.tab_cons WM.ok (V.tab_cons Zi.ok (V.tab_cons Wi.ok V.tab_nil))))) Tryz.func25 (by kernel_rfl) (fun x y h=>(show V.evBody YA.E YA.con Tryz.f25 x=_ from YA.eq x).trans (V.cfl (by kernel_rfl) h))
noncomputable abbrev Y3.con :V.Con:=⟨V.A2,(.cons (.ptr (.cons (.sl (.cons (.int .u8) .nil)) (V.ci (V.ci .nil)))) (V.ci (V.ci .nil))),fun(x:V.D2)=>Y3 (V.p2_0 x) (V.p2_1 x),[(0,false)],[(false,1),(true,16)],[(false,1),(false,1)],[false,false],[]⟩
noncomputable abbrev Y3.E :V.Env:=V.mkE V.tys [(40,Z8.con)] [(5,[0,6],[])] [] [] [] [(1,[1000])]
noncomputable abbrev Y3.kt (x0:(Z3))(x1:Z0):V.Kt ((Z3)×Int×Int):=V.ktOf Y3.E Y3.con Tryz.f26 (V.fl2 x0 x1)
noncomputable abbrev Y3.s5 (x0:(Z3))(v5_0:Int)(v5_2:Int)(v5_3:Int):V.St:=⟨[(0, .v false [.ptr 0 0]),(6, .v false [.vi (v5_0)])],[(0, .box [.val (.sl (.cons (.int .u8) .nil) x0.1), .vi (v5_2), .vi (v5_3)])]⟩
theorem Y3.r5 (x0:(Z3))(x1:Z0)(v5_0:Int)(v5_2:Int)(v5_3:Int):V.joinF Y3.E Tryz.f26.ntmps [1] [] (V.codeOf Tryz.f26) (Y3.kt x0 x1) (Y3.s5 x0 v5_0 v5_2 v5_3)=Y3.g5 x0 v5_0 v5_2 v5_3:=by kernel_rfl
theorem Y3.e5 (x0:(Z3))(x1:Z0)(v5_0:Int)(v5_2:Int)(v5_3:Int):V.jn (V.joinF Y3.E Tryz.f26.ntmps [1] [] (V.codeOf Tryz.f26) (Y3.kt x0 x1)) (Y3.s5 x0 v5_0 v5_2 v5_3)=Y3.l5 x0 v5_0 v5_2 v5_3:=by
 rw[V.jn_eq,Y3.r5]
 rfl
noncomputable abbrev Y3.s (x0:(Z3))(x1:Z0):V.St:=⟨[(0, .v false [.ptr 0 0]),(1, .v true (V.lsHead x1))],[(0, .box [.val (.sl (.cons (.int .u8) .nil) x0.1), .vi (x0.2.1), .vi (x0.2.2)])]⟩
theorem Y3.v0 (x0:(Z3))(x1:Z0):V.evBody Y3.E Y3.con Tryz.f26 (V.fl2 x0 x1)=V.evC Y3.E Tryz.f26.ntmps (V.codeOf Tryz.f26) (Y3.kt x0 x1) (Y3.s x0 x1):=by kernel_rfl
theorem Y3.v (x0:(Z3))(x1:Z0):V.evC Y3.E Tryz.f26.ntmps (V.codeOf Tryz.f26) (Y3.kt x0 x1) (Y3.s x0 x1)=Y3.b x0 x1 (fun v5_0 v5_2 v5_3=>V.jn (V.joinF Y3.E Tryz.f26.ntmps [1] [] (V.codeOf Tryz.f26) (Y3.kt x0 x1)) (Y3.s5 x0 v5_0 v5_2 v5_3)):=by kernel_rfl
theorem Y3.eq (x0:(Z3))(x1:Z0):V.evBody Y3.E Y3.con Tryz.f26 (V.fl2 x0 x1)=Y3 x0 x1:=by
 rw[Y3.v0,Y3.v]
 simp only[Y3.e5]
 rfl
theorem Y3.ok :V.Valid Tryz.prog 26 Y3.con:=
 V.fo (V.tab_cons Z8.ok V.tab_nil) Tryz.func26 (by kernel_rfl) (fun x y h=>(show V.evBody Y3.E Y3.con Tryz.f26 x=_ from Y3.eq (V.p2_0 x) (V.p2_1 x)).trans (V.cfl (by kernel_rfl) h))
noncomputable abbrev WB.con :V.Con:=⟨(.cons (.sl (.cons (.int .u8) .nil)) .nil),V.eRHeadListIntInt,fun(x:List Int)=>WB x,[],[(false,1)],[(true,16),(false,1),(false,1),(false,1)],[false,false,false,false,false,false,false,false,false,false,false,false,false,false,false,false,true,false,false],[]⟩
noncomputable abbrev WB.E :V.Env:=V.mkE V.tys [(23,Zy.con),(24,Yd.con),(25,YA.con),(26,Y3.con)] [] [] [] [] []
theorem WB.eq (x0:List Int):V.evBody WB.E WB.con Tryz.f6 ((x0):List Int)=WB x0:=by kernel_rfl
theorem WB.ok :V.Valid Tryz.prog 6 WB.con:=
 V.fo (V.tab_cons Zy.ok (V.tab_cons Yd.ok (V.tab_cons YA.ok (V.tab_cons Y3.ok V.tab_nil)))) Tryz.func6 (by kernel_rfl) (fun x y h=>(show V.evBody WB.E WB.con Tryz.f6 x=_ from WB.eq x).trans (V.cfl (by kernel_rfl) h))
noncomputable abbrev ZZ.con :V.Con:=⟨(V.ci (V.ci (V.ci .nil))),(.cons .bool .nil),fun(x:Int×Int×Int)=>ZZ x.1 x.2.1 x.2.2,[],[(false,1),(false,1),(false,1)],[(false,1)],[false],[]⟩
noncomputable abbrev ZZ.E :V.Env:=V.mkE V.tys [] [] [] [] [] []
theorem ZZ.eq (x0:Int)(x1:Int)(x2:Int):V.evBody ZZ.E ZZ.con Tryz.f61 ((x0,x1,x2):Int×Int×Int)=ZZ x0 x1 x2:=by kernel_rfl
theorem ZZ.ok :V.Valid Tryz.prog 61 ZZ.con:=
 V.fo V.tab_nil Tryz.func61 (by kernel_rfl) (fun x y h=>(show V.evBody ZZ.E ZZ.con Tryz.f61 x=_ from ZZ.eq x.1 x.2.1 x.2.2).trans (V.cfl (by kernel_rfl) h))
noncomputable abbrev Y5.con :V.Con:=⟨(.cons .str .nil),(.cons .bool .nil),fun(x:ByteArray)=>Y5 x,[],[(false,1)],[(false,1)],[false],[]⟩
noncomputable abbrev Y5.E :V.Env:=V.mkE V.tys [(61,ZZ.con)] [(4,[0,6,7],[])] [] [] [] []
noncomputable abbrev Y5.kt (x0:ByteArray):V.Kt Bool:=V.ktOf Y5.E Y5.con Tryz.f95 ((x0):ByteArray)
noncomputable abbrev Y5.s4 (x0:ByteArray)(v4_1:Int)(v4_2:Int):V.St:=⟨[(0, .v false [.val (.str x0)]),(6, .v false [.vi (v4_1)]),(7, .v false [.vi (v4_2)])],[]⟩
theorem Y5.r4 (x0:ByteArray)(R:V.St→Option Bool)(v4_1:Int)(v4_2:Int):V.loopF Y5.E Tryz.f95.ntmps [1,0,1,0] [] (V.codeOf Tryz.f95) (Y5.kt x0) R (Y5.s4 x0 v4_1 v4_2)=Y5.g4 x0 (fun v4_1 v4_2=>R (Y5.s4 x0 v4_1 v4_2)) v4_1 v4_2:=by kernel_rfl
theorem Y5.e4 (x0:ByteArray):∀(n:Nat) (v4_1:Int) (v4_2:Int),V.loopN (V.loopF Y5.E Tryz.f95.ntmps [1,0,1,0] [] (V.codeOf Tryz.f95) (Y5.kt x0)) n (Y5.s4 x0 v4_1 v4_2)=Y5.l4 x0 n v4_1 v4_2:=by
 intro n
 induction n with
 |zero=>intros;rw[V.loopN_z];rfl
 |succ n ih=>
  intro v4_1 v4_2
  rw[V.loopN_s,Y5.r4]
  simp only[ih]
  first|exact(Y5.u4 ..).symm|rfl
theorem Y5.v (x0:ByteArray):V.evBody Y5.E Y5.con Tryz.f95 ((x0):ByteArray)=Y5.b x0 (fun v4_1 v4_2=>V.loopN (V.loopF Y5.E Tryz.f95.ntmps [1,0,1,0] [] (V.codeOf Tryz.f95) (Y5.kt x0)) V.KK (Y5.s4 x0 v4_1 v4_2)):=by kernel_rfl
theorem Y5.eq (x0:ByteArray):V.evBody Y5.E Y5.con Tryz.f95 ((x0):ByteArray)=Y5 x0:=by
 rw[Y5.v]
 simp only[Y5.e4]
 rfl
theorem Y5.ok :V.Valid Tryz.prog 95 Y5.con:=
 V.fo (V.tab_cons ZZ.ok V.tab_nil) Tryz.func95 (by kernel_rfl) (fun x y h=>(show V.evBody Y5.E Y5.con Tryz.f95 x=_ from Y5.eq x).trans (V.cfl (by kernel_rfl) h))
noncomputable abbrev XK.con :V.Con:=⟨(V.ci .nil),(.cons .bool .nil),fun(x:Int)=>XK x,[],[(false,1)],[(false,1)],[false],[]⟩
noncomputable abbrev XK.E :V.Env:=V.mkE V.tys [(61,ZZ.con)] [] [] [] [] []
theorem XK.eq (x0:Int):V.evBody XK.E XK.con Tryz.f96 ((x0):Int)=XK x0:=by kernel_rfl
theorem XK.ok :V.Valid Tryz.prog 96 XK.con:=
 V.fo (V.tab_cons ZZ.ok V.tab_nil) Tryz.func96 (by kernel_rfl) (fun x y h=>(show V.evBody XK.E XK.con Tryz.f96 x=_ from XK.eq x).trans (V.cfl (by kernel_rfl) h))
noncomputable abbrev WU.con :V.Con:=⟨(.cons .str .nil),(.cons .bool .nil),fun(x:ByteArray)=>WU x,[],[(false,1)],[(false,1)],[false],[]⟩
noncomputable abbrev WU.E :V.Env:=V.mkE V.tys [(95,Y5.con)] [] [] [] [] []
theorem WU.eq (x0:ByteArray):V.evBody WU.E WU.con Tryz.f134 ((x0):ByteArray)=WU x0:=by kernel_rfl
theorem WU.ok :V.Valid Tryz.prog 134 WU.con:=
 V.fo (V.tab_cons Y5.ok V.tab_nil) Tryz.func134 (by kernel_rfl) (fun x y h=>(show V.evBody WU.E WU.con Tryz.f134 x=_ from WU.eq x).trans (V.cfl (by kernel_rfl) h))
noncomputable abbrev YJ.con :V.Con:=⟨(.cons (.sl (.cons .str .nil)) (.cons (.fn 134 false .nil .nil) .nil)),(V.ci .nil),fun(x:List ByteArray×(Unit)×(Unit))=>YJ x.1 x.2,[],[(false,1),(false,1)],[(false,1)],[false],[]⟩
noncomputable abbrev YJ.E :V.Env:=V.mkE V.tys [(134,WU.con)] [(4,[0,1,7,8],[])] [] [] [] []
noncomputable abbrev YJ.kt (x0:List ByteArray)(x1:(Unit)×(Unit)):V.Kt Int:=V.ktOf YJ.E YJ.con Tryz.f156 ((x0,x1):List ByteArray×(Unit)×(Unit))
noncomputable abbrev YJ.s4 (x0:List ByteArray)(v4_1:Int)(v4_2:Int):V.St:=⟨[(0, .v false [.val (.sl (.cons .str .nil) x0)]),(1, .v false [.val (.fn 134 false .nil .nil () ())]),(7, .v false [.vi (v4_1)]),(8, .v false [.vi (v4_2)])],[]⟩
theorem YJ.r4 (x0:List ByteArray)(x1:(Unit)×(Unit))(R:V.St→Option Int)(v4_1:Int)(v4_2:Int):V.loopF YJ.E Tryz.f156.ntmps [1,0,1,0] [] (V.codeOf Tryz.f156) (YJ.kt x0 x1) R (YJ.s4 x0 v4_1 v4_2)=YJ.g4 x0 (fun v4_1 v4_2=>R (YJ.s4 x0 v4_1 v4_2)) v4_1 v4_2:=by kernel_rfl
theorem YJ.e4 (x0:List ByteArray)(x1:(Unit)×(Unit)):∀(n:Nat) (v4_1:Int) (v4_2:Int),V.loopN (V.loopF YJ.E Tryz.f156.ntmps [1,0,1,0] [] (V.codeOf Tryz.f156) (YJ.kt x0 x1)) n (YJ.s4 x0 v4_1 v4_2)=YJ.l4 x0 n v4_1 v4_2:=by
 intro n
 induction n with
 |zero=>intros;rw[V.loopN_z];rfl
 |succ n ih=>
  intro v4_1 v4_2
  rw[V.loopN_s,YJ.r4]
  simp only[ih]
  first|exact(YJ.u4 ..).symm|rfl
theorem YJ.v (x0:List ByteArray)(x1:(Unit)×(Unit)):V.evBody YJ.E YJ.con Tryz.f156 ((x0,x1):List ByteArray×(Unit)×(Unit))=YJ.b x0 x1 (fun v4_1 v4_2=>V.loopN (V.loopF YJ.E Tryz.f156.ntmps [1,0,1,0] [] (V.codeOf Tryz.f156) (YJ.kt x0 x1)) V.KK (YJ.s4 x0 v4_1 v4_2)):=by kernel_rfl
theorem YJ.eq (x0:List ByteArray)(x1:(Unit)×(Unit)):V.evBody YJ.E YJ.con Tryz.f156 ((x0,x1):List ByteArray×(Unit)×(Unit))=YJ x0 x1:=by
 rw[YJ.v]
 simp only[YJ.e4]
 rfl
theorem YJ.ok :V.Valid Tryz.prog 156 YJ.con:=
 V.fo (V.tab_cons WU.ok V.tab_nil) Tryz.func156 (by kernel_rfl) (fun x y h=>(show V.evBody YJ.E YJ.con Tryz.f156 x=_ from YJ.eq x.1 x.2).trans (V.cfl (by kernel_rfl) h))
noncomputable abbrev Wz.con :V.Con:=⟨(.cons (.sl (.cons .str .nil)) (.cons (.fn 134 false .nil .nil) .nil)),(.cons .bool .nil),fun(x:List ByteArray×(Unit)×(Unit))=>Wz x.1 x.2,[],[(false,1),(false,1)],[(false,1)],[false],[]⟩
noncomputable abbrev Wz.E :V.Env:=V.mkE V.tys [(156,YJ.con)] [] [] [] [] []
theorem Wz.eq (x0:List ByteArray)(x1:(Unit)×(Unit)):V.evBody Wz.E Wz.con Tryz.f133 ((x0,x1):List ByteArray×(Unit)×(Unit))=Wz x0 x1:=by kernel_rfl
theorem Wz.ok :V.Valid Tryz.prog 133 Wz.con:=
 V.fo (V.tab_cons YJ.ok V.tab_nil) Tryz.func133 (by kernel_rfl) (fun x y h=>(show V.evBody Wz.E Wz.con Tryz.f133 x=_ from Wz.eq x.1 x.2).trans (V.cfl (by kernel_rfl) h))
noncomputable abbrev Wn.con :V.Con:=⟨(.cons (.sl (.cons .str .nil)) .nil),(.cons .bool .nil),fun(x:List ByteArray)=>Wn x,[],[(false,1)],[(false,1)],[false],[]⟩
noncomputable abbrev Wn.E :V.Env:=V.mkE V.tys [(61,ZZ.con),(133,Wz.con)] [] [] [] [] []
theorem Wn.eq (x0:List ByteArray):V.evBody Wn.E Wn.con Tryz.f97 ((x0):List ByteArray)=Wn x0:=by kernel_rfl
theorem Wn.ok :V.Valid Tryz.prog 97 Wn.con:=
 V.fo (V.tab_cons ZZ.ok (V.tab_cons Wz.ok V.tab_nil)) Tryz.func97 (by kernel_rfl) (fun x y h=>(show V.evBody Wn.E Wn.con Tryz.f97 x=_ from Wn.eq x).trans (V.cfl (by kernel_rfl) h))
noncomputable abbrev Wm.con :V.Con:=⟨V.eEntry,(.cons .bool .nil),fun(x:ByteArray×Int×Int×List ByteArray)=>Wm x,[],[(true,4)],[(false,1)],[false],[]⟩
noncomputable abbrev Wm.E :V.Env:=V.mkE V.tys [(61,ZZ.con),(95,Y5.con),(96,XK.con),(97,Wn.con)] [] [] [] [] []
theorem Wm.eq (x0:Z4):V.evBody Wm.E Wm.con Tryz.f58 ((x0.1,x0.2.1,x0.2.2.1,x0.2.2.2):ByteArray×Int×Int×List ByteArray)=Wm x0:=by kernel_rfl
theorem Wm.ok :V.Valid Tryz.prog 58 Wm.con:=
 V.fo (V.tab_cons ZZ.ok (V.tab_cons Y5.ok (V.tab_cons XK.ok (V.tab_cons Wn.ok V.tab_nil)))) Tryz.func58 (by kernel_rfl) (fun x y h=>(show V.evBody Wm.E Wm.con Tryz.f58 x=_ from Wm.eq x).trans (V.cfl (by kernel_rfl) h))
noncomputable abbrev Q7.con :V.Con:=⟨.cons .str (.cons .str .nil), .cons (.int .i64) .nil,fun(x:ByteArray×ByteArray)=>Q7 x.1 x.2,[],[(false,1),(false,1)],[(false,1)],[false],[]⟩
theorem Q7.ok :V.Valid Tryz.prog 135 Q7.con:=
 V.cmp_valid (ρ:=⟨fun n=>bif Nat.beq n 213 then 135 else 157,fun t=>bif Nat.beq t 3 then 3 else 9,fun x=>x⟩) {mixed:=V.mixed,f213:=by kernel_rfl,f265:=by kernel_rfl,t3:=by kernel_rfl,a3:=fun w=>rfl,z3:=fun w=>rfl,v3:=fun w=>rfl,t9:=by kernel_rfl,a9:=fun w=>rfl,z9:=fun w=>rfl,v9:=fun w=>rfl}
noncomputable abbrev U5.con :V.Con:=⟨(.cons .str (.cons .str .nil)),(V.ci .nil),fun(x:ByteArray×ByteArray)=>U5 x.1 x.2,[],[(false,1),(false,1)],[(false,1)],[false],[]⟩
noncomputable abbrev U5.E :V.Env:=V.mkE V.tys [(135,Q7.con)] [] [] [] [] []
theorem U5.eq (x0:ByteArray)(x1:ByteArray):V.evBody U5.E U5.con Tryz.f98 ((x0,x1):ByteArray×ByteArray)=U5 x0 x1:=by kernel_rfl
theorem U5.ok :V.Valid Tryz.prog 98 U5.con:=
 V.fo (V.tab_cons Q7.ok V.tab_nil) Tryz.func98 (by kernel_rfl) (fun x y h=>(show V.evBody U5.E U5.con Tryz.f98 x=_ from U5.eq x.1 x.2).trans (V.cfl (by kernel_rfl) h))
noncomputable abbrev WS.con :V.Con:=⟨(.cons .str (.cons .str .nil)),(V.ci .nil),fun(x:ByteArray×ByteArray)=>WS x.1 x.2,[],[(false,1),(false,1)],[(false,1)],[false],[]⟩
noncomputable abbrev WS.E :V.Env:=V.mkE V.tys [(98,U5.con)] [] [] [] [] []
theorem WS.eq (x0:ByteArray)(x1:ByteArray):V.evBody WS.E WS.con Tryz.f59 ((x0,x1):ByteArray×ByteArray)=WS x0 x1:=by kernel_rfl
theorem WS.ok :V.Valid Tryz.prog 59 WS.con:=
 V.fo (V.tab_cons U5.ok V.tab_nil) Tryz.func59 (by kernel_rfl) (fun x y h=>(show V.evBody WS.E WS.con Tryz.f59 x=_ from WS.eq x.1 x.2).trans (V.cfl (by kernel_rfl) h))
noncomputable abbrev Yi.con :V.Con:=⟨(.cons (.sl V.eEntry) .nil),(.cons .bool .nil),fun(x:List Z4)=>Yi x,[],[(false,1)],[(false,1)],[false],[]⟩
noncomputable abbrev Yi.E :V.Env:=V.mkE V.tys [(58,Wm.con),(59,WS.con)] [(4,[0,5,6,7],[])] [(4,15)] [] [] []
noncomputable abbrev Yi.kt (x0:List Z4):V.Kt Bool:=V.ktOf Yi.E Yi.con Tryz.f27 ((x0):List Z4)
noncomputable abbrev Yi.s4 (x0:List Z4)(v4_2:Int)(v4_3:Int):V.St:=⟨[(0, .v false [.val (.sl V.eEntry x0)]),(5, .v false [.val (.sl V.eEntry x0)]),(6, .v false [.vi (v4_2)]),(7, .v false [.vi (v4_3)])],[]⟩
theorem Yi.r4 (x0:List Z4)(R:V.St→Option Bool)(v4_2:Int)(v4_3:Int):V.loopF Yi.E Tryz.f27.ntmps [1,0,1,0] [] (V.codeOf Tryz.f27) (Yi.kt x0) R (Yi.s4 x0 v4_2 v4_3)=Yi.g4 x0 (fun v4_2 v4_3=>R (Yi.s4 x0 v4_2 v4_3)) v4_2 v4_3:=by kernel_rfl
theorem Yi.e4 (x0:List Z4):∀(n:Nat) (v4_2:Int) (v4_3:Int),V.loopN (V.loopF Yi.E Tryz.f27.ntmps [1,0,1,0] [] (V.codeOf Tryz.f27) (Yi.kt x0)) n (Yi.s4 x0 v4_2 v4_3)=Yi.l4 x0 n v4_2 v4_3:=by
 intro n
 induction n with
 |zero=>intros;rw[V.loopN_z];rfl
 |succ n ih=>
  intro v4_2 v4_3
  rw[V.loopN_s,Yi.r4]
  simp only[ih]
  first|exact(Yi.u4 ..).symm|rfl
theorem Yi.v (x0:List Z4):V.evBody Yi.E Yi.con Tryz.f27 ((x0):List Z4)=Yi.b x0 (fun v4_2 v4_3=>V.loopN (V.loopF Yi.E Tryz.f27.ntmps [1,0,1,0] [] (V.codeOf Tryz.f27) (Yi.kt x0)) V.KK (Yi.s4 x0 v4_2 v4_3)):=by kernel_rfl
theorem Yi.eq (x0:List Z4):V.evBody Yi.E Yi.con Tryz.f27 ((x0):List Z4)=Yi x0:=by
 rw[Yi.v]
 simp only[Yi.e4]
 rfl
theorem Yi.ok :V.Valid Tryz.prog 27 Yi.con:=
 V.fo (V.tab_cons Wm.ok (V.tab_cons WS.ok V.tab_nil)) Tryz.func27 (by kernel_rfl) (fun x y h=>(show V.evBody Yi.E Yi.con Tryz.f27 x=_ from Yi.eq x).trans (V.cfl (by kernel_rfl) h))
noncomputable abbrev Xs.con :V.Con:=⟨V.A0,(.cons .bool .nil),fun(x:V.D0)=>Xs (V.p0_0 x),[],[(true,16)],[(false,1)],[false],[]⟩
noncomputable abbrev Xs.E :V.Env:=V.mkE V.tys [] [] [] [] [] []
noncomputable abbrev Xs.kt (x0:Z0):V.Kt Bool:=V.ktOf Xs.E Xs.con Tryz.f99 (V.fl0 x0)
noncomputable abbrev Xs.s (x0:Z0):V.St:=⟨[(0, .v true (V.lsHead x0))],[]⟩
theorem Xs.v0 (x0:Z0):V.evBody Xs.E Xs.con Tryz.f99 (V.fl0 x0)=V.evC Xs.E Tryz.f99.ntmps (V.codeOf Tryz.f99) (Xs.kt x0) (Xs.s x0):=by kernel_rfl
theorem Xs.v (x0:Z0):V.evC Xs.E Tryz.f99.ntmps (V.codeOf Tryz.f99) (Xs.kt x0) (Xs.s x0)=Xs x0:=by kernel_rfl
theorem Xs.eq (x0:Z0):V.evBody Xs.E Xs.con Tryz.f99 (V.fl0 x0)=Xs x0:=(Xs.v0 x0).trans (Xs.v x0)
theorem Xs.ok :V.Valid Tryz.prog 99 Xs.con:=
 V.fo V.tab_nil Tryz.func99 (by kernel_rfl) (fun x y h=>(show V.evBody Xs.E Xs.con Tryz.f99 x=_ from Xs.eq (V.p0_0 x)).trans (V.cfl (by kernel_rfl) h))
noncomputable abbrev Yl.con :V.Con:=⟨(.cons (.sl (V.ci .nil)) .nil),(.cons .bool .nil),fun(x:List Int)=>Yl x,[],[(false,1)],[(false,1)],[false],[]⟩
noncomputable abbrev Yl.E :V.Env:=V.mkE V.tys [] [(4,[0,5,6],[])] [(4,12)] [] [] []
noncomputable abbrev Yl.kt (x0:List Int):V.Kt Bool:=V.ktOf Yl.E Yl.con Tryz.f136 ((x0):List Int)
noncomputable abbrev Yl.s4 (x0:List Int)(v4_1:Int)(v4_2:Int):V.St:=⟨[(0, .v false [.val (.sl (V.ci .nil) x0)]),(5, .v false [.vi (v4_1)]),(6, .v false [.vi (v4_2)])],[]⟩
theorem Yl.r4 (x0:List Int)(R:V.St→Option Bool)(v4_1:Int)(v4_2:Int):V.loopF Yl.E Tryz.f136.ntmps [1,0,1,0] [] (V.codeOf Tryz.f136) (Yl.kt x0) R (Yl.s4 x0 v4_1 v4_2)=Yl.g4 x0 (fun v4_1 v4_2=>R (Yl.s4 x0 v4_1 v4_2)) v4_1 v4_2:=by kernel_rfl
theorem Yl.e4 (x0:List Int):∀(n:Nat) (v4_1:Int) (v4_2:Int),V.loopN (V.loopF Yl.E Tryz.f136.ntmps [1,0,1,0] [] (V.codeOf Tryz.f136) (Yl.kt x0)) n (Yl.s4 x0 v4_1 v4_2)=Yl.l4 x0 n v4_1 v4_2:=by
 intro n
 induction n with
 |zero=>intros;rw[V.loopN_z];rfl
 |succ n ih=>
  intro v4_1 v4_2
  rw[V.loopN_s,Yl.r4]
  simp only[ih]
  first|exact(Yl.u4 ..).symm|rfl
theorem Yl.v (x0:List Int):V.evBody Yl.E Yl.con Tryz.f136 ((x0):List Int)=Yl.b x0 (fun v4_1 v4_2=>V.loopN (V.loopF Yl.E Tryz.f136.ntmps [1,0,1,0] [] (V.codeOf Tryz.f136) (Yl.kt x0)) V.KK (Yl.s4 x0 v4_1 v4_2)):=by kernel_rfl
theorem Yl.eq (x0:List Int):V.evBody Yl.E Yl.con Tryz.f136 ((x0):List Int)=Yl x0:=by
 rw[Yl.v]
 simp only[Yl.e4]
 rfl
theorem Yl.ok :V.Valid Tryz.prog 136 Yl.con:=
 V.fo V.tab_nil Tryz.func136 (by kernel_rfl) (fun x y h=>(show V.evBody Yl.E Yl.con Tryz.f136 x=_ from Yl.eq x).trans (V.cfl (by kernel_rfl) h))
noncomputable abbrev XU.con :V.Con:=⟨(V.ci .nil),(.cons .bool .nil),fun(x:Int)=>XU x,[],[(false,1)],[(false,1)],[false],[]⟩
noncomputable abbrev XU.E :V.Env:=V.mkE V.tys [(61,ZZ.con)] [] [] [] [] []
theorem XU.eq (x0:Int):V.evBody XU.E XU.con Tryz.f137 ((x0):Int)=XU x0:=by kernel_rfl
theorem XU.ok :V.Valid Tryz.prog 137 XU.con:=
 V.fo (V.tab_cons ZZ.ok V.tab_nil) Tryz.func137 (by kernel_rfl) (fun x y h=>(show V.evBody XU.E XU.con Tryz.f137 x=_ from XU.eq x).trans (V.cfl (by kernel_rfl) h))
noncomputable abbrev XJ.con :V.Con:=⟨(.cons (.sl (V.ci .nil)) (V.ci .nil)),(.cons .bool .nil),fun(x:List Int×Int)=>XJ x,[],[(true,2)],[(false,1)],[false],[]⟩
noncomputable abbrev XJ.E :V.Env:=V.mkE V.tys [(61,ZZ.con),(136,Yl.con),(137,XU.con)] [] [] [] [] []
theorem XJ.eq (x0:Z5):V.evBody XJ.E XJ.con Tryz.f100 ((x0.1,x0.2):List Int×Int)=XJ x0:=by kernel_rfl
theorem XJ.ok :V.Valid Tryz.prog 100 XJ.con:=
 V.fo (V.tab_cons ZZ.ok (V.tab_cons Yl.ok (V.tab_cons XU.ok V.tab_nil))) Tryz.func100 (by kernel_rfl) (fun x y h=>(show V.evBody XJ.E XJ.con Tryz.f100 x=_ from XJ.eq x).trans (V.cfl (by kernel_rfl) h))
noncomputable abbrev Xa.con :V.Con:=⟨(.cons (.sl (V.ci .nil)) (V.ci .nil)),(.cons .bool .nil),fun(x:List Int×Int)=>Xa x,[],[(true,2)],[(false,1)],[false],[]⟩
noncomputable abbrev Xa.E :V.Env:=V.mkE V.tys [] [] [] [] [] []
theorem Xa.eq (x0:Z5):V.evBody Xa.E Xa.con Tryz.f37 ((x0.1,x0.2):List Int×Int)=Xa x0:=by kernel_rfl
theorem Xa.ok :V.Valid Tryz.prog 37 Xa.con:=
 V.fo V.tab_nil Tryz.func37 (by kernel_rfl) (fun x y h=>(show V.evBody Xa.E Xa.con Tryz.f37 x=_ from Xa.eq x).trans (V.cfl (by kernel_rfl) h))
noncomputable abbrev Wv.con :V.Con:=⟨(.cons (.sl (V.ci .nil)) (V.ci .nil)),(.cons .bool .nil),fun(x:List Int×Int)=>Wv x,[],[(true,2)],[(false,1)],[false],[]⟩
noncomputable abbrev Wv.E :V.Env:=V.mkE V.tys [(37,Xa.con),(100,XJ.con)] [] [] [] [] []
theorem Wv.eq (x0:Z5):V.evBody Wv.E Wv.con Tryz.f101 ((x0.1,x0.2):List Int×Int)=Wv x0:=by kernel_rfl
theorem Wv.ok :V.Valid Tryz.prog 101 Wv.con:=
 V.fo (V.tab_cons Xa.ok (V.tab_cons XJ.ok V.tab_nil)) Tryz.func101 (by kernel_rfl) (fun x y h=>(show V.evBody Wv.E Wv.con Tryz.f101 x=_ from Wv.eq x).trans (V.cfl (by kernel_rfl) h))
noncomputable abbrev WV.con :V.Con:=⟨(V.ci (.cons (.sl (V.ci .nil)) (V.ci .nil))),(.cons .bool .nil),fun(x:Int×List Int×Int)=>WV x.1 x.2,[],[(false,1),(true,2)],[(false,1)],[false],[]⟩
noncomputable abbrev WV.E :V.Env:=V.mkE V.tys [(37,Xa.con),(61,ZZ.con)] [] [] [] [] []
theorem WV.eq (x0:Int)(x1:Z5):V.evBody WV.E WV.con Tryz.f102 ((x0,x1.1,x1.2):Int×List Int×Int)=WV x0 x1:=by kernel_rfl
theorem WV.ok :V.Valid Tryz.prog 102 WV.con:=
 V.fo (V.tab_cons Xa.ok (V.tab_cons ZZ.ok V.tab_nil)) Tryz.func102 (by kernel_rfl) (fun x y h=>(show V.evBody WV.E WV.con Tryz.f102 x=_ from WV.eq x.1 x.2).trans (V.cfl (by kernel_rfl) h))
noncomputable abbrev ZX.con :V.Con:=⟨V.A0,(.cons .bool .nil),fun(x:V.D0)=>ZX (V.p0_0 x),[],[(true,16)],[(false,1)],[false],[]⟩
noncomputable abbrev ZX.E :V.Env:=V.mkE V.tys [(37,Xa.con),(61,ZZ.con),(96,XK.con),(99,Xs.con),(100,XJ.con),(101,Wv.con),(102,WV.con)] [] [] [] [] []
noncomputable abbrev ZX.kt (x0:Z0):V.Kt Bool:=V.ktOf ZX.E ZX.con Tryz.f60 (V.fl0 x0)
noncomputable abbrev ZX.s (x0:Z0):V.St:=⟨[(0, .v true (V.lsHead x0))],[]⟩
theorem ZX.v0 (x0:Z0):V.evBody ZX.E ZX.con Tryz.f60 (V.fl0 x0)=V.evC ZX.E Tryz.f60.ntmps (V.codeOf Tryz.f60) (ZX.kt x0) (ZX.s x0):=by kernel_rfl
theorem ZX.v (x0:Z0):V.evC ZX.E Tryz.f60.ntmps (V.codeOf Tryz.f60) (ZX.kt x0) (ZX.s x0)=ZX x0:=by kernel_rfl
theorem ZX.eq (x0:Z0):V.evBody ZX.E ZX.con Tryz.f60 (V.fl0 x0)=ZX x0:=(ZX.v0 x0).trans (ZX.v x0)
theorem ZX.ok :V.Valid Tryz.prog 60 ZX.con:=
 V.fo (V.tab_cons Xa.ok (V.tab_cons ZZ.ok (V.tab_cons XK.ok (V.tab_cons Xs.ok (V.tab_cons XJ.ok (V.tab_cons Wv.ok (V.tab_cons WV.ok V.tab_nil))))))) Tryz.func60 (by kernel_rfl) (fun x y h=>(show V.evBody ZX.E ZX.con Tryz.f60 x=_ from ZX.eq (V.p0_0 x)).trans (V.cfl (by kernel_rfl) h))
noncomputable abbrev Wx.con :V.Con:=⟨(.cons (.sl (V.ci .nil)) .nil),(.cons (.sl (V.ci .nil)) .nil),fun(x:List Int)=>Wx x,[],[(false,1)],[(false,1)],[true],[]⟩
noncomputable abbrev Wx.E :V.Env:=V.mkE V.tys [] [] [] [] [] []
theorem Wx.eq (x0:List Int):V.evBody Wx.E Wx.con Tryz.f75 ((x0):List Int)=Wx x0:=by kernel_rfl
theorem Wx.ok :V.Valid Tryz.prog 75 Wx.con:=
 V.fo V.tab_nil Tryz.func75 (by kernel_rfl) (fun x y h=>(show V.evBody Wx.E Wx.con Tryz.f75 x=_ from Wx.eq x).trans (V.cfl (by kernel_rfl) h))
noncomputable abbrev Xr.con :V.Con:=⟨(.cons (.sl (V.ci .nil)) (V.ci .nil)),(.cons (.sl (V.ci .nil)) (V.ci .nil)),fun(x:List Int×Int)=>Xr x,[],[(true,2)],[(true,2)],[true,false],[]⟩
noncomputable abbrev Xr.E :V.Env:=V.mkE V.tys [(75,Wx.con)] [] [(1,5)] [] [] []
theorem Xr.eq (x0:Z5):V.evBody Xr.E Xr.con Tryz.f35 ((x0.1,x0.2):List Int×Int)=Xr x0:=by kernel_rfl
theorem Xr.ok :V.Valid Tryz.prog 35 Xr.con:=
 V.fo (V.tab_cons Wx.ok V.tab_nil) Tryz.func35 (by kernel_rfl) (fun x y h=>(show V.evBody Xr.E Xr.con Tryz.f35 x=_ from Xr.eq x).trans (V.cfl (by kernel_rfl) h))
noncomputable abbrev Yr.con :V.Con:=⟨V.A0,V.eHead,fun(x:V.D0)=>Yr (V.p0_0 x),[],[(true,16)],[(true,16)],[false,false,false,false,false,false,false,false,true,false,true,false,false,true,false,false],[]⟩
noncomputable abbrev Yr.E :V.Env:=V.mkE V.tys [(35,Xr.con)] [] [(1,10)] [] [] []
noncomputable abbrev Yr.kt (x0:Z0):V.Kt Z0:=V.ktOf Yr.E Yr.con Tryz.f62 (V.fl0 x0)
noncomputable abbrev Yr.s (x0:Z0):V.St:=⟨[(0, .v true (V.lsHead x0))],[]⟩
theorem Yr.v0 (x0:Z0):V.evBody Yr.E Yr.con Tryz.f62 (V.fl0 x0)=V.evC Yr.E Tryz.f62.ntmps (V.codeOf Tryz.f62) (Yr.kt x0) (Yr.s x0):=by kernel_rfl
theorem Yr.v (x0:Z0):V.evC Yr.E Tryz.f62.ntmps (V.codeOf Tryz.f62) (Yr.kt x0) (Yr.s x0)=Yr x0:=by kernel_rfl
theorem Yr.eq (x0:Z0):V.evBody Yr.E Yr.con Tryz.f62 (V.fl0 x0)=Yr x0:=(Yr.v0 x0).trans (Yr.v x0)
theorem Yr.ok :V.Valid Tryz.prog 62 Yr.con:=
 V.fo (V.tab_cons Xr.ok V.tab_nil) Tryz.func62 (by kernel_rfl) (fun x y h=>(show V.evBody Yr.E Yr.con Tryz.f62 x=_ from Yr.eq (V.p0_0 x)).trans (V.cfl (by kernel_rfl) h))
noncomputable abbrev Y0.con :V.Con:=⟨(V.ci (V.ci .nil)),(V.ci .nil),fun(x:Int×Int)=>Y0 x.1 x.2,[],[(false,1),(false,1)],[(false,1)],[false],[]⟩
noncomputable abbrev Y0.E :V.Env:=V.mkE V.tys [(61,ZZ.con)] [(7,[0,1],[])] [] [] [] []
noncomputable abbrev Y0.kt (x0:Int)(x1:Int):V.Kt Int:=V.ktOf Y0.E Y0.con Tryz.f63 ((x0,x1):Int×Int)
noncomputable abbrev Y0.s7 (x0:Int)(x1:Int):V.St:=⟨[(0, .v false [.vi (x0)]),(1, .v false [.vi (x1)])],[]⟩
theorem Y0.r7 (x0:Int)(x1:Int):V.joinF Y0.E Tryz.f63.ntmps [1] [] (V.codeOf Tryz.f63) (Y0.kt x0 x1) (Y0.s7 x0 x1)=Y0.g7 x0 x1:=by kernel_rfl
theorem Y0.e7 (x0:Int)(x1:Int):V.jn (V.joinF Y0.E Tryz.f63.ntmps [1] [] (V.codeOf Tryz.f63) (Y0.kt x0 x1)) (Y0.s7 x0 x1)=Y0.l7 x0 x1:=by
 rw[V.jn_eq,Y0.r7]
 rfl
theorem Y0.v (x0:Int)(x1:Int):V.evBody Y0.E Y0.con Tryz.f63 ((x0,x1):Int×Int)=Y0.b x0 x1 (V.jn (V.joinF Y0.E Tryz.f63.ntmps [1] [] (V.codeOf Tryz.f63) (Y0.kt x0 x1)) (Y0.s7 x0 x1)):=by kernel_rfl
theorem Y0.eq (x0:Int)(x1:Int):V.evBody Y0.E Y0.con Tryz.f63 ((x0,x1):Int×Int)=Y0 x0 x1:=by
 rw[Y0.v]
 simp only[Y0.e7]
 rfl
theorem Y0.ok :V.Valid Tryz.prog 63 Y0.con:=
 V.fo (V.tab_cons ZZ.ok V.tab_nil) Tryz.func63 (by kernel_rfl) (fun x y h=>(show V.evBody Y0.E Y0.con Tryz.f63 x=_ from Y0.eq x.1 x.2).trans (V.cfl (by kernel_rfl) h))
noncomputable abbrev XQ.con :V.Con:=⟨(.cons (.sl (V.ci .nil)) (V.ci .nil)),(.cons (.sl (V.ci .nil)) .nil),fun(x:List Int×Int)=>XQ x,[],[(true,2)],[(false,1)],[true],[]⟩
noncomputable abbrev XQ.E :V.Env:=V.mkE V.tys [] [] [] [] [] []
theorem XQ.eq (x0:Z5):V.evBody XQ.E XQ.con Tryz.f112 ((x0.1,x0.2):List Int×Int)=XQ x0:=by kernel_rfl
theorem XQ.ok :V.Valid Tryz.prog 112 XQ.con:=
 V.fo V.tab_nil Tryz.func112 (by kernel_rfl) (fun x y h=>(show V.evBody XQ.E XQ.con Tryz.f112 x=_ from XQ.eq x).trans (V.cfl (by kernel_rfl) h))
noncomputable abbrev We.con :V.Con:=⟨(.cons .bool .nil),(V.ci .nil),fun(x:Bool)=>We x,[],[(false,1)],[(false,1)],[false],[]⟩
noncomputable abbrev We.E :V.Env:=V.mkE V.tys [] [] [] [] [] []
theorem We.eq (x0:Bool):V.evBody We.E We.con Tryz.f113 ((x0):Bool)=We x0:=by kernel_rfl
theorem We.ok :V.Valid Tryz.prog 113 We.con:=
 V.fo V.tab_nil Tryz.func113 (by kernel_rfl) (fun x y h=>(show V.evBody We.E We.con Tryz.f113 x=_ from We.eq x).trans (V.cfl (by kernel_rfl) h))
noncomputable abbrev YO.con :V.Con:=⟨(.cons (.sl (V.ci .nil)) (V.ci .nil)),(.cons (.sl (V.ci .nil)) .nil),fun(x:List Int×Int)=>YO x.1 x.2,[],[(false,1),(false,1)],[(false,1)],[true],[0]⟩
noncomputable abbrev YO.E :V.Env:=V.mkE V.tys [] [(7,[0,1],[])] [] [] [] []
noncomputable abbrev YO.kt (x0:List Int)(x1:Int):V.Kt (List Int):=V.ktOf YO.E YO.con Tryz.f144 ((x0,x1):List Int×Int)
noncomputable abbrev YO.s7 (x1:Int):V.St:=⟨[(0, .v false [.nil0]),(1, .v false [.vi (x1)])],[]⟩
theorem YO.r7 (x0:List Int)(x1:Int):V.joinF YO.E Tryz.f144.ntmps [1] [] (V.codeOf Tryz.f144) (YO.kt x0 x1) (YO.s7 x1)=YO.g7 x1:=by kernel_rfl
theorem YO.e7 (x0:List Int)(x1:Int):V.jn (V.joinF YO.E Tryz.f144.ntmps [1] [] (V.codeOf Tryz.f144) (YO.kt x0 x1)) (YO.s7 x1)=YO.l7 x1:=by
 rw[V.jn_eq,YO.r7]
 rfl
theorem YO.v (x0:List Int)(x1:Int):V.evBody YO.E YO.con Tryz.f144 ((x0,x1):List Int×Int)=YO.b x0 x1 (V.jn (V.joinF YO.E Tryz.f144.ntmps [1] [] (V.codeOf Tryz.f144) (YO.kt x0 x1)) (YO.s7 x1)):=by kernel_rfl
theorem YO.eq (x0:List Int)(x1:Int):V.evBody YO.E YO.con Tryz.f144 ((x0,x1):List Int×Int)=YO x0 x1:=by
 rw[YO.v]
 simp only[YO.e7]
 rfl
theorem YO.ok :V.Valid Tryz.prog 144 YO.con:=
 V.fo V.tab_nil Tryz.func144 (by kernel_rfl) (fun x y h=>(show V.evBody YO.E YO.con Tryz.f144 x=_ from YO.eq x.1 x.2).trans (V.cfl (by kernel_rfl) h))
noncomputable abbrev Zw.con :V.Con:=⟨(.cons (.sl (.cons (.sl (V.ci .nil)) .nil)) .nil),(.cons (.sl (V.ci .nil)) .nil),fun(x:List (List Int))=>Zw x,[],[(false,1)],[(false,1)],[true],[]⟩
noncomputable abbrev Zw.E :V.Env:=V.mkE V.tys [(144,YO.con)] [(6,[0,3,9,10,11],[]),(22,[6,25,26,27],[])] [] [] [] []
noncomputable abbrev Zw.kt (x0:List (List Int)):V.Kt (List Int):=V.ktOf Zw.E Zw.con Tryz.f111 ((x0):List (List Int))
noncomputable abbrev Zw.s22 (x0:List (List Int))(v22_1:Int)(v22_2:Int)(v22_3:List Int):V.St:=⟨[(6, .v false [.ref 64000140800384]),(25, .v false [.val (.sl (.cons (.sl (V.ci .nil)) .nil) x0)]),(26, .v false [.vi (v22_1)]),(27, .v false [.vi (v22_2)])],[(64000140800384, .row (V.ci .nil) true v22_3)]⟩
noncomputable abbrev Zw.s6 (x0:List (List Int))(v6_1:Int)(v6_3:Int)(v6_4:Int):V.St:=⟨[(0, .v false [.val (.sl (.cons (.sl (V.ci .nil)) .nil) x0)]),(3, .v false [.vi (v6_1)]),(9, .v false [.val (.sl (.cons (.sl (V.ci .nil)) .nil) x0)]),(10, .v false [.vi (v6_3)]),(11, .v false [.vi (v6_4)])],[]⟩
theorem Zw.r22 (x0:List (List Int))(R:V.St→Option (List Int))(v22_1:Int)(v22_2:Int)(v22_3:List Int):V.loopF Zw.E Tryz.f111.ntmps [1,1,1,1,0,1,0] [] (V.codeOf Tryz.f111) (Zw.kt x0) R (Zw.s22 x0 v22_1 v22_2 v22_3)=Zw.g22 x0 (fun v22_1 v22_2 v22_3=>R (Zw.s22 x0 v22_1 v22_2 v22_3)) v22_1 v22_2 v22_3:=by kernel_rfl
theorem Zw.e22 (x0:List (List Int)):∀(n:Nat) (v22_1:Int) (v22_2:Int) (v22_3:List Int),V.loopN (V.loopF Zw.E Tryz.f111.ntmps [1,1,1,1,0,1,0] [] (V.codeOf Tryz.f111) (Zw.kt x0)) n (Zw.s22 x0 v22_1 v22_2 v22_3)=Zw.l22 x0 n v22_1 v22_2 v22_3:=by
 intro n
 induction n with
 |zero=>intros;rw[V.loopN_z];rfl
 |succ n ih=>
  intro v22_1 v22_2 v22_3
  rw[V.loopN_s,Zw.r22]
  simp only[ih]
  first|exact(Zw.u22 ..).symm|rfl
theorem Zw.r6 (x0:List (List Int))(R:V.St→Option (List Int))(v6_1:Int)(v6_3:Int)(v6_4:Int):V.loopF Zw.E Tryz.f111.ntmps [1,1,0,1,0] [] (V.codeOf Tryz.f111) (Zw.kt x0) R (Zw.s6 x0 v6_1 v6_3 v6_4)=Zw.g6 x0 (fun v6_1 v6_3 v6_4=>R (Zw.s6 x0 v6_1 v6_3 v6_4)) (fun v22_1 v22_2 v22_3=>V.loopN (V.loopF Zw.E Tryz.f111.ntmps [1,1,1,1,0,1,0] [] (V.codeOf Tryz.f111) (Zw.kt x0)) V.KK (Zw.s22 x0 v22_1 v22_2 v22_3)) v6_1 v6_3 v6_4:=by kernel_rfl
theorem Zw.e6 (x0:List (List Int)):∀(n:Nat) (v6_1:Int) (v6_3:Int) (v6_4:Int),V.loopN (V.loopF Zw.E Tryz.f111.ntmps [1,1,0,1,0] [] (V.codeOf Tryz.f111) (Zw.kt x0)) n (Zw.s6 x0 v6_1 v6_3 v6_4)=Zw.l6 x0 n v6_1 v6_3 v6_4:=by
 intro n
 induction n with
 |zero=>intros;rw[V.loopN_z];rfl
 |succ n ih=>
  intro v6_1 v6_3 v6_4
  rw[V.loopN_s,Zw.r6]
  simp only[Zw.e22,ih]
  first|exact(Zw.u6 ..).symm|rfl
theorem Zw.v (x0:List (List Int)):V.evBody Zw.E Zw.con Tryz.f111 ((x0):List (List Int))=Zw.b x0 (fun v6_1 v6_3 v6_4=>V.loopN (V.loopF Zw.E Tryz.f111.ntmps [1,1,0,1,0] [] (V.codeOf Tryz.f111) (Zw.kt x0)) V.KK (Zw.s6 x0 v6_1 v6_3 v6_4)):=by kernel_rfl
theorem Zw.eq (x0:List (List Int)):V.evBody Zw.E Zw.con Tryz.f111 ((x0):List (List Int))=Zw x0:=by
 rw[Zw.v]
 simp only[Zw.e6]
 rfl
theorem Zw.ok :V.Valid Tryz.prog 111 Zw.con:=
 V.fo (V.tab_cons YO.ok V.tab_nil) Tryz.func111 (by kernel_rfl) (fun x y h=>(show V.evBody Zw.E Zw.con Tryz.f111 x=_ from Zw.eq x).trans (V.cfl (by kernel_rfl) h))
noncomputable abbrev X1.con :V.Con:=⟨V.A0,(.cons (.sl (V.ci .nil)) .nil),fun(x:V.D0)=>X1 (V.p0_0 x),[],[(true,16)],[(false,1)],[true],[]⟩
noncomputable abbrev X1.E :V.Env:=V.mkE V.tys [(111,Zw.con),(112,XQ.con),(113,We.con)] [] [(1,33)] [] [] []
noncomputable abbrev X1.kt (x0:Z0):V.Kt (List Int):=V.ktOf X1.E X1.con Tryz.f73 (V.fl0 x0)
noncomputable abbrev X1.s (x0:Z0):V.St:=⟨[(0, .v true (V.lsHead x0))],[]⟩
theorem X1.v0 (x0:Z0):V.evBody X1.E X1.con Tryz.f73 (V.fl0 x0)=V.evC X1.E Tryz.f73.ntmps (V.codeOf Tryz.f73) (X1.kt x0) (X1.s x0):=by kernel_rfl
theorem X1.v (x0:Z0):V.evC X1.E Tryz.f73.ntmps (V.codeOf Tryz.f73) (X1.kt x0) (X1.s x0)=X1 x0:=by kernel_rfl
theorem X1.eq (x0:Z0):V.evBody X1.E X1.con Tryz.f73 (V.fl0 x0)=X1 x0:=(X1.v0 x0).trans (X1.v x0)
theorem X1.ok :V.Valid Tryz.prog 73 X1.con:=
 V.fo (V.tab_cons Zw.ok (V.tab_cons XQ.ok (V.tab_cons We.ok V.tab_nil))) Tryz.func73 (by kernel_rfl) (fun x y h=>(show V.evBody X1.E X1.con Tryz.f73 x=_ from X1.eq (V.p0_0 x)).trans (V.cfl (by kernel_rfl) h))
noncomputable abbrev W8.con :V.Con:=⟨(V.ci (V.ci .nil)),(V.ci .nil),fun(x:Int×Int)=>W8 x.1 x.2,[],[(false,1),(false,1)],[(false,1)],[false],[]⟩
noncomputable abbrev W8.E :V.Env:=V.mkE V.tys [(61,ZZ.con)] [] [] [] [] []
theorem W8.eq (x0:Int)(x1:Int):V.evBody W8.E W8.con Tryz.f138 ((x0,x1):Int×Int)=W8 x0 x1:=by kernel_rfl
theorem W8.ok :V.Valid Tryz.prog 138 W8.con:=
 V.fo (V.tab_cons ZZ.ok V.tab_nil) Tryz.func138 (by kernel_rfl) (fun x y h=>(show V.evBody W8.E W8.con Tryz.f138 x=_ from W8.eq x.1 x.2).trans (V.cfl (by kernel_rfl) h))
noncomputable abbrev ZW.con :V.Con:=⟨(.cons (.sl (V.ci .nil)) .nil),(V.ci .nil),fun(x:List Int)=>ZW x,[],[(false,1)],[(false,1)],[false],[]⟩
noncomputable abbrev ZW.E :V.Env:=V.mkE V.tys [(138,W8.con)] [(6,[3,6,7,8],[])] [] [] [] []
noncomputable abbrev ZW.kt (x0:List Int):V.Kt Int:=V.ktOf ZW.E ZW.con Tryz.f103 ((x0):List Int)
noncomputable abbrev ZW.s6 (x0:List Int)(v6_0:Int)(v6_2:Int)(v6_3:Int):V.St:=⟨[(3, .v false [.vi (v6_0)]),(6, .v false [.val (.sl (V.ci .nil) x0)]),(7, .v false [.vi (v6_2)]),(8, .v false [.vi (v6_3)])],[]⟩
theorem ZW.r6 (x0:List Int)(R:V.St→Option Int)(v6_0:Int)(v6_2:Int)(v6_3:Int):V.loopF ZW.E Tryz.f103.ntmps [1,1,0,1,0] [] (V.codeOf Tryz.f103) (ZW.kt x0) R (ZW.s6 x0 v6_0 v6_2 v6_3)=ZW.g6 x0 (fun v6_0 v6_2 v6_3=>R (ZW.s6 x0 v6_0 v6_2 v6_3)) v6_0 v6_2 v6_3:=by kernel_rfl
theorem ZW.e6 (x0:List Int):∀(n:Nat) (v6_0:Int) (v6_2:Int) (v6_3:Int),V.loopN (V.loopF ZW.E Tryz.f103.ntmps [1,1,0,1,0] [] (V.codeOf Tryz.f103) (ZW.kt x0)) n (ZW.s6 x0 v6_0 v6_2 v6_3)=ZW.l6 x0 n v6_0 v6_2 v6_3:=by
 intro n
 induction n with
 |zero=>intros;rw[V.loopN_z];rfl
 |succ n ih=>
  intro v6_0 v6_2 v6_3
  rw[V.loopN_s,ZW.r6]
  simp only[ih]
  first|exact(ZW.u6 ..).symm|rfl
theorem ZW.v (x0:List Int):V.evBody ZW.E ZW.con Tryz.f103 ((x0):List Int)=ZW.b x0 (fun v6_0 v6_2 v6_3=>V.loopN (V.loopF ZW.E Tryz.f103.ntmps [1,1,0,1,0] [] (V.codeOf Tryz.f103) (ZW.kt x0)) V.KK (ZW.s6 x0 v6_0 v6_2 v6_3)):=by kernel_rfl
theorem ZW.eq (x0:List Int):V.evBody ZW.E ZW.con Tryz.f103 ((x0):List Int)=ZW x0:=by
 rw[ZW.v]
 simp only[ZW.e6]
 rfl
theorem ZW.ok :V.Valid Tryz.prog 103 ZW.con:=
 V.fo (V.tab_cons W8.ok V.tab_nil) Tryz.func103 (by kernel_rfl) (fun x y h=>(show V.evBody ZW.E ZW.con Tryz.f103 x=_ from ZW.eq x).trans (V.cfl (by kernel_rfl) h))
noncomputable abbrev YM.con :V.Con:=⟨V.A0,(V.ci .nil),fun(x:V.D0)=>YM (V.p0_0 x),[],[(true,16)],[(false,1)],[false],[]⟩
noncomputable abbrev YM.E :V.Env:=V.mkE V.tys [(73,X1.con),(103,ZW.con)] [] [] [] [] []
noncomputable abbrev YM.kt (x0:Z0):V.Kt Int:=V.ktOf YM.E YM.con Tryz.f64 (V.fl0 x0)
noncomputable abbrev YM.s (x0:Z0):V.St:=⟨[(0, .v true (V.lsHead x0))],[]⟩
theorem YM.v0 (x0:Z0):V.evBody YM.E YM.con Tryz.f64 (V.fl0 x0)=V.evC YM.E Tryz.f64.ntmps (V.codeOf Tryz.f64) (YM.kt x0) (YM.s x0):=by kernel_rfl
theorem YM.v (x0:Z0):V.evC YM.E Tryz.f64.ntmps (V.codeOf Tryz.f64) (YM.kt x0) (YM.s x0)=YM x0:=by kernel_rfl
theorem YM.eq (x0:Z0):V.evBody YM.E YM.con Tryz.f64 (V.fl0 x0)=YM x0:=(YM.v0 x0).trans (YM.v x0)
theorem YM.ok :V.Valid Tryz.prog 64 YM.con:=
 V.fo (V.tab_cons X1.ok (V.tab_cons ZW.ok V.tab_nil)) Tryz.func64 (by kernel_rfl) (fun x y h=>(show V.evBody YM.E YM.con Tryz.f64 x=_ from YM.eq (V.p0_0 x)).trans (V.cfl (by kernel_rfl) h))
noncomputable abbrev YB.con :V.Con:=⟨(.cons (.sl (.cons (.int .u8) .nil)) .nil),(.cons (.sl (V.ci .nil)) .nil),fun(x:List Int)=>YB x,[],[(false,1)],[(false,1)],[true],[]⟩
noncomputable abbrev YB.E :V.Env:=V.mkE V.tys [] [(6,[3,9,10,11],[])] [] [] [] []
noncomputable abbrev YB.kt (x0:List Int):V.Kt (List Int):=V.ktOf YB.E YB.con Tryz.f167 ((x0):List Int)
noncomputable abbrev YB.s6 (x0:List Int)(v6_1:Int)(v6_2:Int)(v6_3:List Int):V.St:=⟨[(3, .v false [.ref 64000038400192]),(9, .v false [.val (.sl (.cons (.int .u8) .nil) x0)]),(10, .v false [.vi (v6_1)]),(11, .v false [.vi (v6_2)])],[(64000038400192, .row (V.ci .nil) true v6_3)]⟩
theorem YB.r6 (x0:List Int)(R:V.St→Option (List Int))(v6_1:Int)(v6_2:Int)(v6_3:List Int):V.loopF YB.E Tryz.f167.ntmps [1,1,0,1,0] [] (V.codeOf Tryz.f167) (YB.kt x0) R (YB.s6 x0 v6_1 v6_2 v6_3)=YB.g6 x0 (fun v6_1 v6_2 v6_3=>R (YB.s6 x0 v6_1 v6_2 v6_3)) v6_1 v6_2 v6_3:=by kernel_rfl
theorem YB.e6 (x0:List Int):∀(n:Nat) (v6_1:Int) (v6_2:Int) (v6_3:List Int),V.loopN (V.loopF YB.E Tryz.f167.ntmps [1,1,0,1,0] [] (V.codeOf Tryz.f167) (YB.kt x0)) n (YB.s6 x0 v6_1 v6_2 v6_3)=YB.l6 x0 n v6_1 v6_2 v6_3:=by
 intro n
 induction n with
 |zero=>intros;rw[V.loopN_z];rfl
 |succ n ih=>
  intro v6_1 v6_2 v6_3
  rw[V.loopN_s,YB.r6]
  simp only[ih]
  first|exact(YB.u6 ..).symm|rfl
theorem YB.v (x0:List Int):V.evBody YB.E YB.con Tryz.f167 ((x0):List Int)=YB.b x0 (fun v6_1 v6_2 v6_3=>V.loopN (V.loopF YB.E Tryz.f167.ntmps [1,1,0,1,0] [] (V.codeOf Tryz.f167) (YB.kt x0)) V.KK (YB.s6 x0 v6_1 v6_2 v6_3)):=by kernel_rfl
theorem YB.eq (x0:List Int):V.evBody YB.E YB.con Tryz.f167 ((x0):List Int)=YB x0:=by
 rw[YB.v]
 simp only[YB.e6]
 rfl
theorem YB.ok :V.Valid Tryz.prog 167 YB.con:=
 V.fo V.tab_nil Tryz.func167 (by kernel_rfl) (fun x y h=>(show V.evBody YB.E YB.con Tryz.f167 x=_ from YB.eq x).trans (V.cfl (by kernel_rfl) h))
noncomputable abbrev W7.con :V.Con:=⟨(.cons .str .nil),(.cons (.sl (V.ci .nil)) .nil),fun(x:ByteArray)=>W7 x,[],[(false,1)],[(false,1)],[true],[]⟩
noncomputable abbrev W7.E :V.Env:=V.mkE V.tys [(167,YB.con)] [] [] [] [] []
theorem W7.eq (x0:ByteArray):V.evBody W7.E W7.con Tryz.f158 ((x0):ByteArray)=W7 x0:=by kernel_rfl
theorem W7.ok :V.Valid Tryz.prog 158 W7.con:=
 V.fo (V.tab_cons YB.ok V.tab_nil) Tryz.func158 (by kernel_rfl) (fun x y h=>(show V.evBody W7.E W7.con Tryz.f158 x=_ from W7.eq x).trans (V.cfl (by kernel_rfl) h))
noncomputable abbrev YC.con :V.Con:=⟨V.eEntry,(.cons (.sl (V.ci .nil)) .nil),fun(x:ByteArray×Int×Int×List ByteArray)=>YC x,[],[(true,4)],[(false,1)],[true],[]⟩
noncomputable abbrev YC.E :V.Env:=V.mkE V.tys [(158,W7.con)] [(6,[3,19,20,21],[])] [(1,11)] [] [] []
noncomputable abbrev YC.kt (x0:Z4):V.Kt (List Int):=V.ktOf YC.E YC.con Tryz.f140 ((x0.1,x0.2.1,x0.2.2.1,x0.2.2.2):ByteArray×Int×Int×List ByteArray)
noncomputable abbrev YC.s6 (x0:Z4)(v6_1:Int)(v6_2:Int)(v6_3:List Int):V.St:=⟨[(3, .v false [.ref 64000038400192]),(19, .v false [.val (.sl (.cons .str .nil) x0.2.2.2)]),(20, .v false [.vi (v6_1)]),(21, .v false [.vi (v6_2)])],[(64000038400192, .row (V.ci .nil) true v6_3)]⟩
theorem YC.r6 (x0:Z4)(R:V.St→Option (List Int))(v6_1:Int)(v6_2:Int)(v6_3:List Int):V.loopF YC.E Tryz.f140.ntmps [1,1,0,1,0] [] (V.codeOf Tryz.f140) (YC.kt x0) R (YC.s6 x0 v6_1 v6_2 v6_3)=YC.g6 x0 (fun v6_1 v6_2 v6_3=>R (YC.s6 x0 v6_1 v6_2 v6_3)) v6_1 v6_2 v6_3:=by kernel_rfl
theorem YC.e6 (x0:Z4):∀(n:Nat) (v6_1:Int) (v6_2:Int) (v6_3:List Int),V.loopN (V.loopF YC.E Tryz.f140.ntmps [1,1,0,1,0] [] (V.codeOf Tryz.f140) (YC.kt x0)) n (YC.s6 x0 v6_1 v6_2 v6_3)=YC.l6 x0 n v6_1 v6_2 v6_3:=by
 intro n
 induction n with
 |zero=>intros;rw[V.loopN_z];rfl
 |succ n ih=>
  intro v6_1 v6_2 v6_3
  rw[V.loopN_s,YC.r6]
  simp only[ih]
  first|exact(YC.u6 ..).symm|rfl
theorem YC.v (x0:Z4):V.evBody YC.E YC.con Tryz.f140 ((x0.1,x0.2.1,x0.2.2.1,x0.2.2.2):ByteArray×Int×Int×List ByteArray)=YC.b x0 (fun v6_1 v6_2 v6_3=>V.loopN (V.loopF YC.E Tryz.f140.ntmps [1,1,0,1,0] [] (V.codeOf Tryz.f140) (YC.kt x0)) V.KK (YC.s6 x0 v6_1 v6_2 v6_3)):=by kernel_rfl
theorem YC.eq (x0:Z4):V.evBody YC.E YC.con Tryz.f140 ((x0.1,x0.2.1,x0.2.2.1,x0.2.2.2):ByteArray×Int×Int×List ByteArray)=YC x0:=by
 rw[YC.v]
 simp only[YC.e6]
 rfl
theorem YC.ok :V.Valid Tryz.prog 140 YC.con:=
 V.fo (V.tab_cons W7.ok V.tab_nil) Tryz.func140 (by kernel_rfl) (fun x y h=>(show V.evBody YC.E YC.con Tryz.f140 x=_ from YC.eq x).trans (V.cfl (by kernel_rfl) h))
noncomputable abbrev Wd.con :V.Con:=⟨V.eEntry,(V.ci .nil),fun(x:ByteArray×Int×Int×List ByteArray)=>Wd x,[],[(true,4)],[(false,1)],[false],[]⟩
noncomputable abbrev Wd.E :V.Env:=V.mkE V.tys [(103,ZW.con),(140,YC.con)] [] [] [] [] []
theorem Wd.eq (x0:Z4):V.evBody Wd.E Wd.con Tryz.f106 ((x0.1,x0.2.1,x0.2.2.1,x0.2.2.2):ByteArray×Int×Int×List ByteArray)=Wd x0:=by kernel_rfl
theorem Wd.ok :V.Valid Tryz.prog 106 Wd.con:=
 V.fo (V.tab_cons ZW.ok (V.tab_cons YC.ok V.tab_nil)) Tryz.func106 (by kernel_rfl) (fun x y h=>(show V.evBody Wd.E Wd.con Tryz.f106 x=_ from Wd.eq x).trans (V.cfl (by kernel_rfl) h))
noncomputable abbrev YD.con :V.Con:=⟨(.cons (.sl V.eEntry) .nil),(.cons (.sl (V.ci .nil)) .nil),fun(x:List Z4)=>YD x,[],[(false,1)],[(false,1)],[true],[]⟩
noncomputable abbrev YD.E :V.Env:=V.mkE V.tys [(106,Wd.con)] [(6,[3,7,8,9],[(64000038400192,(V.ci .nil),true)])] [] [] [] []
noncomputable abbrev YD.kt (x0:List Z4):V.Kt (List Int):=V.ktOf YD.E YD.con Tryz.f67 ((x0):List Z4)
noncomputable abbrev YD.s6 (x0:List Z4)(v6_1:Int)(v6_2:Int)(v6_3:List Int):V.St:=⟨[(3, .v false [.ref 64000038400192]),(7, .v false [.val (.sl V.eEntry x0)]),(8, .v false [.vi (v6_1)]),(9, .v false [.vi (v6_2)])],[(64000038400192, .row (V.ci .nil) true v6_3)]⟩
theorem YD.r6 (x0:List Z4)(R:V.St→Option (List Int))(v6_1:Int)(v6_2:Int)(v6_3:List Int):V.loopF YD.E Tryz.f67.ntmps [1,1,0,1,0] [] (V.codeOf Tryz.f67) (YD.kt x0) R (YD.s6 x0 v6_1 v6_2 v6_3)=YD.g6 x0 (fun v6_1 v6_2 v6_3=>R (YD.s6 x0 v6_1 v6_2 v6_3)) v6_1 v6_2 v6_3:=by kernel_rfl
theorem YD.e6 (x0:List Z4):∀(n:Nat) (v6_1:Int) (v6_2:Int) (v6_3:List Int),V.loopN (V.loopF YD.E Tryz.f67.ntmps [1,1,0,1,0] [] (V.codeOf Tryz.f67) (YD.kt x0)) n (YD.s6 x0 v6_1 v6_2 v6_3)=YD.l6 x0 n v6_1 v6_2 v6_3:=by
 intro n
 induction n with
 |zero=>intros;rw[V.loopN_z];rfl
 |succ n ih=>
  intro v6_1 v6_2 v6_3
  rw[V.loopN_s,YD.r6]
  simp only[ih]
  first|exact(YD.u6 ..).symm|rfl
theorem YD.v (x0:List Z4):V.evBody YD.E YD.con Tryz.f67 ((x0):List Z4)=YD.b x0 (fun v6_1 v6_2 v6_3=>V.loopN (V.loopF YD.E Tryz.f67.ntmps [1,1,0,1,0] [] (V.codeOf Tryz.f67) (YD.kt x0)) V.KK (YD.s6 x0 v6_1 v6_2 v6_3)):=by kernel_rfl
theorem YD.eq (x0:List Z4):V.evBody YD.E YD.con Tryz.f67 ((x0):List Z4)=YD x0:=by
 rw[YD.v]
 simp only[YD.e6]
 rfl
theorem YD.ok :V.Valid Tryz.prog 67 YD.con:=
 V.fo (V.tab_cons Wd.ok V.tab_nil) Tryz.func67 (by kernel_rfl) (fun x y h=>(show V.evBody YD.E YD.con Tryz.f67 x=_ from YD.eq x).trans (V.cfl (by kernel_rfl) h))
noncomputable abbrev XR.con :V.Con:=⟨(.cons (.sl (V.ci .nil)) .nil),(V.ci .nil),fun(x:List Int)=>XR x,[],[(false,1)],[(false,1)],[false],[]⟩
noncomputable abbrev XR.E :V.Env:=V.mkE V.tys [(103,ZW.con)] [] [] [] [] []
theorem XR.eq (x0:List Int):V.evBody XR.E XR.con Tryz.f104 ((x0):List Int)=XR x0:=by kernel_rfl
theorem XR.ok :V.Valid Tryz.prog 104 XR.con:=
 V.fo (V.tab_cons ZW.ok V.tab_nil) Tryz.func104 (by kernel_rfl) (fun x y h=>(show V.evBody XR.E XR.con Tryz.f104 x=_ from XR.eq x).trans (V.cfl (by kernel_rfl) h))
noncomputable abbrev Ws.con :V.Con:=⟨(V.ci (V.ci .nil)),(V.ci .nil),fun(x:Int×Int)=>Ws x.1 x.2,[],[(false,1),(false,1)],[(false,1)],[false],[]⟩
noncomputable abbrev Ws.E :V.Env:=V.mkE V.tys [(104,XR.con)] [] [] [] [] []
theorem Ws.eq (x0:Int)(x1:Int):V.evBody Ws.E Ws.con Tryz.f139 ((x0,x1):Int×Int)=Ws x0 x1:=by kernel_rfl
theorem Ws.ok :V.Valid Tryz.prog 139 Ws.con:=
 V.fo (V.tab_cons XR.ok V.tab_nil) Tryz.func139 (by kernel_rfl) (fun x y h=>(show V.evBody Ws.E Ws.con Tryz.f139 x=_ from Ws.eq x.1 x.2).trans (V.cfl (by kernel_rfl) h))
end Go.Proofs.YtcbeaoigenjoeabGreat
