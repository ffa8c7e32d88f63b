/- That the functions compute it. -/
import Derived.Test.YtcbeaoigenjoeaaGreatFnServersPure0
import Derived.Test.YtcbeaoigenjoeaaGreatProg
noncomputable section
namespace Go.Proofs.YtcbeaoigenjoeaaGreat.V
open Tryz
set_option linter.unusedVariables false
set_option maxRecDepth 100000
abbrev eSigned :ETy:=(ci (ci (ci (ci (ci (ci (ci (ci (.cons (.sl (ci .nil)) (ci (.cons (.sl (ci .nil)) (ci (ci (.cons (.sl (ci .nil)) (ci (.cons .bool (.cons (.sl (ci (ci .nil))) .nil)))))))))))))))))
abbrev eAnswer :ETy:=(.cons (.sl eSigned) (.cons .bool (.cons .str (ci (ci (.cons (.sl (.cons .str .nil)) (ci (.cons (.sl (ci .nil)) (ci (.cons .str (ci (ci (.cons (.sl (.cons .str .nil)) (.cons .str (ci (ci (.cons (.sl (.cons .str .nil)) (ci (.cons (.sl (ci .nil)) (ci (.cons (.sl (ci .nil)) .nil)))))))))))))))))))))
abbrev eEntry :ETy:=(.cons .str (ci (ci (.cons (.sl (.cons .str .nil)) .nil))))
abbrev eGap :ETy:=(ci (.cons .str (ci (ci (.cons (.sl (.cons .str .nil)) (.cons .str (ci (ci (.cons (.sl (.cons .str .nil)) (ci (.cons (.sl (ci .nil)) (ci (.cons (.sl (ci .nil)) .nil)))))))))))))
abbrev eHead :ETy:=(ci (ci (ci (ci (ci (ci (ci (ci (.cons (.sl (ci .nil)) (ci (.cons (.sl (ci .nil)) (ci (ci (.cons (.sl (ci .nil)) (ci (.cons .bool .nil))))))))))))))))
abbrev eRGapBool :ETy:=(ci (.cons .str (ci (ci (.cons (.sl (.cons .str .nil)) (.cons .str (ci (ci (.cons (.sl (.cons .str .nil)) (ci (.cons (.sl (ci .nil)) (ci (.cons (.sl (ci .nil)) (.cons .bool .nil))))))))))))))
abbrev eRHeadBool :ETy:=(ci (ci (ci (ci (ci (ci (ci (ci (.cons (.sl (ci .nil)) (ci (.cons (.sl (ci .nil)) (ci (ci (.cons (.sl (ci .nil)) (ci (.cons .bool (.cons .bool .nil)))))))))))))))))
abbrev eRServerIntStr :ETy:=(.cons (.sl (.cons (.sl eSigned) (.cons (.sl eEntry) .nil))) (ci (ci (.cons .str .nil))))
abbrev eRServerZone :ETy:=(.cons (.sl (.cons (.sl eSigned) (.cons (.sl eEntry) .nil))) (ci (.cons (.sl eSigned) (.cons (.sl eEntry) .nil))))
abbrev D0 :Type:=Int×Int×Int×Int×Int×Int×Int×Int×List Int×Int×List Int×Int×Int×List Int×Int×Bool
abbrev A0 :ETy:=eHead
abbrev fl0 (x0:Z5):D0:=(x0.1,x0.2.1,x0.2.2.1,x0.2.2.2.1,x0.2.2.2.2.1,x0.2.2.2.2.2.1,x0.2.2.2.2.2.2.1,x0.2.2.2.2.2.2.2.1,x0.2.2.2.2.2.2.2.2.1,x0.2.2.2.2.2.2.2.2.2.1,x0.2.2.2.2.2.2.2.2.2.2.1,x0.2.2.2.2.2.2.2.2.2.2.2.1,x0.2.2.2.2.2.2.2.2.2.2.2.2.1,x0.2.2.2.2.2.2.2.2.2.2.2.2.2.1,x0.2.2.2.2.2.2.2.2.2.2.2.2.2.2.1,x0.2.2.2.2.2.2.2.2.2.2.2.2.2.2.2)
abbrev p0_0 (x:D0):Z5:=x
abbrev D1 :Type:=List Int×List Int×Int×Int×Int×Int×Int×Int×Int×Int×Int×List Int×Int×List Int×Int×Int×List Int×Int×Bool
abbrev A1 :ETy:=(.cons (.sl (ci .nil)) (.cons (.sl (ci .nil)) (ci (ci (ci (ci (ci (ci (ci (ci (ci (.cons (.sl (ci .nil)) (ci (.cons (.sl (ci .nil)) (ci (ci (.cons (.sl (ci .nil)) (ci (.cons .bool .nil)))))))))))))))))))
abbrev fl1 (x0:List Int)(x1:Zc)(x2:Z5):D1:=(x0,x1.1,x1.2,x2.1,x2.2.1,x2.2.2.1,x2.2.2.2.1,x2.2.2.2.2.1,x2.2.2.2.2.2.1,x2.2.2.2.2.2.2.1,x2.2.2.2.2.2.2.2.1,x2.2.2.2.2.2.2.2.2.1,x2.2.2.2.2.2.2.2.2.2.1,x2.2.2.2.2.2.2.2.2.2.2.1,x2.2.2.2.2.2.2.2.2.2.2.2.1,x2.2.2.2.2.2.2.2.2.2.2.2.2.1,x2.2.2.2.2.2.2.2.2.2.2.2.2.2.1,x2.2.2.2.2.2.2.2.2.2.2.2.2.2.2.1,x2.2.2.2.2.2.2.2.2.2.2.2.2.2.2.2)
abbrev p1_0 (x:D1):List Int:=x.1
abbrev p1_1 (x:D1):Zc:=(x.2.1,x.2.2.1)
abbrev p1_2 (x:D1):Z5:=x.2.2.2
abbrev D2 :Type:=Int×Int×Int×Int×Int×Int×Int×Int×List Int×Int×List Int×Int×Int×List Int×Int×Bool×List Z9
abbrev A2 :ETy:=eSigned
abbrev fl2 (x0:Z4):D2:=(x0.1,x0.2.1,x0.2.2.1,x0.2.2.2.1,x0.2.2.2.2.1,x0.2.2.2.2.2.1,x0.2.2.2.2.2.2.1,x0.2.2.2.2.2.2.2.1,x0.2.2.2.2.2.2.2.2.1,x0.2.2.2.2.2.2.2.2.2.1,x0.2.2.2.2.2.2.2.2.2.2.1,x0.2.2.2.2.2.2.2.2.2.2.2.1,x0.2.2.2.2.2.2.2.2.2.2.2.2.1,x0.2.2.2.2.2.2.2.2.2.2.2.2.2.1,x0.2.2.2.2.2.2.2.2.2.2.2.2.2.2.1,x0.2.2.2.2.2.2.2.2.2.2.2.2.2.2.2.1,x0.2.2.2.2.2.2.2.2.2.2.2.2.2.2.2.2)
abbrev p2_0 (x:D2):Z4:=x
abbrev D3 :Type:=Int×Int×Int×Int×Int×Int×Int×Int×List Int×Int×List Int×Int×Int×List Int×Int×Bool×Int×Int×Int×Int×Int×Int×Int×Int×List Int×Int×List Int×Int×Int×List Int×Int×Bool
abbrev A3 :ETy:=(ci (ci (ci (ci (ci (ci (ci (ci (.cons (.sl (ci .nil)) (ci (.cons (.sl (ci .nil)) (ci (ci (.cons (.sl (ci .nil)) (ci (.cons .bool (ci (ci (ci (ci (ci (ci (ci (ci (.cons (.sl (ci .nil)) (ci (.cons (.sl (ci .nil)) (ci (ci (.cons (.sl (ci .nil)) (ci (.cons .bool .nil))))))))))))))))))))))))))))))))
abbrev fl3 (x0:Z5)(x1:Z5):D3:=(x0.1,x0.2.1,x0.2.2.1,x0.2.2.2.1,x0.2.2.2.2.1,x0.2.2.2.2.2.1,x0.2.2.2.2.2.2.1,x0.2.2.2.2.2.2.2.1,x0.2.2.2.2.2.2.2.2.1,x0.2.2.2.2.2.2.2.2.2.1,x0.2.2.2.2.2.2.2.2.2.2.1,x0.2.2.2.2.2.2.2.2.2.2.2.1,x0.2.2.2.2.2.2.2.2.2.2.2.2.1,x0.2.2.2.2.2.2.2.2.2.2.2.2.2.1,x0.2.2.2.2.2.2.2.2.2.2.2.2.2.2.1,x0.2.2.2.2.2.2.2.2.2.2.2.2.2.2.2,x1.1,x1.2.1,x1.2.2.1,x1.2.2.2.1,x1.2.2.2.2.1,x1.2.2.2.2.2.1,x1.2.2.2.2.2.2.1,x1.2.2.2.2.2.2.2.1,x1.2.2.2.2.2.2.2.2.1,x1.2.2.2.2.2.2.2.2.2.1,x1.2.2.2.2.2.2.2.2.2.2.1,x1.2.2.2.2.2.2.2.2.2.2.2.1,x1.2.2.2.2.2.2.2.2.2.2.2.2.1,x1.2.2.2.2.2.2.2.2.2.2.2.2.2.1,x1.2.2.2.2.2.2.2.2.2.2.2.2.2.2.1,x1.2.2.2.2.2.2.2.2.2.2.2.2.2.2.2)
abbrev p3_0 (x:D3):Z5:=(x.1,x.2.1,x.2.2.1,x.2.2.2.1,x.2.2.2.2.1,x.2.2.2.2.2.1,x.2.2.2.2.2.2.1,x.2.2.2.2.2.2.2.1,x.2.2.2.2.2.2.2.2.1,x.2.2.2.2.2.2.2.2.2.1,x.2.2.2.2.2.2.2.2.2.2.1,x.2.2.2.2.2.2.2.2.2.2.2.1,x.2.2.2.2.2.2.2.2.2.2.2.2.1,x.2.2.2.2.2.2.2.2.2.2.2.2.2.1,x.2.2.2.2.2.2.2.2.2.2.2.2.2.2.1,x.2.2.2.2.2.2.2.2.2.2.2.2.2.2.2.1)
abbrev p3_1 (x:D3):Z5:=x.2.2.2.2.2.2.2.2.2.2.2.2.2.2.2.2
abbrev D4 :Type:=Int×Int×Int×Int×Int×Int×Int×Int×List Int×Int×List Int×Int×Int×List Int×Int×Bool×Int×Int×Int×Int×Int×Int×Int×Int×List Int×Int×List Int×Int×Int×List Int×Int×Bool×List Z9
abbrev A4 :ETy:=(ci (ci (ci (ci (ci (ci (ci (ci (.cons (.sl (ci .nil)) (ci (.cons (.sl (ci .nil)) (ci (ci (.cons (.sl (ci .nil)) (ci (.cons .bool (ci (ci (ci (ci (ci (ci (ci (ci (.cons (.sl (ci .nil)) (ci (.cons (.sl (ci .nil)) (ci (ci (.cons (.sl (ci .nil)) (ci (.cons .bool (.cons (.sl (ci (ci .nil))) .nil)))))))))))))))))))))))))))))))))
abbrev fl4 (x0:Z5)(x1:Z4):D4:=(x0.1,x0.2.1,x0.2.2.1,x0.2.2.2.1,x0.2.2.2.2.1,x0.2.2.2.2.2.1,x0.2.2.2.2.2.2.1,x0.2.2.2.2.2.2.2.1,x0.2.2.2.2.2.2.2.2.1,x0.2.2.2.2.2.2.2.2.2.1,x0.2.2.2.2.2.2.2.2.2.2.1,x0.2.2.2.2.2.2.2.2.2.2.2.1,x0.2.2.2.2.2.2.2.2.2.2.2.2.1,x0.2.2.2.2.2.2.2.2.2.2.2.2.2.1,x0.2.2.2.2.2.2.2.2.2.2.2.2.2.2.1,x0.2.2.2.2.2.2.2.2.2.2.2.2.2.2.2,x1.1,x1.2.1,x1.2.2.1,x1.2.2.2.1,x1.2.2.2.2.1,x1.2.2.2.2.2.1,x1.2.2.2.2.2.2.1,x1.2.2.2.2.2.2.2.1,x1.2.2.2.2.2.2.2.2.1,x1.2.2.2.2.2.2.2.2.2.1,x1.2.2.2.2.2.2.2.2.2.2.1,x1.2.2.2.2.2.2.2.2.2.2.2.1,x1.2.2.2.2.2.2.2.2.2.2.2.2.1,x1.2.2.2.2.2.2.2.2.2.2.2.2.2.1,x1.2.2.2.2.2.2.2.2.2.2.2.2.2.2.1,x1.2.2.2.2.2.2.2.2.2.2.2.2.2.2.2.1,x1.2.2.2.2.2.2.2.2.2.2.2.2.2.2.2.2)
abbrev p4_0 (x:D4):Z5:=(x.1,x.2.1,x.2.2.1,x.2.2.2.1,x.2.2.2.2.1,x.2.2.2.2.2.1,x.2.2.2.2.2.2.1,x.2.2.2.2.2.2.2.1,x.2.2.2.2.2.2.2.2.1,x.2.2.2.2.2.2.2.2.2.1,x.2.2.2.2.2.2.2.2.2.2.1,x.2.2.2.2.2.2.2.2.2.2.2.1,x.2.2.2.2.2.2.2.2.2.2.2.2.1,x.2.2.2.2.2.2.2.2.2.2.2.2.2.1,x.2.2.2.2.2.2.2.2.2.2.2.2.2.2.1,x.2.2.2.2.2.2.2.2.2.2.2.2.2.2.2.1)
abbrev p4_1 (x:D4):Z4:=x.2.2.2.2.2.2.2.2.2.2.2.2.2.2.2.2
abbrev D5 :Type:=(Z3)×Int×Int×Int×Int×Int×Int×Int×Int×List Int×Int×List Int×Int×Int×List Int×Int×Bool
abbrev A5 :ETy:=(.cons (.ptr (.cons (.sl (.cons (.int .u8) .nil)) (ci (ci .nil)))) (ci (ci (ci (ci (ci (ci (ci (ci (.cons (.sl (ci .nil)) (ci (.cons (.sl (ci .nil)) (ci (ci (.cons (.sl (ci .nil)) (ci (.cons .bool .nil)))))))))))))))))
abbrev fl5 (x0:(Z3))(x1:Z5):D5:=(x0,x1.1,x1.2.1,x1.2.2.1,x1.2.2.2.1,x1.2.2.2.2.1,x1.2.2.2.2.2.1,x1.2.2.2.2.2.2.1,x1.2.2.2.2.2.2.2.1,x1.2.2.2.2.2.2.2.2.1,x1.2.2.2.2.2.2.2.2.2.1,x1.2.2.2.2.2.2.2.2.2.2.1,x1.2.2.2.2.2.2.2.2.2.2.2.1,x1.2.2.2.2.2.2.2.2.2.2.2.2.1,x1.2.2.2.2.2.2.2.2.2.2.2.2.2.1,x1.2.2.2.2.2.2.2.2.2.2.2.2.2.2.1,x1.2.2.2.2.2.2.2.2.2.2.2.2.2.2.2)
abbrev p5_0 (x:D5):(Z3):=x.1
abbrev p5_1 (x:D5):Z5:=x.2
abbrev D6 :Type:=Int×Int×Int×Int×Int×Int×Int×Int×List Int×Int×List Int×Int×Int×List Int×Int×Bool×Int×Int×Int
abbrev A6 :ETy:=(ci (ci (ci (ci (ci (ci (ci (ci (.cons (.sl (ci .nil)) (ci (.cons (.sl (ci .nil)) (ci (ci (.cons (.sl (ci .nil)) (ci (.cons .bool (ci (ci (ci .nil)))))))))))))))))))
abbrev fl6 (x0:Z5)(x1:Int)(x2:Int)(x3:Int):D6:=(x0.1,x0.2.1,x0.2.2.1,x0.2.2.2.1,x0.2.2.2.2.1,x0.2.2.2.2.2.1,x0.2.2.2.2.2.2.1,x0.2.2.2.2.2.2.2.1,x0.2.2.2.2.2.2.2.2.1,x0.2.2.2.2.2.2.2.2.2.1,x0.2.2.2.2.2.2.2.2.2.2.1,x0.2.2.2.2.2.2.2.2.2.2.2.1,x0.2.2.2.2.2.2.2.2.2.2.2.2.1,x0.2.2.2.2.2.2.2.2.2.2.2.2.2.1,x0.2.2.2.2.2.2.2.2.2.2.2.2.2.2.1,x0.2.2.2.2.2.2.2.2.2.2.2.2.2.2.2,x1,x2,x3)
abbrev p6_0 (x:D6):Z5:=(x.1,x.2.1,x.2.2.1,x.2.2.2.1,x.2.2.2.2.1,x.2.2.2.2.2.1,x.2.2.2.2.2.2.1,x.2.2.2.2.2.2.2.1,x.2.2.2.2.2.2.2.2.1,x.2.2.2.2.2.2.2.2.2.1,x.2.2.2.2.2.2.2.2.2.2.1,x.2.2.2.2.2.2.2.2.2.2.2.1,x.2.2.2.2.2.2.2.2.2.2.2.2.1,x.2.2.2.2.2.2.2.2.2.2.2.2.2.1,x.2.2.2.2.2.2.2.2.2.2.2.2.2.2.1,x.2.2.2.2.2.2.2.2.2.2.2.2.2.2.2.1)
abbrev p6_1 (x:D6):Int:=x.2.2.2.2.2.2.2.2.2.2.2.2.2.2.2.2.1
abbrev p6_2 (x:D6):Int:=x.2.2.2.2.2.2.2.2.2.2.2.2.2.2.2.2.2.1
abbrev p6_3 (x:D6):Int:=x.2.2.2.2.2.2.2.2.2.2.2.2.2.2.2.2.2.2
abbrev D7 :Type:=Int×Int×Int×Int×Int×Int×Int×Int×List Int×Int×List Int×Int×Int×List Int×Int×Bool×List Z0×Int×Int
abbrev A7 :ETy:=(ci (ci (ci (ci (ci (ci (ci (ci (.cons (.sl (ci .nil)) (ci (.cons (.sl (ci .nil)) (ci (ci (.cons (.sl (ci .nil)) (ci (.cons .bool (.cons (.sl eEntry) (ci (ci .nil)))))))))))))))))))
abbrev fl7 (x0:Z5)(x1:List Z0)(x2:Int)(x3:Int):D7:=(x0.1,x0.2.1,x0.2.2.1,x0.2.2.2.1,x0.2.2.2.2.1,x0.2.2.2.2.2.1,x0.2.2.2.2.2.2.1,x0.2.2.2.2.2.2.2.1,x0.2.2.2.2.2.2.2.2.1,x0.2.2.2.2.2.2.2.2.2.1,x0.2.2.2.2.2.2.2.2.2.2.1,x0.2.2.2.2.2.2.2.2.2.2.2.1,x0.2.2.2.2.2.2.2.2.2.2.2.2.1,x0.2.2.2.2.2.2.2.2.2.2.2.2.2.1,x0.2.2.2.2.2.2.2.2.2.2.2.2.2.2.1,x0.2.2.2.2.2.2.2.2.2.2.2.2.2.2.2,x1,x2,x3)
abbrev p7_0 (x:D7):Z5:=(x.1,x.2.1,x.2.2.1,x.2.2.2.1,x.2.2.2.2.1,x.2.2.2.2.2.1,x.2.2.2.2.2.2.1,x.2.2.2.2.2.2.2.1,x.2.2.2.2.2.2.2.2.1,x.2.2.2.2.2.2.2.2.2.1,x.2.2.2.2.2.2.2.2.2.2.1,x.2.2.2.2.2.2.2.2.2.2.2.1,x.2.2.2.2.2.2.2.2.2.2.2.2.1,x.2.2.2.2.2.2.2.2.2.2.2.2.2.1,x.2.2.2.2.2.2.2.2.2.2.2.2.2.2.1,x.2.2.2.2.2.2.2.2.2.2.2.2.2.2.2.1)
abbrev p7_1 (x:D7):List Z0:=x.2.2.2.2.2.2.2.2.2.2.2.2.2.2.2.2.1
abbrev p7_2 (x:D7):Int:=x.2.2.2.2.2.2.2.2.2.2.2.2.2.2.2.2.2.1
abbrev p7_3 (x:D7):Int:=x.2.2.2.2.2.2.2.2.2.2.2.2.2.2.2.2.2.2
abbrev D8 :Type:=Int×Int×Int×Int×Int×Int×Int×Int×List Int×Int×List Int×Int×Int×List Int×Int×Bool×Int×Int×Int×Int×Int×Int×Int×Int×List Int×Int×List Int×Int×Int×List Int×Int×Bool×List Int
abbrev A8 :ETy:=(ci (ci (ci (ci (ci (ci (ci (ci (.cons (.sl (ci .nil)) (ci (.cons (.sl (ci .nil)) (ci (ci (.cons (.sl (ci .nil)) (ci (.cons .bool (ci (ci (ci (ci (ci (ci (ci (ci (.cons (.sl (ci .nil)) (ci (.cons (.sl (ci .nil)) (ci (ci (.cons (.sl (ci .nil)) (ci (.cons .bool (.cons (.sl (ci .nil)) .nil)))))))))))))))))))))))))))))))))
abbrev fl8 (x0:Z5)(x1:Z5)(x2:List Int):D8:=(x0.1,x0.2.1,x0.2.2.1,x0.2.2.2.1,x0.2.2.2.2.1,x0.2.2.2.2.2.1,x0.2.2.2.2.2.2.1,x0.2.2.2.2.2.2.2.1,x0.2.2.2.2.2.2.2.2.1,x0.2.2.2.2.2.2.2.2.2.1,x0.2.2.2.2.2.2.2.2.2.2.1,x0.2.2.2.2.2.2.2.2.2.2.2.1,x0.2.2.2.2.2.2.2.2.2.2.2.2.1,x0.2.2.2.2.2.2.2.2.2.2.2.2.2.1,x0.2.2.2.2.2.2.2.2.2.2.2.2.2.2.1,x0.2.2.2.2.2.2.2.2.2.2.2.2.2.2.2,x1.1,x1.2.1,x1.2.2.1,x1.2.2.2.1,x1.2.2.2.2.1,x1.2.2.2.2.2.1,x1.2.2.2.2.2.2.1,x1.2.2.2.2.2.2.2.1,x1.2.2.2.2.2.2.2.2.1,x1.2.2.2.2.2.2.2.2.2.1,x1.2.2.2.2.2.2.2.2.2.2.1,x1.2.2.2.2.2.2.2.2.2.2.2.1,x1.2.2.2.2.2.2.2.2.2.2.2.2.1,x1.2.2.2.2.2.2.2.2.2.2.2.2.2.1,x1.2.2.2.2.2.2.2.2.2.2.2.2.2.2.1,x1.2.2.2.2.2.2.2.2.2.2.2.2.2.2.2,x2)
abbrev p8_0 (x:D8):Z5:=(x.1,x.2.1,x.2.2.1,x.2.2.2.1,x.2.2.2.2.1,x.2.2.2.2.2.1,x.2.2.2.2.2.2.1,x.2.2.2.2.2.2.2.1,x.2.2.2.2.2.2.2.2.1,x.2.2.2.2.2.2.2.2.2.1,x.2.2.2.2.2.2.2.2.2.2.1,x.2.2.2.2.2.2.2.2.2.2.2.1,x.2.2.2.2.2.2.2.2.2.2.2.2.1,x.2.2.2.2.2.2.2.2.2.2.2.2.2.1,x.2.2.2.2.2.2.2.2.2.2.2.2.2.2.1,x.2.2.2.2.2.2.2.2.2.2.2.2.2.2.2.1)
abbrev p8_1 (x:D8):Z5:=(x.2.2.2.2.2.2.2.2.2.2.2.2.2.2.2.2.1,x.2.2.2.2.2.2.2.2.2.2.2.2.2.2.2.2.2.1,x.2.2.2.2.2.2.2.2.2.2.2.2.2.2.2.2.2.2.1,x.2.2.2.2.2.2.2.2.2.2.2.2.2.2.2.2.2.2.2.1,x.2.2.2.2.2.2.2.2.2.2.2.2.2.2.2.2.2.2.2.2.1,x.2.2.2.2.2.2.2.2.2.2.2.2.2.2.2.2.2.2.2.2.2.1,x.2.2.2.2.2.2.2.2.2.2.2.2.2.2.2.2.2.2.2.2.2.2.1,x.2.2.2.2.2.2.2.2.2.2.2.2.2.2.2.2.2.2.2.2.2.2.2.1,x.2.2.2.2.2.2.2.2.2.2.2.2.2.2.2.2.2.2.2.2.2.2.2.2.1,x.2.2.2.2.2.2.2.2.2.2.2.2.2.2.2.2.2.2.2.2.2.2.2.2.2.1,x.2.2.2.2.2.2.2.2.2.2.2.2.2.2.2.2.2.2.2.2.2.2.2.2.2.2.1,x.2.2.2.2.2.2.2.2.2.2.2.2.2.2.2.2.2.2.2.2.2.2.2.2.2.2.2.1,x.2.2.2.2.2.2.2.2.2.2.2.2.2.2.2.2.2.2.2.2.2.2.2.2.2.2.2.2.1,x.2.2.2.2.2.2.2.2.2.2.2.2.2.2.2.2.2.2.2.2.2.2.2.2.2.2.2.2.2.1,x.2.2.2.2.2.2.2.2.2.2.2.2.2.2.2.2.2.2.2.2.2.2.2.2.2.2.2.2.2.2.1,x.2.2.2.2.2.2.2.2.2.2.2.2.2.2.2.2.2.2.2.2.2.2.2.2.2.2.2.2.2.2.2.1)
abbrev p8_2 (x:D8):List Int:=x.2.2.2.2.2.2.2.2.2.2.2.2.2.2.2.2.2.2.2.2.2.2.2.2.2.2.2.2.2.2.2.2
abbrev D9 :Type:=List Z4×Int×Int×Int×Int×Int×Int×Int×Int×List Int×Int×List Int×Int×Int×List Int×Int×Bool×List Z9
abbrev A9 :ETy:=(.cons (.sl eSigned) (ci (ci (ci (ci (ci (ci (ci (ci (.cons (.sl (ci .nil)) (ci (.cons (.sl (ci .nil)) (ci (ci (.cons (.sl (ci .nil)) (ci (.cons .bool (.cons (.sl (ci (ci .nil))) .nil))))))))))))))))))
abbrev fl9 (x0:List Z4)(x1:Z4):D9:=(x0,x1.1,x1.2.1,x1.2.2.1,x1.2.2.2.1,x1.2.2.2.2.1,x1.2.2.2.2.2.1,x1.2.2.2.2.2.2.1,x1.2.2.2.2.2.2.2.1,x1.2.2.2.2.2.2.2.2.1,x1.2.2.2.2.2.2.2.2.2.1,x1.2.2.2.2.2.2.2.2.2.2.1,x1.2.2.2.2.2.2.2.2.2.2.2.1,x1.2.2.2.2.2.2.2.2.2.2.2.2.1,x1.2.2.2.2.2.2.2.2.2.2.2.2.2.1,x1.2.2.2.2.2.2.2.2.2.2.2.2.2.2.1,x1.2.2.2.2.2.2.2.2.2.2.2.2.2.2.2.1,x1.2.2.2.2.2.2.2.2.2.2.2.2.2.2.2.2)
abbrev p9_0 (x:D9):List Z4:=x.1
abbrev p9_1 (x:D9):Z4:=x.2
abbrev D10 :Type:=List Z4×List Z0×List Int×Int×Int×Int×Int×Int×Int×Int×Int×List Int×Int×List Int×Int×Int×List Int×Int×Bool×List Z0
abbrev A10 :ETy:=(.cons (.sl eSigned) (.cons (.sl eEntry) (.cons (.sl (ci .nil)) (ci (ci (ci (ci (ci (ci (ci (ci (.cons (.sl (ci .nil)) (ci (.cons (.sl (ci .nil)) (ci (ci (.cons (.sl (ci .nil)) (ci (.cons .bool (.cons (.sl eEntry) .nil))))))))))))))))))))
abbrev fl10 (x0:Z7)(x1:List Int)(x2:Z5)(x3:List Z0):D10:=(x0.1,x0.2,x1,x2.1,x2.2.1,x2.2.2.1,x2.2.2.2.1,x2.2.2.2.2.1,x2.2.2.2.2.2.1,x2.2.2.2.2.2.2.1,x2.2.2.2.2.2.2.2.1,x2.2.2.2.2.2.2.2.2.1,x2.2.2.2.2.2.2.2.2.2.1,x2.2.2.2.2.2.2.2.2.2.2.1,x2.2.2.2.2.2.2.2.2.2.2.2.1,x2.2.2.2.2.2.2.2.2.2.2.2.2.1,x2.2.2.2.2.2.2.2.2.2.2.2.2.2.1,x2.2.2.2.2.2.2.2.2.2.2.2.2.2.2.1,x2.2.2.2.2.2.2.2.2.2.2.2.2.2.2.2,x3)
abbrev p10_0 (x:D10):Z7:=(x.1,x.2.1)
abbrev p10_1 (x:D10):List Int:=x.2.2.1
abbrev p10_2 (x:D10):Z5:=(x.2.2.2.1,x.2.2.2.2.1,x.2.2.2.2.2.1,x.2.2.2.2.2.2.1,x.2.2.2.2.2.2.2.1,x.2.2.2.2.2.2.2.2.1,x.2.2.2.2.2.2.2.2.2.1,x.2.2.2.2.2.2.2.2.2.2.1,x.2.2.2.2.2.2.2.2.2.2.2.1,x.2.2.2.2.2.2.2.2.2.2.2.2.1,x.2.2.2.2.2.2.2.2.2.2.2.2.2.1,x.2.2.2.2.2.2.2.2.2.2.2.2.2.2.1,x.2.2.2.2.2.2.2.2.2.2.2.2.2.2.2.1,x.2.2.2.2.2.2.2.2.2.2.2.2.2.2.2.2.1,x.2.2.2.2.2.2.2.2.2.2.2.2.2.2.2.2.2.1,x.2.2.2.2.2.2.2.2.2.2.2.2.2.2.2.2.2.2.1)
abbrev p10_3 (x:D10):List Z0:=x.2.2.2.2.2.2.2.2.2.2.2.2.2.2.2.2.2.2.2
abbrev D11 :Type:=Int×Int×Int×Int×Int×Int×Int×Int×List Int×Int×List Int×Int×Int×List Int×Int×Bool×List Z9×List Int×Int
abbrev A11 :ETy:=(ci (ci (ci (ci (ci (ci (ci (ci (.cons (.sl (ci .nil)) (ci (.cons (.sl (ci .nil)) (ci (ci (.cons (.sl (ci .nil)) (ci (.cons .bool (.cons (.sl (ci (ci .nil))) (.cons (.sl (ci .nil)) (ci .nil)))))))))))))))))))
abbrev fl11 (x0:Z4)(x1:Zc):D11:=(x0.1,x0.2.1,x0.2.2.1,x0.2.2.2.1,x0.2.2.2.2.1,x0.2.2.2.2.2.1,x0.2.2.2.2.2.2.1,x0.2.2.2.2.2.2.2.1,x0.2.2.2.2.2.2.2.2.1,x0.2.2.2.2.2.2.2.2.2.1,x0.2.2.2.2.2.2.2.2.2.2.1,x0.2.2.2.2.2.2.2.2.2.2.2.1,x0.2.2.2.2.2.2.2.2.2.2.2.2.1,x0.2.2.2.2.2.2.2.2.2.2.2.2.2.1,x0.2.2.2.2.2.2.2.2.2.2.2.2.2.2.1,x0.2.2.2.2.2.2.2.2.2.2.2.2.2.2.2.1,x0.2.2.2.2.2.2.2.2.2.2.2.2.2.2.2.2,x1.1,x1.2)
abbrev p11_0 (x:D11):Z4:=(x.1,x.2.1,x.2.2.1,x.2.2.2.1,x.2.2.2.2.1,x.2.2.2.2.2.1,x.2.2.2.2.2.2.1,x.2.2.2.2.2.2.2.1,x.2.2.2.2.2.2.2.2.1,x.2.2.2.2.2.2.2.2.2.1,x.2.2.2.2.2.2.2.2.2.2.1,x.2.2.2.2.2.2.2.2.2.2.2.1,x.2.2.2.2.2.2.2.2.2.2.2.2.1,x.2.2.2.2.2.2.2.2.2.2.2.2.2.1,x.2.2.2.2.2.2.2.2.2.2.2.2.2.2.1,x.2.2.2.2.2.2.2.2.2.2.2.2.2.2.2.1,x.2.2.2.2.2.2.2.2.2.2.2.2.2.2.2.2.1)
abbrev p11_1 (x:D11):Zc:=x.2.2.2.2.2.2.2.2.2.2.2.2.2.2.2.2.2
abbrev D12 :Type:=Int×Int×Int×Int×Int×Int×Int×Int×List Int×Int×List Int×Int×Int×List Int×Int×Bool×List Z9×Int×Int×Int×Int×Int×Int×Int×Int×List Int×Int×List Int×Int×Int×List Int×Int×Bool×List Z9
abbrev A12 :ETy:=(ci (ci (ci (ci (ci (ci (ci (ci (.cons (.sl (ci .nil)) (ci (.cons (.sl (ci .nil)) (ci (ci (.cons (.sl (ci .nil)) (ci (.cons .bool (.cons (.sl (ci (ci .nil))) (ci (ci (ci (ci (ci (ci (ci (ci (.cons (.sl (ci .nil)) (ci (.cons (.sl (ci .nil)) (ci (ci (.cons (.sl (ci .nil)) (ci (.cons .bool (.cons (.sl (ci (ci .nil))) .nil))))))))))))))))))))))))))))))))))
abbrev fl12 (x0:Z4)(x1:Z4):D12:=(x0.1,x0.2.1,x0.2.2.1,x0.2.2.2.1,x0.2.2.2.2.1,x0.2.2.2.2.2.1,x0.2.2.2.2.2.2.1,x0.2.2.2.2.2.2.2.1,x0.2.2.2.2.2.2.2.2.1,x0.2.2.2.2.2.2.2.2.2.1,x0.2.2.2.2.2.2.2.2.2.2.1,x0.2.2.2.2.2.2.2.2.2.2.2.1,x0.2.2.2.2.2.2.2.2.2.2.2.2.1,x0.2.2.2.2.2.2.2.2.2.2.2.2.2.1,x0.2.2.2.2.2.2.2.2.2.2.2.2.2.2.1,x0.2.2.2.2.2.2.2.2.2.2.2.2.2.2.2.1,x0.2.2.2.2.2.2.2.2.2.2.2.2.2.2.2.2,x1.1,x1.2.1,x1.2.2.1,x1.2.2.2.1,x1.2.2.2.2.1,x1.2.2.2.2.2.1,x1.2.2.2.2.2.2.1,x1.2.2.2.2.2.2.2.1,x1.2.2.2.2.2.2.2.2.1,x1.2.2.2.2.2.2.2.2.2.1,x1.2.2.2.2.2.2.2.2.2.2.1,x1.2.2.2.2.2.2.2.2.2.2.2.1,x1.2.2.2.2.2.2.2.2.2.2.2.2.1,x1.2.2.2.2.2.2.2.2.2.2.2.2.2.1,x1.2.2.2.2.2.2.2.2.2.2.2.2.2.2.1,x1.2.2.2.2.2.2.2.2.2.2.2.2.2.2.2.1,x1.2.2.2.2.2.2.2.2.2.2.2.2.2.2.2.2)
abbrev p12_0 (x:D12):Z4:=(x.1,x.2.1,x.2.2.1,x.2.2.2.1,x.2.2.2.2.1,x.2.2.2.2.2.1,x.2.2.2.2.2.2.1,x.2.2.2.2.2.2.2.1,x.2.2.2.2.2.2.2.2.1,x.2.2.2.2.2.2.2.2.2.1,x.2.2.2.2.2.2.2.2.2.2.1,x.2.2.2.2.2.2.2.2.2.2.2.1,x.2.2.2.2.2.2.2.2.2.2.2.2.1,x.2.2.2.2.2.2.2.2.2.2.2.2.2.1,x.2.2.2.2.2.2.2.2.2.2.2.2.2.2.1,x.2.2.2.2.2.2.2.2.2.2.2.2.2.2.2.1,x.2.2.2.2.2.2.2.2.2.2.2.2.2.2.2.2.1)
abbrev p12_1 (x:D12):Z4:=x.2.2.2.2.2.2.2.2.2.2.2.2.2.2.2.2.2
abbrev D13 :Type:=Int×ByteArray×Int×Int×List ByteArray×ByteArray×Int×Int×List ByteArray×Int×List Int×Int×List Int×Int×ByteArray×Int×Int×List ByteArray×ByteArray×Int×Int×List ByteArray×Int×List Int×Int×List Int
abbrev A13 :ETy:=(ci (.cons .str (ci (ci (.cons (.sl (.cons .str .nil)) (.cons .str (ci (ci (.cons (.sl (.cons .str .nil)) (ci (.cons (.sl (ci .nil)) (ci (.cons (.sl (ci .nil)) (ci (.cons .str (ci (ci (.cons (.sl (.cons .str .nil)) (.cons .str (ci (ci (.cons (.sl (.cons .str .nil)) (ci (.cons (.sl (ci .nil)) (ci (.cons (.sl (ci .nil)) .nil))))))))))))))))))))))))))
abbrev fl13 (x0:Y5)(x1:Y5):D13:=(x0.1,x0.2.1,x0.2.2.1,x0.2.2.2.1,x0.2.2.2.2.1,x0.2.2.2.2.2.1,x0.2.2.2.2.2.2.1,x0.2.2.2.2.2.2.2.1,x0.2.2.2.2.2.2.2.2.1,x0.2.2.2.2.2.2.2.2.2.1,x0.2.2.2.2.2.2.2.2.2.2.1,x0.2.2.2.2.2.2.2.2.2.2.2.1,x0.2.2.2.2.2.2.2.2.2.2.2.2,x1.1,x1.2.1,x1.2.2.1,x1.2.2.2.1,x1.2.2.2.2.1,x1.2.2.2.2.2.1,x1.2.2.2.2.2.2.1,x1.2.2.2.2.2.2.2.1,x1.2.2.2.2.2.2.2.2.1,x1.2.2.2.2.2.2.2.2.2.1,x1.2.2.2.2.2.2.2.2.2.2.1,x1.2.2.2.2.2.2.2.2.2.2.2.1,x1.2.2.2.2.2.2.2.2.2.2.2.2)
abbrev p13_0 (x:D13):Y5:=(x.1,x.2.1,x.2.2.1,x.2.2.2.1,x.2.2.2.2.1,x.2.2.2.2.2.1,x.2.2.2.2.2.2.1,x.2.2.2.2.2.2.2.1,x.2.2.2.2.2.2.2.2.1,x.2.2.2.2.2.2.2.2.2.1,x.2.2.2.2.2.2.2.2.2.2.1,x.2.2.2.2.2.2.2.2.2.2.2.1,x.2.2.2.2.2.2.2.2.2.2.2.2.1)
abbrev p13_1 (x:D13):Y5:=x.2.2.2.2.2.2.2.2.2.2.2.2.2
abbrev D14 :Type:=List Z4×Bool×ByteArray×Int×Int×List ByteArray×Int×List Int×Int×ByteArray×Int×Int×List ByteArray×ByteArray×Int×Int×List ByteArray×Int×List Int×Int×List Int×List Z4×Bool×ByteArray×Int×Int×List ByteArray×Int×List Int×Int×ByteArray×Int×Int×List ByteArray×ByteArray×Int×Int×List ByteArray×Int×List Int×Int×List Int
abbrev A14 :ETy:=(.cons (.sl eSigned) (.cons .bool (.cons .str (ci (ci (.cons (.sl (.cons .str .nil)) (ci (.cons (.sl (ci .nil)) (ci (.cons .str (ci (ci (.cons (.sl (.cons .str .nil)) (.cons .str (ci (ci (.cons (.sl (.cons .str .nil)) (ci (.cons (.sl (ci .nil)) (ci (.cons (.sl (ci .nil)) (.cons (.sl eSigned) (.cons .bool (.cons .str (ci (ci (.cons (.sl (.cons .str .nil)) (ci (.cons (.sl (ci .nil)) (ci (.cons .str (ci (ci (.cons (.sl (.cons .str .nil)) (.cons .str (ci (ci (.cons (.sl (.cons .str .nil)) (ci (.cons (.sl (ci .nil)) (ci (.cons (.sl (ci .nil)) .nil))))))))))))))))))))))))))))))))))))))))))
abbrev fl14 (x0:Zk)(x1:Zk):D14:=(x0.1,x0.2.1,x0.2.2.1,x0.2.2.2.1,x0.2.2.2.2.1,x0.2.2.2.2.2.1,x0.2.2.2.2.2.2.1,x0.2.2.2.2.2.2.2.1,x0.2.2.2.2.2.2.2.2.1,x0.2.2.2.2.2.2.2.2.2.1,x0.2.2.2.2.2.2.2.2.2.2.1,x0.2.2.2.2.2.2.2.2.2.2.2.1,x0.2.2.2.2.2.2.2.2.2.2.2.2.1,x0.2.2.2.2.2.2.2.2.2.2.2.2.2.1,x0.2.2.2.2.2.2.2.2.2.2.2.2.2.2.1,x0.2.2.2.2.2.2.2.2.2.2.2.2.2.2.2.1,x0.2.2.2.2.2.2.2.2.2.2.2.2.2.2.2.2.1,x0.2.2.2.2.2.2.2.2.2.2.2.2.2.2.2.2.2.1,x0.2.2.2.2.2.2.2.2.2.2.2.2.2.2.2.2.2.2.1,x0.2.2.2.2.2.2.2.2.2.2.2.2.2.2.2.2.2.2.2.1,x0.2.2.2.2.2.2.2.2.2.2.2.2.2.2.2.2.2.2.2.2,x1.1,x1.2.1,x1.2.2.1,x1.2.2.2.1,x1.2.2.2.2.1,x1.2.2.2.2.2.1,x1.2.2.2.2.2.2.1,x1.2.2.2.2.2.2.2.1,x1.2.2.2.2.2.2.2.2.1,x1.2.2.2.2.2.2.2.2.2.1,x1.2.2.2.2.2.2.2.2.2.2.1,x1.2.2.2.2.2.2.2.2.2.2.2.1,x1.2.2.2.2.2.2.2.2.2.2.2.2.1,x1.2.2.2.2.2.2.2.2.2.2.2.2.2.1,x1.2.2.2.2.2.2.2.2.2.2.2.2.2.2.1,x1.2.2.2.2.2.2.2.2.2.2.2.2.2.2.2.1,x1.2.2.2.2.2.2.2.2.2.2.2.2.2.2.2.2.1,x1.2.2.2.2.2.2.2.2.2.2.2.2.2.2.2.2.2.1,x1.2.2.2.2.2.2.2.2.2.2.2.2.2.2.2.2.2.2.1,x1.2.2.2.2.2.2.2.2.2.2.2.2.2.2.2.2.2.2.2.1,x1.2.2.2.2.2.2.2.2.2.2.2.2.2.2.2.2.2.2.2.2)
abbrev p14_0 (x:D14):Zk:=(x.1,x.2.1,x.2.2.1,x.2.2.2.1,x.2.2.2.2.1,x.2.2.2.2.2.1,x.2.2.2.2.2.2.1,x.2.2.2.2.2.2.2.1,x.2.2.2.2.2.2.2.2.1,x.2.2.2.2.2.2.2.2.2.1,x.2.2.2.2.2.2.2.2.2.2.1,x.2.2.2.2.2.2.2.2.2.2.2.1,x.2.2.2.2.2.2.2.2.2.2.2.2.1,x.2.2.2.2.2.2.2.2.2.2.2.2.2.1,x.2.2.2.2.2.2.2.2.2.2.2.2.2.2.1,x.2.2.2.2.2.2.2.2.2.2.2.2.2.2.2.1,x.2.2.2.2.2.2.2.2.2.2.2.2.2.2.2.2.1,x.2.2.2.2.2.2.2.2.2.2.2.2.2.2.2.2.2.1,x.2.2.2.2.2.2.2.2.2.2.2.2.2.2.2.2.2.2.1,x.2.2.2.2.2.2.2.2.2.2.2.2.2.2.2.2.2.2.2.1,x.2.2.2.2.2.2.2.2.2.2.2.2.2.2.2.2.2.2.2.2.1)
abbrev p14_1 (x:D14):Zk:=x.2.2.2.2.2.2.2.2.2.2.2.2.2.2.2.2.2.2.2.2.2
abbrev D15 :Type:=Int×Int×Int×Int×Int×Int×Int×Int×List Int×Int×List Int×Int×Int×List Int×Int×Bool×Int
abbrev A15 :ETy:=(ci (ci (ci (ci (ci (ci (ci (ci (.cons (.sl (ci .nil)) (ci (.cons (.sl (ci .nil)) (ci (ci (.cons (.sl (ci .nil)) (ci (.cons .bool (ci .nil)))))))))))))))))
abbrev fl15 (x0:Z5)(x1:Int):D15:=(x0.1,x0.2.1,x0.2.2.1,x0.2.2.2.1,x0.2.2.2.2.1,x0.2.2.2.2.2.1,x0.2.2.2.2.2.2.1,x0.2.2.2.2.2.2.2.1,x0.2.2.2.2.2.2.2.2.1,x0.2.2.2.2.2.2.2.2.2.1,x0.2.2.2.2.2.2.2.2.2.2.1,x0.2.2.2.2.2.2.2.2.2.2.2.1,x0.2.2.2.2.2.2.2.2.2.2.2.2.1,x0.2.2.2.2.2.2.2.2.2.2.2.2.2.1,x0.2.2.2.2.2.2.2.2.2.2.2.2.2.2.1,x0.2.2.2.2.2.2.2.2.2.2.2.2.2.2.2,x1)
abbrev p15_0 (x:D15):Z5:=(x.1,x.2.1,x.2.2.1,x.2.2.2.1,x.2.2.2.2.1,x.2.2.2.2.2.1,x.2.2.2.2.2.2.1,x.2.2.2.2.2.2.2.1,x.2.2.2.2.2.2.2.2.1,x.2.2.2.2.2.2.2.2.2.1,x.2.2.2.2.2.2.2.2.2.2.1,x.2.2.2.2.2.2.2.2.2.2.2.1,x.2.2.2.2.2.2.2.2.2.2.2.2.1,x.2.2.2.2.2.2.2.2.2.2.2.2.2.1,x.2.2.2.2.2.2.2.2.2.2.2.2.2.2.1,x.2.2.2.2.2.2.2.2.2.2.2.2.2.2.2.1)
abbrev p15_1 (x:D15):Int:=x.2.2.2.2.2.2.2.2.2.2.2.2.2.2.2.2
abbrev D16 :Type:=Int×Int×ByteArray×Int×ByteArray×Int×Int×List ByteArray×ByteArray×Int×Int×List ByteArray×Int×List Int×Int×List Int
abbrev A16 :ETy:=(ci (ci (.cons .str (ci (.cons .str (ci (ci (.cons (.sl (.cons .str .nil)) (.cons .str (ci (ci (.cons (.sl (.cons .str .nil)) (ci (.cons (.sl (ci .nil)) (ci (.cons (.sl (ci .nil)) .nil))))))))))))))))
abbrev fl16 (x0:Int)(x1:Int)(x2:ByteArray)(x3:Y5):D16:=(x0,x1,x2,x3.1,x3.2.1,x3.2.2.1,x3.2.2.2.1,x3.2.2.2.2.1,x3.2.2.2.2.2.1,x3.2.2.2.2.2.2.1,x3.2.2.2.2.2.2.2.1,x3.2.2.2.2.2.2.2.2.1,x3.2.2.2.2.2.2.2.2.2.1,x3.2.2.2.2.2.2.2.2.2.2.1,x3.2.2.2.2.2.2.2.2.2.2.2.1,x3.2.2.2.2.2.2.2.2.2.2.2.2)
abbrev p16_0 (x:D16):Int:=x.1
abbrev p16_1 (x:D16):Int:=x.2.1
abbrev p16_2 (x:D16):ByteArray:=x.2.2.1
abbrev p16_3 (x:D16):Y5:=x.2.2.2
abbrev D17 :Type:=Int×Int×Int×Int×Int×Int×Int×Int×List Int×Int×List Int×Int×Int×List Int×Int×Bool×ByteArray×List Z4×Bool×ByteArray×Int×Int×List ByteArray×Int×List Int×Int×ByteArray×Int×Int×List ByteArray×ByteArray×Int×Int×List ByteArray×Int×List Int×Int×List Int
abbrev A17 :ETy:=(ci (ci (ci (ci (ci (ci (ci (ci (.cons (.sl (ci .nil)) (ci (.cons (.sl (ci .nil)) (ci (ci (.cons (.sl (ci .nil)) (ci (.cons .bool (.cons .str (.cons (.sl eSigned) (.cons .bool (.cons .str (ci (ci (.cons (.sl (.cons .str .nil)) (ci (.cons (.sl (ci .nil)) (ci (.cons .str (ci (ci (.cons (.sl (.cons .str .nil)) (.cons .str (ci (ci (.cons (.sl (.cons .str .nil)) (ci (.cons (.sl (ci .nil)) (ci (.cons (.sl (ci .nil)) .nil))))))))))))))))))))))))))))))))))))))
abbrev fl17 (x0:Z5)(x1:ByteArray)(x2:Zk):D17:=(x0.1,x0.2.1,x0.2.2.1,x0.2.2.2.1,x0.2.2.2.2.1,x0.2.2.2.2.2.1,x0.2.2.2.2.2.2.1,x0.2.2.2.2.2.2.2.1,x0.2.2.2.2.2.2.2.2.1,x0.2.2.2.2.2.2.2.2.2.1,x0.2.2.2.2.2.2.2.2.2.2.1,x0.2.2.2.2.2.2.2.2.2.2.2.1,x0.2.2.2.2.2.2.2.2.2.2.2.2.1,x0.2.2.2.2.2.2.2.2.2.2.2.2.2.1,x0.2.2.2.2.2.2.2.2.2.2.2.2.2.2.1,x0.2.2.2.2.2.2.2.2.2.2.2.2.2.2.2,x1,x2.1,x2.2.1,x2.2.2.1,x2.2.2.2.1,x2.2.2.2.2.1,x2.2.2.2.2.2.1,x2.2.2.2.2.2.2.1,x2.2.2.2.2.2.2.2.1,x2.2.2.2.2.2.2.2.2.1,x2.2.2.2.2.2.2.2.2.2.1,x2.2.2.2.2.2.2.2.2.2.2.1,x2.2.2.2.2.2.2.2.2.2.2.2.1,x2.2.2.2.2.2.2.2.2.2.2.2.2.1,x2.2.2.2.2.2.2.2.2.2.2.2.2.2.1,x2.2.2.2.2.2.2.2.2.2.2.2.2.2.2.1,x2.2.2.2.2.2.2.2.2.2.2.2.2.2.2.2.1,x2.2.2.2.2.2.2.2.2.2.2.2.2.2.2.2.2.1,x2.2.2.2.2.2.2.2.2.2.2.2.2.2.2.2.2.2.1,x2.2.2.2.2.2.2.2.2.2.2.2.2.2.2.2.2.2.2.1,x2.2.2.2.2.2.2.2.2.2.2.2.2.2.2.2.2.2.2.2.1,x2.2.2.2.2.2.2.2.2.2.2.2.2.2.2.2.2.2.2.2.2)
abbrev p17_0 (x:D17):Z5:=(x.1,x.2.1,x.2.2.1,x.2.2.2.1,x.2.2.2.2.1,x.2.2.2.2.2.1,x.2.2.2.2.2.2.1,x.2.2.2.2.2.2.2.1,x.2.2.2.2.2.2.2.2.1,x.2.2.2.2.2.2.2.2.2.1,x.2.2.2.2.2.2.2.2.2.2.1,x.2.2.2.2.2.2.2.2.2.2.2.1,x.2.2.2.2.2.2.2.2.2.2.2.2.1,x.2.2.2.2.2.2.2.2.2.2.2.2.2.1,x.2.2.2.2.2.2.2.2.2.2.2.2.2.2.1,x.2.2.2.2.2.2.2.2.2.2.2.2.2.2.2.1)
abbrev p17_1 (x:D17):ByteArray:=x.2.2.2.2.2.2.2.2.2.2.2.2.2.2.2.2.1
abbrev p17_2 (x:D17):Zk:=x.2.2.2.2.2.2.2.2.2.2.2.2.2.2.2.2.2
abbrev D18 :Type:=Int×ByteArray×List Z4×Bool×ByteArray×Int×Int×List ByteArray×Int×List Int×Int×ByteArray×Int×Int×List ByteArray×ByteArray×Int×Int×List ByteArray×Int×List Int×Int×List Int×Int
abbrev A18 :ETy:=(ci (.cons .str (.cons (.sl eSigned) (.cons .bool (.cons .str (ci (ci (.cons (.sl (.cons .str .nil)) (ci (.cons (.sl (ci .nil)) (ci (.cons .str (ci (ci (.cons (.sl (.cons .str .nil)) (.cons .str (ci (ci (.cons (.sl (.cons .str .nil)) (ci (.cons (.sl (ci .nil)) (ci (.cons (.sl (ci .nil)) (ci .nil))))))))))))))))))))))))
abbrev fl18 (x0:Int)(x1:ByteArray)(x2:Zk)(x3:Int):D18:=(x0,x1,x2.1,x2.2.1,x2.2.2.1,x2.2.2.2.1,x2.2.2.2.2.1,x2.2.2.2.2.2.1,x2.2.2.2.2.2.2.1,x2.2.2.2.2.2.2.2.1,x2.2.2.2.2.2.2.2.2.1,x2.2.2.2.2.2.2.2.2.2.1,x2.2.2.2.2.2.2.2.2.2.2.1,x2.2.2.2.2.2.2.2.2.2.2.2.1,x2.2.2.2.2.2.2.2.2.2.2.2.2.1,x2.2.2.2.2.2.2.2.2.2.2.2.2.2.1,x2.2.2.2.2.2.2.2.2.2.2.2.2.2.2.1,x2.2.2.2.2.2.2.2.2.2.2.2.2.2.2.2.1,x2.2.2.2.2.2.2.2.2.2.2.2.2.2.2.2.2.1,x2.2.2.2.2.2.2.2.2.2.2.2.2.2.2.2.2.2.1,x2.2.2.2.2.2.2.2.2.2.2.2.2.2.2.2.2.2.2.1,x2.2.2.2.2.2.2.2.2.2.2.2.2.2.2.2.2.2.2.2.1,x2.2.2.2.2.2.2.2.2.2.2.2.2.2.2.2.2.2.2.2.2,x3)
abbrev p18_0 (x:D18):Int:=x.1
abbrev p18_1 (x:D18):ByteArray:=x.2.1
abbrev p18_2 (x:D18):Zk:=(x.2.2.1,x.2.2.2.1,x.2.2.2.2.1,x.2.2.2.2.2.1,x.2.2.2.2.2.2.1,x.2.2.2.2.2.2.2.1,x.2.2.2.2.2.2.2.2.1,x.2.2.2.2.2.2.2.2.2.1,x.2.2.2.2.2.2.2.2.2.2.1,x.2.2.2.2.2.2.2.2.2.2.2.1,x.2.2.2.2.2.2.2.2.2.2.2.2.1,x.2.2.2.2.2.2.2.2.2.2.2.2.2.1,x.2.2.2.2.2.2.2.2.2.2.2.2.2.2.1,x.2.2.2.2.2.2.2.2.2.2.2.2.2.2.2.1,x.2.2.2.2.2.2.2.2.2.2.2.2.2.2.2.2.1,x.2.2.2.2.2.2.2.2.2.2.2.2.2.2.2.2.2.1,x.2.2.2.2.2.2.2.2.2.2.2.2.2.2.2.2.2.2.1,x.2.2.2.2.2.2.2.2.2.2.2.2.2.2.2.2.2.2.2.1,x.2.2.2.2.2.2.2.2.2.2.2.2.2.2.2.2.2.2.2.2.1,x.2.2.2.2.2.2.2.2.2.2.2.2.2.2.2.2.2.2.2.2.2.1,x.2.2.2.2.2.2.2.2.2.2.2.2.2.2.2.2.2.2.2.2.2.2.1)
abbrev p18_3 (x:D18):Int:=x.2.2.2.2.2.2.2.2.2.2.2.2.2.2.2.2.2.2.2.2.2.2.2
abbrev lsHead (x:Z5):List Lf:=[.vi (x.1), .vi (x.2.1), .vi (x.2.2.1), .vi (x.2.2.2.1), .vi (x.2.2.2.2.1), .vi (x.2.2.2.2.2.1), .vi (x.2.2.2.2.2.2.1), .vi (x.2.2.2.2.2.2.2.1), .val (.sl (ci .nil) x.2.2.2.2.2.2.2.2.1), .vi (x.2.2.2.2.2.2.2.2.2.1), .val (.sl (ci .nil) x.2.2.2.2.2.2.2.2.2.2.1), .vi (x.2.2.2.2.2.2.2.2.2.2.2.1), .vi (x.2.2.2.2.2.2.2.2.2.2.2.2.1), .val (.sl (ci .nil) x.2.2.2.2.2.2.2.2.2.2.2.2.2.1), .vi (x.2.2.2.2.2.2.2.2.2.2.2.2.2.2.1), .val (.bool x.2.2.2.2.2.2.2.2.2.2.2.2.2.2.2)]
abbrev lsSigned (x:Z4):List Lf:=[.vi (x.1), .vi (x.2.1), .vi (x.2.2.1), .vi (x.2.2.2.1), .vi (x.2.2.2.2.1), .vi (x.2.2.2.2.2.1), .vi (x.2.2.2.2.2.2.1), .vi (x.2.2.2.2.2.2.2.1), .val (.sl (ci .nil) x.2.2.2.2.2.2.2.2.1), .vi (x.2.2.2.2.2.2.2.2.2.1), .val (.sl (ci .nil) x.2.2.2.2.2.2.2.2.2.2.1), .vi (x.2.2.2.2.2.2.2.2.2.2.2.1), .vi (x.2.2.2.2.2.2.2.2.2.2.2.2.1), .val (.sl (ci .nil) x.2.2.2.2.2.2.2.2.2.2.2.2.2.1), .vi (x.2.2.2.2.2.2.2.2.2.2.2.2.2.2.1), .val (.bool x.2.2.2.2.2.2.2.2.2.2.2.2.2.2.2.1), .val (.sl (ci (ci .nil)) x.2.2.2.2.2.2.2.2.2.2.2.2.2.2.2.2)]
abbrev lsGap (x:Y5):List Lf:=[.vi (x.1), .val (.str x.2.1), .vi (x.2.2.1), .vi (x.2.2.2.1), .val (.sl (.cons .str .nil) x.2.2.2.2.1), .val (.str x.2.2.2.2.2.1), .vi (x.2.2.2.2.2.2.1), .vi (x.2.2.2.2.2.2.2.1), .val (.sl (.cons .str .nil) x.2.2.2.2.2.2.2.2.1), .vi (x.2.2.2.2.2.2.2.2.2.1), .val (.sl (ci .nil) x.2.2.2.2.2.2.2.2.2.2.1), .vi (x.2.2.2.2.2.2.2.2.2.2.2.1), .val (.sl (ci .nil) x.2.2.2.2.2.2.2.2.2.2.2.2)]
abbrev lsAnswer (x:Zk):List Lf:=[.val (.sl eSigned x.1), .val (.bool x.2.1), .val (.str x.2.2.1), .vi (x.2.2.2.1), .vi (x.2.2.2.2.1), .val (.sl (.cons .str .nil) x.2.2.2.2.2.1), .vi (x.2.2.2.2.2.2.1), .val (.sl (ci .nil) x.2.2.2.2.2.2.2.1), .vi (x.2.2.2.2.2.2.2.2.1), .val (.str x.2.2.2.2.2.2.2.2.2.1), .vi (x.2.2.2.2.2.2.2.2.2.2.1), .vi (x.2.2.2.2.2.2.2.2.2.2.2.1), .val (.sl (.cons .str .nil) x.2.2.2.2.2.2.2.2.2.2.2.2.1), .val (.str x.2.2.2.2.2.2.2.2.2.2.2.2.2.1), .vi (x.2.2.2.2.2.2.2.2.2.2.2.2.2.2.1), .vi (x.2.2.2.2.2.2.2.2.2.2.2.2.2.2.2.1), .val (.sl (.cons .str .nil) x.2.2.2.2.2.2.2.2.2.2.2.2.2.2.2.2.1), .vi (x.2.2.2.2.2.2.2.2.2.2.2.2.2.2.2.2.2.1), .val (.sl (ci .nil) x.2.2.2.2.2.2.2.2.2.2.2.2.2.2.2.2.2.2.1), .vi (x.2.2.2.2.2.2.2.2.2.2.2.2.2.2.2.2.2.2.2.1), .val (.sl (ci .nil) x.2.2.2.2.2.2.2.2.2.2.2.2.2.2.2.2.2.2.2.2)]
abbrev tys :List (Nat×TI):=[(3,⟨.int .i64,false,[.vi ((0:Int))],8,[],(ci .nil)⟩),
 (4,⟨.bool,false,[.val (.bool false)],1,[],(.cons .bool .nil)⟩),
 (5,⟨.int .u8,false,[.val (.int .u8 (0:Int))],1,[],(.cons (.int .u8) .nil)⟩),
 (9,⟨.str,false,[.val (.str (⟨#[]⟩:ByteArray))],16,[],(.cons .str .nil)⟩),
 (22,⟨.sl 5,false,[.nil0],24,[],(.cons (.sl (.cons (.int .u8) .nil)) .nil)⟩),
 (24,⟨.sl 47,false,[.nil0],24,[],(.cons (.sl (.cons (.sl V.eSigned) (.cons (.sl V.eEntry) .nil))) .nil)⟩),
 (26,⟨.st,false,[.nil0, .vi ((0:Int))],32,[(0,1,false),(1,1,false)],(.cons (.sl (.cons (.sl V.eSigned) (.cons (.sl V.eEntry) .nil))) (ci .nil))⟩),
 (29,⟨.sl 93,false,[.nil0],24,[],(.cons (.sl V.eSigned) .nil)⟩),
 (30,⟨.sl 9,false,[.nil0],24,[],(.cons (.sl (.cons .str .nil)) .nil)⟩),
 (32,⟨.st,false,[.val (.str (⟨#[]⟩:ByteArray)), .vi ((0:Int)), .vi ((0:Int)), .nil0],56,[(0,1,false),(1,1,false),(2,1,false),(3,1,false)],V.eEntry⟩),
 (33,⟨.sl 3,false,[.nil0],24,[],(.cons (.sl (ci .nil)) .nil)⟩),
 (35,⟨.st,false,[.vi ((0:Int)), .nil0],32,[(0,1,false),(1,1,false)],(ci (.cons (.sl (ci .nil)) .nil))⟩),
 (37,⟨.st,false,[.vi ((0:Int)), .val (.str (⟨#[]⟩:ByteArray)), .vi ((0:Int)), .vi ((0:Int)), .nil0, .val (.str (⟨#[]⟩:ByteArray)), .vi ((0:Int)), .vi ((0:Int)), .nil0, .vi ((0:Int)), .nil0, .vi ((0:Int)), .nil0],184,[(0,1,false),(1,4,true),(5,4,true),(9,2,true),(11,2,true)],V.eGap⟩),
 (39,⟨.st,false,[.nil0, .val (.bool false), .val (.str (⟨#[]⟩:ByteArray)), .vi ((0:Int)), .vi ((0:Int)), .nil0, .vi ((0:Int)), .nil0, .vi ((0:Int)), .val (.str (⟨#[]⟩:ByteArray)), .vi ((0:Int)), .vi ((0:Int)), .nil0, .val (.str (⟨#[]⟩:ByteArray)), .vi ((0:Int)), .vi ((0:Int)), .nil0, .vi ((0:Int)), .nil0, .vi ((0:Int)), .nil0],304,[(0,1,false),(1,1,false),(2,4,true),(6,2,true),(8,13,true)],V.eAnswer⟩),
 (45,⟨.sl 32,false,[.nil0],24,[],(.cons (.sl V.eEntry) .nil)⟩),
 (47,⟨.st,false,[.nil0, .nil0],48,[(0,1,false),(1,1,false)],(.cons (.sl V.eSigned) (.cons (.sl V.eEntry) .nil))⟩),
 (49,⟨.st,false,[.nil0, .vi ((0:Int))],32,[(0,1,false),(1,1,false)],(.cons (.sl (ci .nil)) (ci .nil))⟩),
 (51,⟨.st,false,[.vi ((0:Int)), .vi ((0:Int)), .vi ((0:Int)), .vi ((0:Int)), .vi ((0:Int)), .vi ((0:Int)), .vi ((0:Int)), .vi ((0:Int)), .nil0, .vi ((0:Int)), .nil0, .vi ((0:Int)), .vi ((0:Int)), .nil0, .vi ((0:Int)), .val (.bool false)],176,[(0,1,false),(1,1,false),(2,1,false),(3,1,false),(4,1,false),(5,1,false),(6,1,false),(7,1,false),(8,2,true),(10,2,true),(12,1,false),(13,2,true),(15,1,false)],V.eHead⟩),
 (55,⟨.sl 26,false,[.nil0],24,[],(.cons (.sl (.cons (.sl (.cons (.sl V.eSigned) (.cons (.sl V.eEntry) .nil))) (ci .nil))) .nil)⟩),
 (65,⟨.sl 39,false,[.nil0],24,[],(.cons (.sl V.eAnswer) .nil)⟩),
 (91,⟨.sl 140,false,[.nil0],24,[],(.cons (.sl (ci (ci .nil))) .nil)⟩),
 (93,⟨.st,false,[.vi ((0:Int)), .vi ((0:Int)), .vi ((0:Int)), .vi ((0:Int)), .vi ((0:Int)), .vi ((0:Int)), .vi ((0:Int)), .vi ((0:Int)), .nil0, .vi ((0:Int)), .nil0, .vi ((0:Int)), .vi ((0:Int)), .nil0, .vi ((0:Int)), .val (.bool false), .nil0],200,[(0,16,true),(16,1,false)],V.eSigned⟩),
 (105,⟨.st,false,[.nil0, .vi ((0:Int)), .vi ((0:Int))],40,[(0,1,false),(1,1,false),(2,1,false)],(.cons (.sl (.cons (.int .u8) .nil)) (ci (ci .nil)))⟩),
 (140,⟨.st,true,[.vi ((0:Int)), .vi ((0:Int))],16,[(0,1,false),(1,1,false)],(ci (ci .nil))⟩),
 (195,⟨.sl 33,false,[.nil0],24,[],(.cons (.sl (.cons (.sl (ci .nil)) .nil)) .nil)⟩)]
theorem Z64 :tyAll prog tys=true:=by kernel_rfl
theorem mixed :prog.follows .mixedOrders=true:=by kernel_rfl
theorem cfl {α:Type}{a b c:α}(e:a=b)(h:a=c):b=c:=e.symm.trans h
theorem fo {g:Nat}{fn:Func}{con:Con}{tab:List (Nat×Con)}{heads:List (Nat×List Nat×Cv)}{pre:List (Nat×Nat)}{shallow:List Nat}{movs flts:List (Nat×List Nat)}(h:TabOk prog tab)(hf:prog.funcs[g]? =some fn)(hq:(!(fn.name== "runtime.NumGoroutine")&&(!fn.body.isNone&&conOk con fn.ntmps))=true)(hev:∀x y,con.f x=some y->evBody (mkE tys tab heads pre shallow movs flts) con fn x=some y):Valid prog g con:=by
 simp only[Bool.and_eq_true,Bool.not_eq_true']at hq
 exact body_ok (env_ok mixed Z64 h) hf hq.1 hq.2.1 hq.2.2 hev
theorem fo2 {g:Nat}{fn:Func}{con:Con}{tab tab2:List (Nat×Con)}{sites:List Nat}{heads:List (Nat×List Nat×Cv)}{pre:List (Nat×Nat)}{shallow:List Nat}{movs flts:List (Nat×List Nat)}(h:TabOk prog tab)(h2:TabOk prog tab2)(hf:prog.funcs[g]? =some fn)(hq:(!(fn.name== "runtime.NumGoroutine")&&(!fn.body.isNone&&conOk con fn.ntmps))=true)(hev:∀x y,con.f x=some y->evBody (mkE2 tys tab sites tab2 heads pre shallow movs flts) con fn x=some y):Valid prog g con:=by
 simp only[Bool.and_eq_true,Bool.not_eq_true']at hq
 exact body_ok (env_ok2 mixed Z64 h h2) hf hq.1 hq.2.1 hq.2.2 hev
abbrev QA.con :V.Con:=⟨(.cons (.sl (.cons (.int .u8) .nil)) .nil),(.cons .bool .nil),λ(x:List Int)=>QA x,[],[(false,1)],[(false,1)],[false],[]⟩
abbrev QA.E :Env:=V.mkE V.tys [] [] [] [] [] []
theorem QA.eq (x0:List Int):V.evBody QA.E QA.con f4 ((x0):List Int)=QA x0:=by kernel_rfl
theorem QA.ok :V.Valid prog 4 QA.con:=
 V.fo tab_nil func4 (by kernel_rfl) (λx y h=>(show V.evBody QA.E QA.con f4 x=_ from QA.eq x).trans (V.cfl (by kernel_rfl) h))
abbrev Zx.con :V.Con:=⟨(.cons (.sl (.cons (.int .u8) .nil)) .nil),(.cons (.ptr (.cons (.sl (.cons (.int .u8) .nil)) (ci (ci .nil)))) .nil),λ(x:List Int)=>Zx x,[],[(false,1)],[(false,1)],[true],[]⟩
abbrev Zx.E :Env:=V.mkE V.tys [] [(6,[0,3,4],[]),(11,[0,3,4],[])] [] [] [] []
abbrev Zx.kt (x0:List Int):Kt ((Z3)):=ktOf Zx.E Zx.con f24 ((x0):List Int)
abbrev Zx.s11 (x0:List Int)(aE:Int)(aA:Int):St:=⟨[(0, .v false [.val (.sl (.cons (.int .u8) .nil) x0)]),(3, .v false [.vi (aE)]),(4, .v false [.vi (aA)])],[]⟩
abbrev Zx.s6 (x0:List Int)(aE:Int)(aA:Int):St:=⟨[(0, .v false [.val (.sl (.cons (.int .u8) .nil) x0)]),(3, .v false [.vi (aE)]),(4, .v false [.vi (aA)])],[]⟩
theorem Zx.r11 (x0:List Int)(aE:Int)(aA:Int)(R6:St->Option ((Z3))):joinF Zx.E f24.ntmps [1,1,0,1,0,0] [R6] (codeOf f24) (Zx.kt x0) (Zx.s11 x0 aE aA)=Zx.g11 x0 aE aA (λaE aA=>R6 (Zx.s6 x0 aE aA)):=by kernel_rfl
theorem Zx.e11 (x0:List Int)(aE:Int)(aA:Int)(R6:St->Option ((Z3))):jn (joinF Zx.E f24.ntmps [1,1,0,1,0,0] [R6] (codeOf f24) (Zx.kt x0)) (Zx.s11 x0 aE aA)=Zx.l11 x0 aE aA (λaE aA=>R6 (Zx.s6 x0 aE aA)):=by
 rw[jn_eq,Zx.r11]
 rfl
theorem Zx.r6 (x0:List Int)(R:St->Option ((Z3)))(aE:Int)(aA:Int):loopF Zx.E f24.ntmps [1,1,0,1,0] [] (codeOf f24) (Zx.kt x0) R (Zx.s6 x0 aE aA)=Zx.g6 x0 (λaE aA=>R (Zx.s6 x0 aE aA)) (jn (joinF Zx.E f24.ntmps [1,1,0,1,0,0] [R] (codeOf f24) (Zx.kt x0)) (Zx.s11 x0 aE aA)) aE aA:=by kernel_rfl
theorem Zx.e6 (x0:List Int):∀(n:Nat) (aE:Int) (aA:Int),loopN (loopF Zx.E f24.ntmps [1,1,0,1,0] [] (codeOf f24) (Zx.kt x0)) n (Zx.s6 x0 aE aA)=Zx.l6 x0 n aE aA:=by
 intro n
 induction n with
 |zero=>intros;rw[loopN_z];rfl
 |succ n ih=>
  intro aE aA
  rw[loopN_s,Zx.r6]
  simp only[Zx.e11,ih]
  first|exact(Zx.u6 ..).symm|rfl
theorem Zx.v (x0:List Int):V.evBody Zx.E Zx.con f24 ((x0):List Int)=Zx.b x0 (λaE aA=>loopN (loopF Zx.E f24.ntmps [1,1,0,1,0] [] (codeOf f24) (Zx.kt x0)) V.KK (Zx.s6 x0 aE aA)):=by kernel_rfl
theorem Zx.eq (x0:List Int):V.evBody Zx.E Zx.con f24 ((x0):List Int)=Zx x0:=by
 rw[Zx.v]
 simp only[Zx.e6]
 rfl
theorem Zx.ok :V.Valid prog 24 Zx.con:=
 V.fo tab_nil func24 (by kernel_rfl) (λx y h=>(show V.evBody Zx.E Zx.con f24 x=_ from Zx.eq x).trans (V.cfl (by kernel_rfl) h))
abbrev Ul.con :V.Con:=⟨(.cons (.ptr (.cons (.sl (.cons (.int .u8) .nil)) (ci (ci .nil)))) .nil),(.cons (.ptr (.cons (.sl (.cons (.int .u8) .nil)) (ci (ci .nil)))) (ci .nil)),λ(x:(Z3))=>Ul x,[(0,false)],[(false,1)],[(false,1)],[false],[]⟩
abbrev Ul.E :Env:=V.mkE V.tys [] [] [(2,10),(3,9),(4,12)] [] [] []
theorem Ul.eq (x0:(Z3)):V.evBody Ul.E Ul.con f94 ((x0):(Z3))=Ul x0:=by kernel_rfl
theorem Ul.ok :V.Valid prog 94 Ul.con:=
 V.fo tab_nil func94 (by kernel_rfl) (λx y h=>(show V.evBody Ul.E Ul.con f94 x=_ from Ul.eq x).trans (V.cfl (by kernel_rfl) h))
abbrev Zd.con :V.Con:=⟨(.cons (.ptr (.cons (.sl (.cons (.int .u8) .nil)) (ci (ci .nil)))) (ci .nil)),(.cons (.ptr (.cons (.sl (.cons (.int .u8) .nil)) (ci (ci .nil)))) (ci .nil)),λ(x:(Z3)×Int)=>Zd x.1 x.2,[(0,false)],[(false,1),(false,1)],[(false,1)],[false],[]⟩
abbrev Zd.E :Env:=V.mkE V.tys [(94,Ul.con)] [] [] [] [] []
theorem Zd.eq (x0:(Z3))(x1:Int):V.evBody Zd.E Zd.con f53 ((x0,x1):(Z3)×Int)=Zd x0 x1:=by kernel_rfl
theorem Zd.ok :V.Valid prog 53 Zd.con:=
 V.fo (tab_cons Ul.ok tab_nil) func53 (by kernel_rfl) (λx y h=>(show V.evBody Zd.E Zd.con f53 x=_ from Zd.eq x.1 x.2).trans (V.cfl (by kernel_rfl) h))
abbrev ZI.con :V.Con:=⟨(.cons (.ptr (.cons (.sl (.cons (.int .u8) .nil)) (ci (ci .nil)))) .nil),(.cons (.ptr (.cons (.sl (.cons (.int .u8) .nil)) (ci (ci .nil)))) (.cons (.sl (ci .nil)) (ci .nil))),λ(x:(Z3))=>ZI x,[(0,false)],[(false,1)],[(true,2)],[true,false],[]⟩
abbrev ZI.E :Env:=V.mkE V.tys [(53,Zd.con)] [(10,[0,2,3,4,5,6],[(64000000000012292096,(ci .nil),true)])] [] [] [] []
abbrev ZI.kt (x0:(Z3)):Kt ((Z3)×List Int×Int):=ktOf ZI.E ZI.con f134 ((x0):(Z3))
abbrev ZI.s10 (x0:(Z3))(aS:Int)(aV:Int)(b8:Int)(cW:Int)(cX:Int)(cQ:List Int):St:=⟨[(0, .v false [.ptr 0 0]),(2, .v false [.ptr 64000 0]),(3, .v false [.vi (aS)]),(4, .v false [.ptr 192064 0]),(5, .v false [.vi (aV)]),(6, .v false [.vi (b8)])],[(0, .box [.val (.sl (.cons (.int .u8) .nil) x0.1), .vi (cW), .vi (cX)]),(64000, .box [.nil0, .vi ((0:Int))]),(192064, .box [.ref 64000000000012292096, .vi ((0:Int))]),(64000000000012292096, .row (ci .nil) true cQ)]⟩
theorem ZI.r10 (x0:(Z3))(R:St->Option ((Z3)×List Int×Int))(aS:Int)(aV:Int)(b8:Int)(cW:Int)(cX:Int)(cQ:List Int):loopF ZI.E f134.ntmps [1,1,1,1,0,1,0] [] (codeOf f134) (ZI.kt x0) R (ZI.s10 x0 aS aV b8 cW cX cQ)=ZI.g10 x0 (λaS aV b8 cW cX cQ=>R (ZI.s10 x0 aS aV b8 cW cX cQ)) aS aV b8 cW cX cQ:=by kernel_rfl
theorem ZI.e10 (x0:(Z3)):∀(n:Nat) (aS:Int) (aV:Int) (b8:Int) (cW:Int) (cX:Int) (cQ:List Int),loopN (loopF ZI.E f134.ntmps [1,1,1,1,0,1,0] [] (codeOf f134) (ZI.kt x0)) n (ZI.s10 x0 aS aV b8 cW cX cQ)=ZI.l10 x0 n aS aV b8 cW cX cQ:=by
 intro n
 induction n with
 |zero=>intros;rw[loopN_z];rfl
 |succ n ih=>
  intro aS aV b8 cW cX cQ
  rw[loopN_s,ZI.r10]
  simp only[ih]
  first|exact(ZI.u10 ..).symm|rfl
theorem ZI.v (x0:(Z3)):V.evBody ZI.E ZI.con f134 ((x0):(Z3))=ZI.b x0 (λaS aV b8 cW cX cQ=>loopN (loopF ZI.E f134.ntmps [1,1,1,1,0,1,0] [] (codeOf f134) (ZI.kt x0)) V.KK (ZI.s10 x0 aS aV b8 cW cX cQ)):=by kernel_rfl
theorem ZI.eq (x0:(Z3)):V.evBody ZI.E ZI.con f134 ((x0):(Z3))=ZI x0:=by
 rw[ZI.v]
 simp only[ZI.e10]
 rfl
theorem ZI.ok :V.Valid prog 134 ZI.con:=
 V.fo (tab_cons Zd.ok tab_nil) func134 (by kernel_rfl) (λx y h=>(show V.evBody ZI.E ZI.con f134 x=_ from ZI.eq x).trans (V.cfl (by kernel_rfl) h))
abbrev U3.con :V.Con:=⟨(.cons (.ptr (.cons (.sl (.cons (.int .u8) .nil)) (ci (ci .nil)))) (.cons (.sl (.cons .str .nil)) .nil)),(.cons (.ptr (.cons (.sl (.cons (.int .u8) .nil)) (ci (ci .nil)))) (.cons .str .nil)),λ(x:(Z3)×List ByteArray)=>U3 x.1 x.2,[(0,false)],[(false,1),(false,1)],[(false,1)],[false],[]⟩
abbrev U3.E :Env:=V.mkE V.tys [(53,Zd.con)] [] [] [] [] []
theorem U3.eq (x0:(Z3))(x1:List ByteArray):V.evBody U3.E U3.con f105 ((x0,x1):(Z3)×List ByteArray)=U3 x0 x1:=by kernel_rfl
theorem U3.ok :V.Valid prog 105 U3.con:=
 V.fo (tab_cons Zd.ok tab_nil) func105 (by kernel_rfl) (λx y h=>(show V.evBody U3.E U3.con f105 x=_ from U3.eq x.1 x.2).trans (V.cfl (by kernel_rfl) h))
abbrev WL.con :V.Con:=⟨(.cons (.ptr (.cons (.sl (.cons (.int .u8) .nil)) (ci (ci .nil)))) .nil),(.cons (.ptr (.cons (.sl (.cons (.int .u8) .nil)) (ci (ci .nil)))) (.cons .str .nil)),λ(x:(Z3))=>WL x,[(0,false)],[(false,1)],[(false,1)],[false],[]⟩
abbrev WL.E :Env:=V.mkE V.tys [(105,U3.con)] [] [] [] [] []
theorem WL.eq (x0:(Z3)):V.evBody WL.E WL.con f106 ((x0):(Z3))=WL x0:=by kernel_rfl
theorem WL.ok :V.Valid prog 106 WL.con:=
 V.fo (tab_cons U3.ok tab_nil) func106 (by kernel_rfl) (λx y h=>(show V.evBody WL.E WL.con f106 x=_ from WL.eq x).trans (V.cfl (by kernel_rfl) h))
abbrev QE.con :V.Con:=⟨(.cons .str (ci .nil)),V.eEntry,λ(x:ByteArray×Int)=>QE x.1 x.2,[],[(false,1),(false,1)],[(true,4)],[false,false,false,true],[]⟩
abbrev QE.E :Env:=V.mkE V.tys [] [] [] [] [] []
theorem QE.eq (x0:ByteArray)(x1:Int):V.evBody QE.E QE.con f174 ((x0,x1):ByteArray×Int)=QE x0 x1:=by kernel_rfl
theorem QE.ok :V.Valid prog 174 QE.con:=
 V.fo tab_nil func174 (by kernel_rfl) (λx y h=>(show V.evBody QE.E QE.con f174 x=_ from QE.eq x.1 x.2).trans (V.cfl (by kernel_rfl) h))
abbrev Yu.con :V.Con:=⟨(.cons (.ptr (.cons (.sl (.cons (.int .u8) .nil)) (ci (ci .nil)))) .nil),(.cons (.ptr (.cons (.sl (.cons (.int .u8) .nil)) (ci (ci .nil)))) (.cons (.sl (.cons .str .nil)) .nil)),λ(x:(Z3))=>Yu x,[(0,false)],[(false,1)],[(false,1)],[true],[]⟩
abbrev Yu.E :Env:=V.mkE V.tys [(53,Zd.con),(106,WL.con)] [(6,[0,3,4],[(64000038400192,(.cons .str .nil),true)])] [] [] [] []
abbrev Yu.kt (x0:(Z3)):Kt ((Z3)×List ByteArray):=ktOf Yu.E Yu.con f176 ((x0):(Z3))
abbrev Yu.s6 (x0:(Z3))(aH:Int)(aA:Int)(aD:Int)(aJ:List ByteArray):St:=⟨[(0, .v false [.ptr 0 0]),(3, .v false [.ref 64000038400192]),(4, .v false [.vi (aH)])],[(0, .box [.val (.sl (.cons (.int .u8) .nil) x0.1), .vi (aA), .vi (aD)]),(64000038400192, .row (.cons .str .nil) true aJ)]⟩
theorem Yu.r6 (x0:(Z3))(R:St->Option ((Z3)×List ByteArray))(aH:Int)(aA:Int)(aD:Int)(aJ:List ByteArray):loopF Yu.E f176.ntmps [1,1,0,1,0] [] (codeOf f176) (Yu.kt x0) R (Yu.s6 x0 aH aA aD aJ)=Yu.g6 x0 (λaH aA aD aJ=>R (Yu.s6 x0 aH aA aD aJ)) aH aA aD aJ:=by kernel_rfl
theorem Yu.e6 (x0:(Z3)):∀(n:Nat) (aH:Int) (aA:Int) (aD:Int) (aJ:List ByteArray),loopN (loopF Yu.E f176.ntmps [1,1,0,1,0] [] (codeOf f176) (Yu.kt x0)) n (Yu.s6 x0 aH aA aD aJ)=Yu.l6 x0 n aH aA aD aJ:=by
 intro n
 induction n with
 |zero=>intros;rw[loopN_z];rfl
 |succ n ih=>
  intro aH aA aD aJ
  rw[loopN_s,Yu.r6]
  simp only[ih]
  first|exact(Yu.u6 ..).symm|rfl
theorem Yu.v (x0:(Z3)):V.evBody Yu.E Yu.con f176 ((x0):(Z3))=Yu.b x0 (λaH aA aD aJ=>loopN (loopF Yu.E f176.ntmps [1,1,0,1,0] [] (codeOf f176) (Yu.kt x0)) V.KK (Yu.s6 x0 aH aA aD aJ)):=by kernel_rfl
theorem Yu.eq (x0:(Z3)):V.evBody Yu.E Yu.con f176 ((x0):(Z3))=Yu x0:=by
 rw[Yu.v]
 simp only[Yu.e6]
 rfl
theorem Yu.ok :V.Valid prog 176 Yu.con:=
 V.fo (tab_cons Zd.ok (tab_cons WL.ok tab_nil)) func176 (by kernel_rfl) (λx y h=>(show V.evBody Yu.E Yu.con f176 x=_ from Yu.eq x).trans (V.cfl (by kernel_rfl) h))
abbrev Um.con :V.Con:=⟨(.cons (.sl (.cons .str .nil)) .nil),(.cons (.sl (.cons .str .nil)) .nil),λ(x:List ByteArray)=>Um x,[],[(false,1)],[(false,1)],[true],[]⟩
abbrev Um.E :Env:=V.mkE V.tys [] [] [] [] [] []
theorem Um.eq (x0:List ByteArray):V.evBody Um.E Um.con f82 ((x0):List ByteArray)=Um x0:=by kernel_rfl
theorem Um.ok :V.Valid prog 82 Um.con:=
 V.fo tab_nil func82 (by kernel_rfl) (λx y h=>(show V.evBody Um.E Um.con f82 x=_ from Um.eq x).trans (V.cfl (by kernel_rfl) h))
abbrev QD.con :V.Con:=⟨(.cons .str (ci (.cons (.sl (.cons .str .nil)) .nil))),V.eEntry,λ(x:ByteArray×Int×List ByteArray)=>QD x.1 x.2.1 x.2.2,[],[(false,1),(false,1),(false,1)],[(true,4)],[false,false,false,true],[]⟩
abbrev QD.E :Env:=V.mkE V.tys [(82,Um.con)] [] [] [] [] []
theorem QD.eq (x0:ByteArray)(x1:Int)(x2:List ByteArray):V.evBody QD.E QD.con f175 ((x0,x1,x2):ByteArray×Int×List ByteArray)=QD x0 x1 x2:=by kernel_rfl
theorem QD.ok :V.Valid prog 175 QD.con:=
 V.fo (tab_cons Um.ok tab_nil) func175 (by kernel_rfl) (λx y h=>(show V.evBody QD.E QD.con f175 x=_ from QD.eq x.1 x.2.1 x.2.2).trans (V.cfl (by kernel_rfl) h))
abbrev UK.con :V.Con:=⟨(.cons .str (ci .nil)),V.eEntry,λ(x:ByteArray×Int)=>UK x.1 x.2,[],[(false,1),(false,1)],[(true,4)],[false,false,false,true],[]⟩
abbrev UK.E :Env:=V.mkE V.tys [] [] [] [] [] []
theorem UK.eq (x0:ByteArray)(x1:Int):V.evBody UK.E UK.con f144 ((x0,x1):ByteArray×Int)=UK x0 x1:=by kernel_rfl
theorem UK.ok :V.Valid prog 144 UK.con:=
 V.fo tab_nil func144 (by kernel_rfl) (λx y h=>(show V.evBody UK.E UK.con f144 x=_ from UK.eq x.1 x.2).trans (V.cfl (by kernel_rfl) h))
abbrev Un.con :V.Con:=⟨(.cons (.ptr (.cons (.sl (.cons (.int .u8) .nil)) (ci (ci .nil)))) .nil),(.cons (.ptr (.cons (.sl (.cons (.int .u8) .nil)) (ci (ci .nil)))) (.cons .str (ci (ci (.cons (.sl (.cons .str .nil)) .nil))))),λ(x:(Z3))=>Un x,[(0,false)],[(false,1)],[(true,4)],[false,false,false,true],[]⟩
abbrev Un.E :Env:=V.mkE V.tys [(53,Zd.con),(106,WL.con),(144,UK.con),(174,QE.con),(175,QD.con),(176,Yu.con)] [] [] [] [] []
theorem Un.eq (x0:(Z3)):V.evBody Un.E Un.con f137 ((x0):(Z3))=Un x0:=by kernel_rfl
theorem Un.ok :V.Valid prog 137 Un.con:=
 V.fo (tab_cons Zd.ok (tab_cons WL.ok (tab_cons UK.ok (tab_cons QE.ok (tab_cons QD.ok (tab_cons Yu.ok tab_nil)))))) func137 (by kernel_rfl) (λx y h=>(show V.evBody Un.E Un.con f137 x=_ from Un.eq x).trans (V.cfl (by kernel_rfl) h))
abbrev WE.con :V.Con:=⟨(.cons .str (.cons .str .nil)),(ci .nil),λ(x:ByteArray×ByteArray)=>WE x.1 x.2,[],[(false,1),(false,1)],[(false,1)],[false],[]⟩
abbrev WE.E :Env:=V.mkE V.tys [] [] [] [] [] []
theorem WE.eq (x0:ByteArray)(x1:ByteArray):V.evBody WE.E WE.con f123 ((x0,x1):ByteArray×ByteArray)=WE x0 x1:=by kernel_rfl
theorem WE.ok :V.Valid prog 123 WE.con:=
 V.fo tab_nil func123 (by kernel_rfl) (λx y h=>(show V.evBody WE.E WE.con f123 x=_ from WE.eq x.1 x.2).trans (V.cfl (by kernel_rfl) h))
abbrev W8.con :V.Con:=⟨V.eEntry,V.eEntry,λ(x:ByteArray×Int×Int×List ByteArray)=>W8 x,[],[(true,4)],[(true,4)],[false,false,false,true],[]⟩
abbrev W8.E :Env:=V.mkE V.tys [(82,Um.con)] [] [(1,9)] [] [] []
theorem W8.eq (x0:Z0):V.evBody W8.E W8.con f45 ((x0.1,x0.2.1,x0.2.2.1,x0.2.2.2):ByteArray×Int×Int×List ByteArray)=W8 x0:=by kernel_rfl
theorem W8.ok :V.Valid prog 45 W8.con:=
 V.fo (tab_cons Um.ok tab_nil) func45 (by kernel_rfl) (λx y h=>(show V.evBody W8.E W8.con f45 x=_ from W8.eq x).trans (V.cfl (by kernel_rfl) h))
abbrev Y3.con :V.Con:=⟨(ci (ci (ci .nil))),(.cons .bool .nil),λ(x:Int×Int×Int)=>Y3 x.1 x.2.1 x.2.2,[],[(false,1),(false,1),(false,1)],[(false,1)],[false],[]⟩
abbrev Y3.E :Env:=V.mkE V.tys [] [] [] [] [] []
theorem Y3.eq (x0:Int)(x1:Int)(x2:Int):V.evBody Y3.E Y3.con f38 ((x0,x1,x2):Int×Int×Int)=Y3 x0 x1 x2:=by kernel_rfl
theorem Y3.ok :V.Valid prog 38 Y3.con:=
 V.fo tab_nil func38 (by kernel_rfl) (λx y h=>(show V.evBody Y3.E Y3.con f38 x=_ from Y3.eq x.1 x.2.1 x.2.2).trans (V.cfl (by kernel_rfl) h))
abbrev Zv.con :V.Con:=⟨(.cons .str .nil),(.cons .bool .nil),λ(x:ByteArray)=>Zv x,[],[(false,1)],[(false,1)],[false],[]⟩
abbrev Zv.E :Env:=V.mkE V.tys [(38,Y3.con)] [(7,[0],[]),(8,[0,3],[])] [] [] [] []
abbrev Zv.kt (x0:ByteArray):Kt Bool:=ktOf Zv.E Zv.con f42 ((x0):ByteArray)
abbrev Zv.s8 (x0:ByteArray)(aO:Int):St:=⟨[(0, .v false [.val (.str x0)]),(3, .v false [.vi (aO)])],[]⟩
abbrev Zv.s7 (x0:ByteArray):St:=⟨[(0, .v false [.val (.str x0)])],[]⟩
theorem Zv.r8 (x0:ByteArray)(R:St->Option Bool)(aO:Int):loopF Zv.E f42.ntmps [1,1,0,1,0] [] (codeOf f42) (Zv.kt x0) R (Zv.s8 x0 aO)=Zv.g8 x0 (λaO=>R (Zv.s8 x0 aO)) aO:=by kernel_rfl
theorem Zv.e8 (x0:ByteArray):∀(n:Nat) (aO:Int),loopN (loopF Zv.E f42.ntmps [1,1,0,1,0] [] (codeOf f42) (Zv.kt x0)) n (Zv.s8 x0 aO)=Zv.l8 x0 n aO:=by
 intro n
 induction n with
 |zero=>intros;rw[loopN_z];rfl
 |succ n ih=>
  intro aO
  rw[loopN_s,Zv.r8]
  simp only[ih]
  first|exact(Zv.u8 ..).symm|rfl
theorem Zv.r7 (x0:ByteArray):joinF Zv.E f42.ntmps [1] [] (codeOf f42) (Zv.kt x0) (Zv.s7 x0)=Zv.g7 x0 (λaO=>loopN (loopF Zv.E f42.ntmps [1,1,0,1,0] [] (codeOf f42) (Zv.kt x0)) V.KK (Zv.s8 x0 aO)):=by kernel_rfl
theorem Zv.e7 (x0:ByteArray):jn (joinF Zv.E f42.ntmps [1] [] (codeOf f42) (Zv.kt x0)) (Zv.s7 x0)=Zv.l7 x0:=by
 rw[jn_eq,Zv.r7]
 simp only[Zv.e8]
 rfl
theorem Zv.v (x0:ByteArray):V.evBody Zv.E Zv.con f42 ((x0):ByteArray)=Zv.b x0 (jn (joinF Zv.E f42.ntmps [1] [] (codeOf f42) (Zv.kt x0)) (Zv.s7 x0)):=by kernel_rfl
theorem Zv.eq (x0:ByteArray):V.evBody Zv.E Zv.con f42 ((x0):ByteArray)=Zv x0:=by
 rw[Zv.v]
 simp only[Zv.e7]
 rfl
theorem Zv.ok :V.Valid prog 42 Zv.con:=
 V.fo (tab_cons Y3.ok tab_nil) func42 (by kernel_rfl) (λx y h=>(show V.evBody Zv.E Zv.con f42 x=_ from Zv.eq x).trans (V.cfl (by kernel_rfl) h))
abbrev Yz.con :V.Con:=⟨(.cons (.sl (.cons .str .nil)) .nil),(.cons .bool .nil),λ(x:List ByteArray)=>Yz x,[],[(false,1)],[(false,1)],[false],[]⟩
abbrev Yz.E :Env:=V.mkE V.tys [(38,Y3.con),(42,Zv.con)] [(4,[0,3],[])] [] [] [] []
abbrev Yz.kt (x0:List ByteArray):Kt Bool:=ktOf Yz.E Yz.con f159 ((x0):List ByteArray)
abbrev Yz.s4 (x0:List ByteArray)(aI:Int):St:=⟨[(0, .v false [.val (.sl (.cons .str .nil) x0)]),(3, .v false [.vi (aI)])],[]⟩
theorem Yz.r4 (x0:List ByteArray)(R:St->Option Bool)(aI:Int):loopF Yz.E f159.ntmps [1,0,1,0] [] (codeOf f159) (Yz.kt x0) R (Yz.s4 x0 aI)=Yz.g4 x0 (λaI=>R (Yz.s4 x0 aI)) aI:=by kernel_rfl
theorem Yz.e4 (x0:List ByteArray):∀(n:Nat) (aI:Int),loopN (loopF Yz.E f159.ntmps [1,0,1,0] [] (codeOf f159) (Yz.kt x0)) n (Yz.s4 x0 aI)=Yz.l4 x0 n aI:=by
 intro n
 induction n with
 |zero=>intros;rw[loopN_z];rfl
 |succ n ih=>
  intro aI
  rw[loopN_s,Yz.r4]
  simp only[ih]
  first|exact(Yz.u4 ..).symm|rfl
theorem Yz.v (x0:List ByteArray):V.evBody Yz.E Yz.con f159 ((x0):List ByteArray)=Yz.b x0 (λaI=>loopN (loopF Yz.E f159.ntmps [1,0,1,0] [] (codeOf f159) (Yz.kt x0)) V.KK (Yz.s4 x0 aI)):=by kernel_rfl
theorem Yz.eq (x0:List ByteArray):V.evBody Yz.E Yz.con f159 ((x0):List ByteArray)=Yz x0:=by
 rw[Yz.v]
 simp only[Yz.e4]
 rfl
theorem Yz.ok :V.Valid prog 159 Yz.con:=
 V.fo (tab_cons Y3.ok (tab_cons Zv.ok tab_nil)) func159 (by kernel_rfl) (λx y h=>(show V.evBody Yz.E Yz.con f159 x=_ from Yz.eq x).trans (V.cfl (by kernel_rfl) h))
abbrev Qc.con :V.Con:=⟨V.eEntry,(.cons .bool .nil),λ(x:ByteArray×Int×Int×List ByteArray)=>Qc x,[],[(true,4)],[(false,1)],[false],[]⟩
abbrev Qc.E :Env:=V.mkE V.tys [(38,Y3.con),(42,Zv.con),(159,Yz.con)] [] [] [] [] []
theorem Qc.eq (x0:Z0):V.evBody Qc.E Qc.con f122 ((x0.1,x0.2.1,x0.2.2.1,x0.2.2.2):ByteArray×Int×Int×List ByteArray)=Qc x0:=by kernel_rfl
theorem Qc.ok :V.Valid prog 122 Qc.con:=
 V.fo (tab_cons Y3.ok (tab_cons Zv.ok (tab_cons Yz.ok tab_nil))) func122 (by kernel_rfl) (λx y h=>(show V.evBody Qc.E Qc.con f122 x=_ from Qc.eq x).trans (V.cfl (by kernel_rfl) h))
abbrev ZO.con :V.Con:=⟨(.cons (.sl V.eEntry) .nil),(.cons .bool .nil),λ(x:List Z0)=>ZO x,[],[(false,1)],[(false,1)],[false],[]⟩
abbrev ZO.E :Env:=V.mkE V.tys [(122,Qc.con),(123,WE.con)] [(4,[0,3],[])] [(4,21)] [] [] []
abbrev ZO.kt (x0:List Z0):Kt Bool:=ktOf ZO.E ZO.con f85 ((x0):List Z0)
abbrev ZO.s4 (x0:List Z0)(aI:Int):St:=⟨[(0, .v false [.val (.sl V.eEntry x0)]),(3, .v false [.vi (aI)])],[]⟩
theorem ZO.r4 (x0:List Z0)(R:St->Option Bool)(aI:Int):loopF ZO.E f85.ntmps [1,0,1,0] [] (codeOf f85) (ZO.kt x0) R (ZO.s4 x0 aI)=ZO.g4 x0 (λaI=>R (ZO.s4 x0 aI)) aI:=by kernel_rfl
theorem ZO.e4 (x0:List Z0):∀(n:Nat) (aI:Int),loopN (loopF ZO.E f85.ntmps [1,0,1,0] [] (codeOf f85) (ZO.kt x0)) n (ZO.s4 x0 aI)=ZO.l4 x0 n aI:=by
 intro n
 induction n with
 |zero=>intros;rw[loopN_z];rfl
 |succ n ih=>
  intro aI
  rw[loopN_s,ZO.r4]
  simp only[ih]
  first|exact(ZO.u4 ..).symm|rfl
theorem ZO.v (x0:List Z0):V.evBody ZO.E ZO.con f85 ((x0):List Z0)=ZO.b x0 (λaI=>loopN (loopF ZO.E f85.ntmps [1,0,1,0] [] (codeOf f85) (ZO.kt x0)) V.KK (ZO.s4 x0 aI)):=by kernel_rfl
theorem ZO.eq (x0:List Z0):V.evBody ZO.E ZO.con f85 ((x0):List Z0)=ZO x0:=by
 rw[ZO.v]
 simp only[ZO.e4]
 rfl
theorem ZO.ok :V.Valid prog 85 ZO.con:=
 V.fo (tab_cons Qc.ok (tab_cons WE.ok tab_nil)) func85 (by kernel_rfl) (λx y h=>(show V.evBody ZO.E ZO.con f85 x=_ from ZO.eq x).trans (V.cfl (by kernel_rfl) h))
abbrev Y7.con :V.Con:=⟨(.cons (.sl V.eEntry) .nil),(.cons (.sl V.eEntry) .nil),λ(x:List Z0)=>Y7 x,[],[(false,1)],[(false,1)],[true],[]⟩
abbrev Y7.E :Env:=V.mkE V.tys [(45,W8.con)] [(6,[0,3,4],[(64000038400192,V.eEntry,true)])] [] [] [] []
abbrev Y7.kt (x0:List Z0):Kt (List Z0):=ktOf Y7.E Y7.con f103 ((x0):List Z0)
abbrev Y7.s6 (x0:List Z0)(aE:Int)(aA:List Z0):St:=⟨[(0, .v false [.val (.sl V.eEntry x0)]),(3, .v false [.ref 64000038400192]),(4, .v false [.vi (aE)])],[(64000038400192, .row V.eEntry true aA)]⟩
theorem Y7.r6 (x0:List Z0)(R:St->Option (List Z0))(aE:Int)(aA:List Z0):loopF Y7.E f103.ntmps [1,1,0,1,0] [] (codeOf f103) (Y7.kt x0) R (Y7.s6 x0 aE aA)=Y7.g6 x0 (λaE aA=>R (Y7.s6 x0 aE aA)) aE aA:=by kernel_rfl
theorem Y7.e6 (x0:List Z0):∀(n:Nat) (aE:Int) (aA:List Z0),loopN (loopF Y7.E f103.ntmps [1,1,0,1,0] [] (codeOf f103) (Y7.kt x0)) n (Y7.s6 x0 aE aA)=Y7.l6 x0 n aE aA:=by
 intro n
 induction n with
 |zero=>intros;rw[loopN_z];rfl
 |succ n ih=>
  intro aE aA
  rw[loopN_s,Y7.r6]
  simp only[ih]
  first|exact(Y7.u6 ..).symm|rfl
theorem Y7.v (x0:List Z0):V.evBody Y7.E Y7.con f103 ((x0):List Z0)=Y7.b x0 (λaE aA=>loopN (loopF Y7.E f103.ntmps [1,1,0,1,0] [] (codeOf f103) (Y7.kt x0)) V.KK (Y7.s6 x0 aE aA)):=by kernel_rfl
theorem Y7.eq (x0:List Z0):V.evBody Y7.E Y7.con f103 ((x0):List Z0)=Y7 x0:=by
 rw[Y7.v]
 simp only[Y7.e6]
 rfl
theorem Y7.ok :V.Valid prog 103 Y7.con:=
 V.fo (tab_cons W8.ok tab_nil) func103 (by kernel_rfl) (λx y h=>(show V.evBody Y7.E Y7.con f103 x=_ from Y7.eq x).trans (V.cfl (by kernel_rfl) h))
abbrev Zj.con :V.Con:=⟨(.cons (.sl V.eEntry) (.cons .str (ci (ci (.cons (.sl (.cons .str .nil)) .nil))))),(.cons (.sl V.eEntry) (.cons .bool .nil)),λ(x:List Z0×ByteArray×Int×Int×List ByteArray)=>Zj x.1 x.2,[],[(false,1),(true,4)],[(false,1),(false,1)],[true,false],[]⟩
abbrev Zj.E :Env:=V.mkE V.tys [(45,W8.con),(85,ZO.con),(103,Y7.con),(123,WE.con)] [(8,[0,3,6,7,8],[(64000051200384,V.eEntry,true)]),(17,[0,3,6,7,8,9,30],[]),(21,[0,3,6,7,8,9],[]),(29,[0,6],[]),(31,[0,6,60],[])] [(6,7)] [] [] []
abbrev Zj.kt (x0:List Z0)(x1:Z0):Kt (List Z0×Bool):=ktOf Zj.E Zj.con f136 ((x0,x1.1,x1.2.1,x1.2.2.1,x1.2.2.2):List Z0×ByteArray×Int×Int×List ByteArray)
abbrev Zj.s21 (x0:List Z0)(x1:Z0)(aG:Int)(y1:Int)(eJ:Bool)(dP:List Z0):St:=⟨[(0, .v false [.val (.sl V.eEntry x0)]),(3, .v false [.ptr 64000 0]),(6, .v false [.ref 64000134400384]),(7, .v false [.val (.bool eJ)]),(8, .v false [.vi (aG)]),(9, .v false [.vi (y1)])],[(64000, .box [.val (.str x1.1), .vi (x1.2.1), .vi (x1.2.2.1), .val (.sl (.cons .str .nil) x1.2.2.2)]),(64000134400384, .row V.eEntry true dP)]⟩
abbrev Zj.s17 (x0:List Z0)(x1:Z0)(aO:Bool)(aG:Int)(b9:List Z0)(y1:Int)(eU:Bool):St:=⟨[(0, .v false [.val (.sl V.eEntry x0)]),(3, .v false [.ptr 64000 0]),(6, .v false [.ref 64000108800384]),(7, .v false [.val (.bool aO)]),(8, .v false [.vi (aG)]),(9, .v false [.vi (y1)]),(30, .v false [.val (.bool eU)])],[(64000, .box [.val (.str x1.1), .vi (x1.2.1), .vi (x1.2.2.1), .val (.sl (.cons .str .nil) x1.2.2.2)]),(64000108800384, .row V.eEntry true b9)]⟩
abbrev Zj.s31 (x0:List Z0)(cC:List Z0)(fC:Bool):St:=⟨[(0, .v false [.val (.sl V.eEntry x0)]),(6, .v false [.ref 64000198400384]),(60, .v false [.val (.bool fC)])],[(64000198400384, .row V.eEntry true cC)]⟩
abbrev Zj.s29 (x0:List Z0)(cC:List Z0):St:=⟨[(0, .v false [.val (.sl V.eEntry x0)]),(6, .v false [.ref 64000185600384])],[(64000185600384, .row V.eEntry true cC)]⟩
abbrev Zj.s8 (x0:List Z0)(x1:Z0)(aO:Bool)(aG:Int)(b9:List Z0):St:=⟨[(0, .v false [.val (.sl V.eEntry x0)]),(3, .v false [.ptr 64000 0]),(6, .v false [.ref 64000051200384]),(7, .v false [.val (.bool aO)]),(8, .v false [.vi (aG)])],[(64000, .box [.val (.str x1.1), .vi (x1.2.1), .vi (x1.2.2.1), .val (.sl (.cons .str .nil) x1.2.2.2)]),(64000051200384, .row V.eEntry true b9)]⟩
theorem Zj.r21 (x0:List Z0)(x1:Z0)(aG:Int)(y1:Int)(R8:St->Option (List Z0×Bool))(eJ:Bool)(dP:List Z0):joinF Zj.E f136.ntmps [1,1,1,0,1,0,0,1,0,0,1] [R8] (codeOf f136) (Zj.kt x0 x1) (Zj.s21 x0 x1 aG y1 eJ dP)=Zj.g21 x0 x1 aG y1 (λaO aG b9=>R8 (Zj.s8 x0 x1 aO aG b9)) eJ dP:=by kernel_rfl
theorem Zj.e21 (x0:List Z0)(x1:Z0)(aG:Int)(y1:Int)(R8:St->Option (List Z0×Bool))(eJ:Bool)(dP:List Z0):jn (joinF Zj.E f136.ntmps [1,1,1,0,1,0,0,1,0,0,1] [R8] (codeOf f136) (Zj.kt x0 x1)) (Zj.s21 x0 x1 aG y1 eJ dP)=Zj.l21 x0 x1 aG y1 (λaO aG b9=>R8 (Zj.s8 x0 x1 aO aG b9)) eJ dP:=by
 rw[jn_eq,Zj.r21]
 rfl
theorem Zj.r17 (x0:List Z0)(x1:Z0)(aO:Bool)(aG:Int)(b9:List Z0)(y1:Int)(R8:St->Option (List Z0×Bool))(eU:Bool):joinF Zj.E f136.ntmps [1,1,1,0,1,0,0,1,0,0,1,0] [R8] (codeOf f136) (Zj.kt x0 x1) (Zj.s17 x0 x1 aO aG b9 y1 eU)=Zj.g17 x0 x1 aO aG b9 y1 (λaO aG b9=>R8 (Zj.s8 x0 x1 aO aG b9)) (λy1 eJ dP=>jn (joinF Zj.E f136.ntmps [1,1,1,0,1,0,0,1,0,0,1] [R8] (codeOf f136) (Zj.kt x0 x1)) (Zj.s21 x0 x1 aG y1 eJ dP)) eU:=by kernel_rfl
theorem Zj.e17 (x0:List Z0)(x1:Z0)(aO:Bool)(aG:Int)(b9:List Z0)(y1:Int)(R8:St->Option (List Z0×Bool))(eU:Bool):jn (joinF Zj.E f136.ntmps [1,1,1,0,1,0,0,1,0,0,1,0] [R8] (codeOf f136) (Zj.kt x0 x1)) (Zj.s17 x0 x1 aO aG b9 y1 eU)=Zj.l17 x0 x1 aO aG b9 y1 (λaO aG b9=>R8 (Zj.s8 x0 x1 aO aG b9)) eU:=by
 rw[jn_eq,Zj.r17]
 simp only[Zj.e21]
 rfl
theorem Zj.r31 (x0:List Z0)(x1:Z0)(cC:List Z0)(fC:Bool):joinF Zj.E f136.ntmps [1,1,1,1,1,0] [] (codeOf f136) (Zj.kt x0 x1) (Zj.s31 x0 cC fC)=Zj.g31 x0 cC fC:=by kernel_rfl
theorem Zj.e31 (x0:List Z0)(x1:Z0)(cC:List Z0)(fC:Bool):jn (joinF Zj.E f136.ntmps [1,1,1,1,1,0] [] (codeOf f136) (Zj.kt x0 x1)) (Zj.s31 x0 cC fC)=Zj.l31 x0 cC fC:=by
 rw[jn_eq,Zj.r31]
 rfl
theorem Zj.r29 (x0:List Z0)(x1:Z0)(cC:List Z0):joinF Zj.E f136.ntmps [1,1,1,1] [] (codeOf f136) (Zj.kt x0 x1) (Zj.s29 x0 cC)=Zj.g29 x0 (λfC=>jn (joinF Zj.E f136.ntmps [1,1,1,1,1,0] [] (codeOf f136) (Zj.kt x0 x1)) (Zj.s31 x0 cC fC)) cC:=by kernel_rfl
theorem Zj.e29 (x0:List Z0)(x1:Z0)(cC:List Z0):jn (joinF Zj.E f136.ntmps [1,1,1,1] [] (codeOf f136) (Zj.kt x0 x1)) (Zj.s29 x0 cC)=Zj.l29 x0 cC:=by
 rw[jn_eq,Zj.r29]
 simp only[Zj.e31]
 rfl
theorem Zj.r8 (x0:List Z0)(x1:Z0)(R:St->Option (List Z0×Bool))(aO:Bool)(aG:Int)(b9:List Z0):loopF Zj.E f136.ntmps [1,1,1,0,1,0] [] (codeOf f136) (Zj.kt x0 x1) R (Zj.s8 x0 x1 aO aG b9)=Zj.g8 x0 x1 (λaO aG b9=>R (Zj.s8 x0 x1 aO aG b9)) (λy1 eU=>jn (joinF Zj.E f136.ntmps [1,1,1,0,1,0,0,1,0,0,1,0] [R] (codeOf f136) (Zj.kt x0 x1)) (Zj.s17 x0 x1 aO aG b9 y1 eU)) (λcC=>jn (joinF Zj.E f136.ntmps [1,1,1,1] [] (codeOf f136) (Zj.kt x0 x1)) (Zj.s29 x0 cC)) aO aG b9:=by kernel_rfl
theorem Zj.e8 (x0:List Z0)(x1:Z0):∀(n:Nat) (aO:Bool) (aG:Int) (b9:List Z0),loopN (loopF Zj.E f136.ntmps [1,1,1,0,1,0] [] (codeOf f136) (Zj.kt x0 x1)) n (Zj.s8 x0 x1 aO aG b9)=Zj.l8 x0 x1 n aO aG b9:=by
 intro n
 induction n with
 |zero=>intros;rw[loopN_z];rfl
 |succ n ih=>
  intro aO aG b9
  rw[loopN_s,Zj.r8]
  simp only[Zj.e17,Zj.e29,ih]
  first|exact(Zj.u8 ..).symm|rfl
theorem Zj.v (x0:List Z0)(x1:Z0):V.evBody Zj.E Zj.con f136 ((x0,x1.1,x1.2.1,x1.2.2.1,x1.2.2.2):List Z0×ByteArray×Int×Int×List ByteArray)=Zj.b x0 x1 (λaO aG b9=>loopN (loopF Zj.E f136.ntmps [1,1,1,0,1,0] [] (codeOf f136) (Zj.kt x0 x1)) V.KK (Zj.s8 x0 x1 aO aG b9)):=by kernel_rfl
theorem Zj.eq (x0:List Z0)(x1:Z0):V.evBody Zj.E Zj.con f136 ((x0,x1.1,x1.2.1,x1.2.2.1,x1.2.2.2):List Z0×ByteArray×Int×Int×List ByteArray)=Zj x0 x1:=by
 rw[Zj.v]
 simp only[Zj.e8]
 rfl
theorem Zj.ok :V.Valid prog 136 Zj.con:=
 V.fo (tab_cons W8.ok (tab_cons ZO.ok (tab_cons Y7.ok (tab_cons WE.ok tab_nil)))) func136 (by kernel_rfl) (λx y h=>(show V.evBody Zj.E Zj.con f136 x=_ from Zj.eq x.1 x.2).trans (V.cfl (by kernel_rfl) h))
abbrev ZG.con :V.Con:=⟨(.cons (.ptr (.cons (.sl (.cons (.int .u8) .nil)) (ci (ci .nil)))) .nil),(.cons (.ptr (.cons (.sl (.cons (.int .u8) .nil)) (ci (ci .nil)))) (.cons (.sl V.eEntry) .nil)),λ(x:(Z3))=>ZG x,[(0,false)],[(false,1)],[(false,1)],[true],[]⟩
abbrev ZG.E :Env:=V.mkE V.tys [(53,Zd.con),(136,Zj.con),(137,Un.con)] [(6,[0,3,4],[(64000038400192,V.eEntry,true)])] [] [] [] []
abbrev ZG.kt (x0:(Z3)):Kt ((Z3)×List Z0):=ktOf ZG.E ZG.con f96 ((x0):(Z3))
abbrev ZG.s6 (x0:(Z3))(aH:Int)(aA:Int)(aD:Int)(aJ:List Z0):St:=⟨[(0, .v false [.ptr 0 0]),(3, .v false [.ref 64000038400192]),(4, .v false [.vi (aH)])],[(0, .box [.val (.sl (.cons (.int .u8) .nil) x0.1), .vi (aA), .vi (aD)]),(64000038400192, .row V.eEntry true aJ)]⟩
theorem ZG.r6 (x0:(Z3))(R:St->Option ((Z3)×List Z0))(aH:Int)(aA:Int)(aD:Int)(aJ:List Z0):loopF ZG.E f96.ntmps [1,1,0,1,0] [] (codeOf f96) (ZG.kt x0) R (ZG.s6 x0 aH aA aD aJ)=ZG.g6 x0 (λaH aA aD aJ=>R (ZG.s6 x0 aH aA aD aJ)) aH aA aD aJ:=by kernel_rfl
theorem ZG.e6 (x0:(Z3)):∀(n:Nat) (aH:Int) (aA:Int) (aD:Int) (aJ:List Z0),loopN (loopF ZG.E f96.ntmps [1,1,0,1,0] [] (codeOf f96) (ZG.kt x0)) n (ZG.s6 x0 aH aA aD aJ)=ZG.l6 x0 n aH aA aD aJ:=by
 intro n
 induction n with
 |zero=>intros;rw[loopN_z];rfl
 |succ n ih=>
  intro aH aA aD aJ
  rw[loopN_s,ZG.r6]
  simp only[ih]
  first|exact(ZG.u6 ..).symm|rfl
theorem ZG.v (x0:(Z3)):V.evBody ZG.E ZG.con f96 ((x0):(Z3))=ZG.b x0 (λaH aA aD aJ=>loopN (loopF ZG.E f96.ntmps [1,1,0,1,0] [] (codeOf f96) (ZG.kt x0)) V.KK (ZG.s6 x0 aH aA aD aJ)):=by kernel_rfl
theorem ZG.eq (x0:(Z3)):V.evBody ZG.E ZG.con f96 ((x0):(Z3))=ZG x0:=by
 rw[ZG.v]
 simp only[ZG.e6]
 rfl
theorem ZG.ok :V.Valid prog 96 ZG.con:=
 V.fo (tab_cons Zd.ok (tab_cons Zj.ok (tab_cons Un.ok tab_nil))) func96 (by kernel_rfl) (λx y h=>(show V.evBody ZG.E ZG.con f96 x=_ from ZG.eq x).trans (V.cfl (by kernel_rfl) h))
abbrev Ww.con :V.Con:=⟨(.cons (.sl (ci .nil)) (ci .nil)),(.cons (.sl (ci .nil)) .nil),λ(x:List Int×Int)=>Ww x,[],[(true,2)],[(false,1)],[true],[]⟩
abbrev Ww.E :Env:=V.mkE V.tys [] [] [] [] [] []
theorem Ww.eq (x0:Zc):V.evBody Ww.E Ww.con f193 ((x0.1,x0.2):List Int×Int)=Ww x0:=by kernel_rfl
theorem Ww.ok :V.Valid prog 193 Ww.con:=
 V.fo tab_nil func193 (by kernel_rfl) (λx y h=>(show V.evBody Ww.E Ww.con f193 x=_ from Ww.eq x).trans (V.cfl (by kernel_rfl) h))
abbrev Qf.con :V.Con:=⟨(ci (ci .nil)),(ci .nil),λ(x:Int×Int)=>Qf x.1 x.2,[],[(false,1),(false,1)],[(false,1)],[false],[]⟩
abbrev Qf.E :Env:=V.mkE V.tys [(38,Y3.con)] [] [] [] [] []
theorem Qf.eq (x0:Int)(x1:Int):V.evBody Qf.E Qf.con f189 ((x0,x1):Int×Int)=Qf x0 x1:=by kernel_rfl
theorem Qf.ok :V.Valid prog 189 Qf.con:=
 V.fo (tab_cons Y3.ok tab_nil) func189 (by kernel_rfl) (λx y h=>(show V.evBody Qf.E Qf.con f189 x=_ from Qf.eq x.1 x.2).trans (V.cfl (by kernel_rfl) h))
abbrev ZF.con :V.Con:=⟨(.cons (.sl (ci .nil)) .nil),(ci .nil),λ(x:List Int)=>ZF x,[],[(false,1)],[(false,1)],[false],[]⟩
abbrev ZF.E :Env:=V.mkE V.tys [(189,Qf.con)] [(6,[0,3,4],[])] [] [] [] []
abbrev ZF.kt (x0:List Int):Kt Int:=ktOf ZF.E ZF.con f157 ((x0):List Int)
abbrev ZF.s6 (x0:List Int)(aE:Int)(aA:Int):St:=⟨[(0, .v false [.val (.sl (ci .nil) x0)]),(3, .v false [.vi (aE)]),(4, .v false [.vi (aA)])],[]⟩
theorem ZF.r6 (x0:List Int)(R:St->Option Int)(aE:Int)(aA:Int):loopF ZF.E f157.ntmps [1,1,0,1,0] [] (codeOf f157) (ZF.kt x0) R (ZF.s6 x0 aE aA)=ZF.g6 x0 (λaE aA=>R (ZF.s6 x0 aE aA)) aE aA:=by kernel_rfl
theorem ZF.e6 (x0:List Int):∀(n:Nat) (aE:Int) (aA:Int),loopN (loopF ZF.E f157.ntmps [1,1,0,1,0] [] (codeOf f157) (ZF.kt x0)) n (ZF.s6 x0 aE aA)=ZF.l6 x0 n aE aA:=by
 intro n
 induction n with
 |zero=>intros;rw[loopN_z];rfl
 |succ n ih=>
  intro aE aA
  rw[loopN_s,ZF.r6]
  simp only[ih]
  first|exact(ZF.u6 ..).symm|rfl
theorem ZF.v (x0:List Int):V.evBody ZF.E ZF.con f157 ((x0):List Int)=ZF.b x0 (λaE aA=>loopN (loopF ZF.E f157.ntmps [1,1,0,1,0] [] (codeOf f157) (ZF.kt x0)) V.KK (ZF.s6 x0 aE aA)):=by kernel_rfl
theorem ZF.eq (x0:List Int):V.evBody ZF.E ZF.con f157 ((x0):List Int)=ZF x0:=by
 rw[ZF.v]
 simp only[ZF.e6]
 rfl
theorem ZF.ok :V.Valid prog 157 ZF.con:=
 V.fo (tab_cons Qf.ok tab_nil) func157 (by kernel_rfl) (λx y h=>(show V.evBody ZF.E ZF.con f157 x=_ from ZF.eq x).trans (V.cfl (by kernel_rfl) h))
abbrev Uk.con :V.Con:=⟨(.cons (.sl (ci .nil)) (ci (ci .nil))),(ci .nil),λ(x:List Int×Int×Int)=>Uk (x.1,x.2.1) x.2.2,[],[(true,2),(false,1)],[(false,1)],[false],[]⟩
abbrev Uk.E :Env:=V.mkE V.tys [(157,ZF.con),(193,Ww.con)] [] [] [] [] []
theorem Uk.eq (x0:Zc)(x1:Int):V.evBody Uk.E Uk.con f161 ((x0.1,x0.2,x1):List Int×Int×Int)=Uk x0 x1:=by kernel_rfl
theorem Uk.ok :V.Valid prog 161 Uk.con:=
 V.fo (tab_cons ZF.ok (tab_cons Ww.ok tab_nil)) func161 (by kernel_rfl) (λx y h=>(show V.evBody Uk.E Uk.con f161 x=_ from Uk.eq (x.1,x.2.1) x.2.2).trans (V.cfl (by kernel_rfl) h))
abbrev YW.con :V.Con:=⟨(.cons (.sl (.cons (.int .u8) .nil)) .nil),(.cons (.sl (ci .nil)) .nil),λ(x:List Int)=>YW x,[],[(false,1)],[(false,1)],[true],[]⟩
abbrev YW.E :Env:=V.mkE V.tys [] [(6,[0,3,4],[])] [] [] [] []
abbrev YW.kt (x0:List Int):Kt (List Int):=ktOf YW.E YW.con f219 ((x0):List Int)
abbrev YW.s6 (x0:List Int)(aE:Int)(aA:List Int):St:=⟨[(0, .v false [.val (.sl (.cons (.int .u8) .nil) x0)]),(3, .v false [.ref 64000038400192]),(4, .v false [.vi (aE)])],[(64000038400192, .row (ci .nil) true aA)]⟩
theorem YW.r6 (x0:List Int)(R:St->Option (List Int))(aE:Int)(aA:List Int):loopF YW.E f219.ntmps [1,1,0,1,0] [] (codeOf f219) (YW.kt x0) R (YW.s6 x0 aE aA)=YW.g6 x0 (λaE aA=>R (YW.s6 x0 aE aA)) aE aA:=by kernel_rfl
theorem YW.e6 (x0:List Int):∀(n:Nat) (aE:Int) (aA:List Int),loopN (loopF YW.E f219.ntmps [1,1,0,1,0] [] (codeOf f219) (YW.kt x0)) n (YW.s6 x0 aE aA)=YW.l6 x0 n aE aA:=by
 intro n
 induction n with
 |zero=>intros;rw[loopN_z];rfl
 |succ n ih=>
  intro aE aA
  rw[loopN_s,YW.r6]
  simp only[ih]
  first|exact(YW.u6 ..).symm|rfl
theorem YW.v (x0:List Int):V.evBody YW.E YW.con f219 ((x0):List Int)=YW.b x0 (λaE aA=>loopN (loopF YW.E f219.ntmps [1,1,0,1,0] [] (codeOf f219) (YW.kt x0)) V.KK (YW.s6 x0 aE aA)):=by kernel_rfl
theorem YW.eq (x0:List Int):V.evBody YW.E YW.con f219 ((x0):List Int)=YW x0:=by
 rw[YW.v]
 simp only[YW.e6]
 rfl
theorem YW.ok :V.Valid prog 219 YW.con:=
 V.fo tab_nil func219 (by kernel_rfl) (λx y h=>(show V.evBody YW.E YW.con f219 x=_ from YW.eq x).trans (V.cfl (by kernel_rfl) h))
abbrev UB.con :V.Con:=⟨(.cons .str .nil),(.cons (.sl (ci .nil)) .nil),λ(x:ByteArray)=>UB x,[],[(false,1)],[(false,1)],[true],[]⟩
abbrev UB.E :Env:=V.mkE V.tys [(219,YW.con)] [] [] [] [] []
theorem UB.eq (x0:ByteArray):V.evBody UB.E UB.con f190 ((x0):ByteArray)=UB x0:=by kernel_rfl
theorem UB.ok :V.Valid prog 190 UB.con:=
 V.fo (tab_cons YW.ok tab_nil) func190 (by kernel_rfl) (λx y h=>(show V.evBody UB.E UB.con f190 x=_ from UB.eq x).trans (V.cfl (by kernel_rfl) h))
abbrev YX.con :V.Con:=⟨V.eEntry,(.cons (.sl (ci .nil)) .nil),λ(x:ByteArray×Int×Int×List ByteArray)=>YX x,[],[(true,4)],[(false,1)],[true],[]⟩
abbrev YX.E :Env:=V.mkE V.tys [(190,UB.con)] [(6,[1,3,4],[])] [(1,11)] [] [] []
abbrev YX.kt (x0:Z0):Kt (List Int):=ktOf YX.E YX.con f158 ((x0.1,x0.2.1,x0.2.2.1,x0.2.2.2):ByteArray×Int×Int×List ByteArray)
abbrev YX.s6 (x0:Z0)(aH:Int)(aN:List Int):St:=⟨[(1, .v false [.ptr 64000 0]),(3, .v false [.ref 64000038400192]),(4, .v false [.vi (aH)])],[(64000, .box [.val (.str x0.1), .vi (x0.2.1), .vi (x0.2.2.1), .val (.sl (.cons .str .nil) x0.2.2.2)]),(64000038400192, .row (ci .nil) true aN)]⟩
theorem YX.r6 (x0:Z0)(R:St->Option (List Int))(aH:Int)(aN:List Int):loopF YX.E f158.ntmps [1,1,0,1,0] [] (codeOf f158) (YX.kt x0) R (YX.s6 x0 aH aN)=YX.g6 x0 (λaH aN=>R (YX.s6 x0 aH aN)) aH aN:=by kernel_rfl
theorem YX.e6 (x0:Z0):∀(n:Nat) (aH:Int) (aN:List Int),loopN (loopF YX.E f158.ntmps [1,1,0,1,0] [] (codeOf f158) (YX.kt x0)) n (YX.s6 x0 aH aN)=YX.l6 x0 n aH aN:=by
 intro n
 induction n with
 |zero=>intros;rw[loopN_z];rfl
 |succ n ih=>
  intro aH aN
  rw[loopN_s,YX.r6]
  simp only[ih]
  first|exact(YX.u6 ..).symm|rfl
theorem YX.v (x0:Z0):V.evBody YX.E YX.con f158 ((x0.1,x0.2.1,x0.2.2.1,x0.2.2.2):ByteArray×Int×Int×List ByteArray)=YX.b x0 (λaH aN=>loopN (loopF YX.E f158.ntmps [1,1,0,1,0] [] (codeOf f158) (YX.kt x0)) V.KK (YX.s6 x0 aH aN)):=by kernel_rfl
theorem YX.eq (x0:Z0):V.evBody YX.E YX.con f158 ((x0.1,x0.2.1,x0.2.2.1,x0.2.2.2):ByteArray×Int×Int×List ByteArray)=YX x0:=by
 rw[YX.v]
 simp only[YX.e6]
 rfl
theorem YX.ok :V.Valid prog 158 YX.con:=
 V.fo (tab_cons UB.ok tab_nil) func158 (by kernel_rfl) (λx y h=>(show V.evBody YX.E YX.con f158 x=_ from YX.eq x).trans (V.cfl (by kernel_rfl) h))
abbrev UJ.con :V.Con:=⟨V.eEntry,(ci .nil),λ(x:ByteArray×Int×Int×List ByteArray)=>UJ x,[],[(true,4)],[(false,1)],[false],[]⟩
abbrev UJ.E :Env:=V.mkE V.tys [(157,ZF.con),(158,YX.con)] [] [] [] [] []
theorem UJ.eq (x0:Z0):V.evBody UJ.E UJ.con f121 ((x0.1,x0.2.1,x0.2.2.1,x0.2.2.2):ByteArray×Int×Int×List ByteArray)=UJ x0:=by kernel_rfl
theorem UJ.ok :V.Valid prog 121 UJ.con:=
 V.fo (tab_cons ZF.ok (tab_cons YX.ok tab_nil)) func121 (by kernel_rfl) (λx y h=>(show V.evBody UJ.E UJ.con f121 x=_ from UJ.eq x).trans (V.cfl (by kernel_rfl) h))
abbrev YA.con :V.Con:=⟨(.cons (.sl V.eEntry) .nil),(.cons (.sl (ci .nil)) .nil),λ(x:List Z0)=>YA x,[],[(false,1)],[(false,1)],[true],[]⟩
abbrev YA.E :Env:=V.mkE V.tys [(121,UJ.con)] [(6,[0,3,4],[(64000038400192,(ci .nil),true)])] [] [] [] []
abbrev YA.kt (x0:List Z0):Kt (List Int):=ktOf YA.E YA.con f84 ((x0):List Z0)
abbrev YA.s6 (x0:List Z0)(aE:Int)(aA:List Int):St:=⟨[(0, .v false [.val (.sl V.eEntry x0)]),(3, .v false [.ref 64000038400192]),(4, .v false [.vi (aE)])],[(64000038400192, .row (ci .nil) true aA)]⟩
theorem YA.r6 (x0:List Z0)(R:St->Option (List Int))(aE:Int)(aA:List Int):loopF YA.E f84.ntmps [1,1,0,1,0] [] (codeOf f84) (YA.kt x0) R (YA.s6 x0 aE aA)=YA.g6 x0 (λaE aA=>R (YA.s6 x0 aE aA)) aE aA:=by kernel_rfl
theorem YA.e6 (x0:List Z0):∀(n:Nat) (aE:Int) (aA:List Int),loopN (loopF YA.E f84.ntmps [1,1,0,1,0] [] (codeOf f84) (YA.kt x0)) n (YA.s6 x0 aE aA)=YA.l6 x0 n aE aA:=by
 intro n
 induction n with
 |zero=>intros;rw[loopN_z];rfl
 |succ n ih=>
  intro aE aA
  rw[loopN_s,YA.r6]
  simp only[ih]
  first|exact(YA.u6 ..).symm|rfl
theorem YA.v (x0:List Z0):V.evBody YA.E YA.con f84 ((x0):List Z0)=YA.b x0 (λaE aA=>loopN (loopF YA.E f84.ntmps [1,1,0,1,0] [] (codeOf f84) (YA.kt x0)) V.KK (YA.s6 x0 aE aA)):=by kernel_rfl
theorem YA.eq (x0:List Z0):V.evBody YA.E YA.con f84 ((x0):List Z0)=YA x0:=by
 rw[YA.v]
 simp only[YA.e6]
 rfl
theorem YA.ok :V.Valid prog 84 YA.con:=
 V.fo (tab_cons UJ.ok tab_nil) func84 (by kernel_rfl) (λx y h=>(show V.evBody YA.E YA.con f84 x=_ from YA.eq x).trans (V.cfl (by kernel_rfl) h))
abbrev Qg.con :V.Con:=⟨(ci (ci .nil)),(ci .nil),λ(x:Int×Int)=>Qg x.1 x.2,[],[(false,1),(false,1)],[(false,1)],[false],[]⟩
abbrev Qg.E :Env:=V.mkE V.tys [(157,ZF.con)] [] [] [] [] []
theorem Qg.eq (x0:Int)(x1:Int):V.evBody Qg.E Qg.con f156 ((x0,x1):Int×Int)=Qg x0 x1:=by kernel_rfl
theorem Qg.ok :V.Valid prog 156 Qg.con:=
 V.fo (tab_cons ZF.ok tab_nil) func156 (by kernel_rfl) (λx y h=>(show V.evBody Qg.E Qg.con f156 x=_ from Qg.eq x.1 x.2).trans (V.cfl (by kernel_rfl) h))
abbrev Ys.con :V.Con:=⟨(.cons (.sl (ci .nil)) .nil),(.cons (.sl (ci .nil)) .nil),λ(x:List Int)=>Ys x,[],[(false,1)],[(false,1)],[true],[]⟩
abbrev Ys.E :Env:=V.mkE V.tys [(156,Qg.con)] [(6,[0,3,4],[(64000038400192,(ci .nil),true)])] [(6,12)] [] [] []
abbrev Ys.kt (x0:List Int):Kt (List Int):=ktOf Ys.E Ys.con f120 ((x0):List Int)
abbrev Ys.s6 (x0:List Int)(aE:Int)(aA:List Int):St:=⟨[(0, .v false [.val (.sl (ci .nil) x0)]),(3, .v false [.ref 64000038400192]),(4, .v false [.vi (aE)])],[(64000038400192, .row (ci .nil) true aA)]⟩
theorem Ys.r6 (x0:List Int)(R:St->Option (List Int))(aE:Int)(aA:List Int):loopF Ys.E f120.ntmps [1,1,0,1,0] [] (codeOf f120) (Ys.kt x0) R (Ys.s6 x0 aE aA)=Ys.g6 x0 (λaE aA=>R (Ys.s6 x0 aE aA)) aE aA:=by kernel_rfl
theorem Ys.e6 (x0:List Int):∀(n:Nat) (aE:Int) (aA:List Int),loopN (loopF Ys.E f120.ntmps [1,1,0,1,0] [] (codeOf f120) (Ys.kt x0)) n (Ys.s6 x0 aE aA)=Ys.l6 x0 n aE aA:=by
 intro n
 induction n with
 |zero=>intros;rw[loopN_z];rfl
 |succ n ih=>
  intro aE aA
  rw[loopN_s,Ys.r6]
  simp only[ih]
  first|exact(Ys.u6 ..).symm|rfl
theorem Ys.v (x0:List Int):V.evBody Ys.E Ys.con f120 ((x0):List Int)=Ys.b x0 (λaE aA=>loopN (loopF Ys.E f120.ntmps [1,1,0,1,0] [] (codeOf f120) (Ys.kt x0)) V.KK (Ys.s6 x0 aE aA)):=by kernel_rfl
theorem Ys.eq (x0:List Int):V.evBody Ys.E Ys.con f120 ((x0):List Int)=Ys x0:=by
 rw[Ys.v]
 simp only[Ys.e6]
 rfl
theorem Ys.ok :V.Valid prog 120 Ys.con:=
 V.fo (tab_cons Qg.ok tab_nil) func120 (by kernel_rfl) (λx y h=>(show V.evBody Ys.E Ys.con f120 x=_ from Ys.eq x).trans (V.cfl (by kernel_rfl) h))
abbrev YJ.con :V.Con:=⟨(.cons (.sl (ci .nil)) .nil),(ci .nil),λ(x:List Int)=>YJ x,[],[(false,1)],[(false,1)],[false],[]⟩
abbrev YJ.E :Env:=V.mkE V.tys [(120,Ys.con),(157,ZF.con)] [(8,[3],[(3,(ci .nil),false)])] [] [] [] []
abbrev YJ.kt (x0:List Int):Kt Int:=ktOf YJ.E YJ.con f155 ((x0):List Int)
abbrev YJ.s8 (aU:List Int):St:=⟨[(3, .v false [.val (.sl (ci .nil) aU)])],[]⟩
theorem YJ.r8 (x0:List Int)(R:St->Option Int)(aU:List Int):loopF YJ.E f155.ntmps [1,1,1,0,0] [] (codeOf f155) (YJ.kt x0) R (YJ.s8 aU)=YJ.g8 (λaU=>R (YJ.s8 aU)) aU:=by kernel_rfl
theorem YJ.e8 (x0:List Int):∀(n:Nat) (aU:List Int),loopN (loopF YJ.E f155.ntmps [1,1,1,0,0] [] (codeOf f155) (YJ.kt x0)) n (YJ.s8 aU)=YJ.l8 n aU:=by
 intro n
 induction n with
 |zero=>intros;rw[loopN_z];rfl
 |succ n ih=>
  intro aU
  rw[loopN_s,YJ.r8]
  simp only[ih]
  first|exact(YJ.u8 ..).symm|rfl
theorem YJ.v (x0:List Int):V.evBody YJ.E YJ.con f155 ((x0):List Int)=YJ.b x0 (λaU=>loopN (loopF YJ.E f155.ntmps [1,1,1,0,0] [] (codeOf f155) (YJ.kt x0)) V.KK (YJ.s8 aU)):=by kernel_rfl
theorem YJ.eq (x0:List Int):V.evBody YJ.E YJ.con f155 ((x0):List Int)=YJ x0:=by
 rw[YJ.v]
 simp only[YJ.e8]
 rfl
theorem YJ.ok :V.Valid prog 155 YJ.con:=
 V.fo (tab_cons Ys.ok (tab_cons ZF.ok tab_nil)) func155 (by kernel_rfl) (λx y h=>(show V.evBody YJ.E YJ.con f155 x=_ from YJ.eq x).trans (V.cfl (by kernel_rfl) h))
abbrev Qw.con :V.Con:=⟨(ci (ci .nil)),(ci .nil),λ(x:Int×Int)=>Qw x.1 x.2,[],[(false,1),(false,1)],[(false,1)],[false],[]⟩
abbrev Qw.E :Env:=V.mkE V.tys [(157,ZF.con)] [] [] [] [] []
theorem Qw.eq (x0:Int)(x1:Int):V.evBody Qw.E Qw.con f154 ((x0,x1):Int×Int)=Qw x0 x1:=by kernel_rfl
theorem Qw.ok :V.Valid prog 154 Qw.con:=
 V.fo (tab_cons ZF.ok tab_nil) func154 (by kernel_rfl) (λx y h=>(show V.evBody Qw.E Qw.con f154 x=_ from Qw.eq x.1 x.2).trans (V.cfl (by kernel_rfl) h))
abbrev Wp.con :V.Con:=⟨(.cons (.sl V.eEntry) .nil),(ci .nil),λ(x:List Z0)=>Wp x,[],[(false,1)],[(false,1)],[false],[]⟩
abbrev Wp.E :Env:=V.mkE V.tys [(84,YA.con),(154,Qw.con),(155,YJ.con)] [] [] [] [] []
theorem Wp.eq (x0:List Z0):V.evBody Wp.E Wp.con f119 ((x0):List Z0)=Wp x0:=by kernel_rfl
theorem Wp.ok :V.Valid prog 119 Wp.con:=
 V.fo (tab_cons YA.ok (tab_cons Qw.ok (tab_cons YJ.ok tab_nil))) func119 (by kernel_rfl) (λx y h=>(show V.evBody Wp.E Wp.con f119 x=_ from Wp.eq x).trans (V.cfl (by kernel_rfl) h))
abbrev Wx.con :V.Con:=⟨(.cons (.sl (ci .nil)) (ci .nil)),(.cons (.sl (ci .nil)) (ci .nil)),λ(x:List Int×Int)=>Wx x,[],[(true,2)],[(true,2)],[true,false],[]⟩
abbrev Wx.E :Env:=V.mkE V.tys [] [] [(1,6)] [] [] []
theorem Wx.eq (x0:Zc):V.evBody Wx.E Wx.con f88 ((x0.1,x0.2):List Int×Int)=Wx x0:=by kernel_rfl
theorem Wx.ok :V.Valid prog 88 Wx.con:=
 V.fo tab_nil func88 (by kernel_rfl) (λx y h=>(show V.evBody Wx.E Wx.con f88 x=_ from Wx.eq x).trans (V.cfl (by kernel_rfl) h))
abbrev ZV.con :V.Con:=⟨(.cons (.sl (ci .nil)) (ci .nil)),(.cons .bool .nil),λ(x:List Int×Int)=>ZV x,[],[(true,2)],[(false,1)],[false],[]⟩
abbrev ZV.E :Env:=V.mkE V.tys [(38,Y3.con)] [(4,[1,3],[])] [(4,22)] [] [] []
abbrev ZV.kt (x0:Zc):Kt Bool:=ktOf ZV.E ZV.con f191 ((x0.1,x0.2):List Int×Int)
abbrev ZV.s4 (x0:Zc)(aZ:Int):St:=⟨[(1, .v false [.ptr 64000 0]),(3, .v false [.vi (aZ)])],[(64000, .box [.val (.sl (ci .nil) x0.1), .vi (x0.2)])]⟩
theorem ZV.r4 (x0:Zc)(R:St->Option Bool)(aZ:Int):loopF ZV.E f191.ntmps [1,0,1,0] [] (codeOf f191) (ZV.kt x0) R (ZV.s4 x0 aZ)=ZV.g4 x0 (λaZ=>R (ZV.s4 x0 aZ)) aZ:=by kernel_rfl
theorem ZV.e4 (x0:Zc):∀(n:Nat) (aZ:Int),loopN (loopF ZV.E f191.ntmps [1,0,1,0] [] (codeOf f191) (ZV.kt x0)) n (ZV.s4 x0 aZ)=ZV.l4 x0 n aZ:=by
 intro n
 induction n with
 |zero=>intros;rw[loopN_z];rfl
 |succ n ih=>
  intro aZ
  rw[loopN_s,ZV.r4]
  simp only[ih]
  first|exact(ZV.u4 ..).symm|rfl
theorem ZV.v (x0:Zc):V.evBody ZV.E ZV.con f191 ((x0.1,x0.2):List Int×Int)=ZV.b x0 (λaZ=>loopN (loopF ZV.E f191.ntmps [1,0,1,0] [] (codeOf f191) (ZV.kt x0)) V.KK (ZV.s4 x0 aZ)):=by kernel_rfl
theorem ZV.eq (x0:Zc):V.evBody ZV.E ZV.con f191 ((x0.1,x0.2):List Int×Int)=ZV x0:=by
 rw[ZV.v]
 simp only[ZV.e4]
 rfl
theorem ZV.ok :V.Valid prog 191 ZV.con:=
 V.fo (tab_cons Y3.ok tab_nil) func191 (by kernel_rfl) (λx y h=>(show V.evBody ZV.E ZV.con f191 x=_ from ZV.eq x).trans (V.cfl (by kernel_rfl) h))
abbrev WF.con :V.Con:=⟨(.cons (.sl (ci .nil)) (ci .nil)),(.cons .bool .nil),λ(x:List Int×Int)=>WF x,[],[(true,2)],[(false,1)],[false],[]⟩
abbrev WF.E :Env:=V.mkE V.tys [] [] [] [] [] []
theorem WF.eq (x0:Zc):V.evBody WF.E WF.con f192 ((x0.1,x0.2):List Int×Int)=WF x0:=by kernel_rfl
theorem WF.ok :V.Valid prog 192 WF.con:=
 V.fo tab_nil func192 (by kernel_rfl) (λx y h=>(show V.evBody WF.E WF.con f192 x=_ from WF.eq x).trans (V.cfl (by kernel_rfl) h))
abbrev Zm.con :V.Con:=⟨V.A0,(.cons .bool .nil),λ(x:V.D0)=>Zm (V.p0_0 x),[],[(true,16)],[(false,1)],[false],[]⟩
abbrev Zm.E :Env:=V.mkE V.tys [(38,Y3.con),(191,ZV.con),(192,WF.con)] [(7,[1],[]),(11,[1],[]),(21,[1],[])] [] [] [] []
abbrev Zm.kt (x0:Z5):Kt Bool:=ktOf Zm.E Zm.con f160 (V.fl0 x0)
abbrev Zm.s21 (x0:Z5):St:=⟨[(1, .v false [.ptr 64000 0])],[(64000, .box (V.lsHead x0))]⟩
abbrev Zm.s11 (x0:Z5):St:=⟨[(1, .v false [.ptr 64000 0])],[(64000, .box (V.lsHead x0))]⟩
abbrev Zm.s7 (x0:Z5):St:=⟨[(1, .v false [.ptr 64000 0])],[(64000, .box (V.lsHead x0))]⟩
theorem Zm.r21 (x0:Z5):joinF Zm.E f160.ntmps [1,1,1] [] (codeOf f160) (Zm.kt x0) (Zm.s21 x0)=Zm.g21 x0:=by kernel_rfl
theorem Zm.e21 (x0:Z5):jn (joinF Zm.E f160.ntmps [1,1,1] [] (codeOf f160) (Zm.kt x0)) (Zm.s21 x0)=Zm.l21 x0:=by
 rw[jn_eq,Zm.r21]
 rfl
theorem Zm.r11 (x0:Z5):joinF Zm.E f160.ntmps [1,1] [] (codeOf f160) (Zm.kt x0) (Zm.s11 x0)=Zm.g11 x0 (jn (joinF Zm.E f160.ntmps [1,1,1] [] (codeOf f160) (Zm.kt x0)) (Zm.s21 x0)):=by kernel_rfl
theorem Zm.e11 (x0:Z5):jn (joinF Zm.E f160.ntmps [1,1] [] (codeOf f160) (Zm.kt x0)) (Zm.s11 x0)=Zm.l11 x0:=by
 rw[jn_eq,Zm.r11]
 simp only[Zm.e21]
 rfl
theorem Zm.r7 (x0:Z5):joinF Zm.E f160.ntmps [1] [] (codeOf f160) (Zm.kt x0) (Zm.s7 x0)=Zm.g7 x0 (jn (joinF Zm.E f160.ntmps [1,1] [] (codeOf f160) (Zm.kt x0)) (Zm.s11 x0)):=by kernel_rfl
theorem Zm.e7 (x0:Z5):jn (joinF Zm.E f160.ntmps [1] [] (codeOf f160) (Zm.kt x0)) (Zm.s7 x0)=Zm.l7 x0:=by
 rw[jn_eq,Zm.r7]
 simp only[Zm.e11]
 rfl
abbrev Zm.s (x0:Z5):St:=⟨[(0, .v true (V.lsHead x0))],[]⟩
theorem Zm.v0 (x0:Z5):V.evBody Zm.E Zm.con f160 (V.fl0 x0)=evC Zm.E f160.ntmps (codeOf f160) (Zm.kt x0) (Zm.s x0):=by kernel_rfl
theorem Zm.v (x0:Z5):evC Zm.E f160.ntmps (codeOf f160) (Zm.kt x0) (Zm.s x0)=Zm.b x0 (jn (joinF Zm.E f160.ntmps [1] [] (codeOf f160) (Zm.kt x0)) (Zm.s7 x0)):=by kernel_rfl
theorem Zm.eq (x0:Z5):V.evBody Zm.E Zm.con f160 (V.fl0 x0)=Zm x0:=by
 rw[Zm.v0,Zm.v]
 simp only[Zm.e7]
 rfl
theorem Zm.ok :V.Valid prog 160 Zm.con:=
 V.fo (tab_cons Y3.ok (tab_cons ZV.ok (tab_cons WF.ok tab_nil))) func160 (by kernel_rfl) (λx y h=>(show V.evBody Zm.E Zm.con f160 x=_ from Zm.eq (V.p0_0 x)).trans (V.cfl (by kernel_rfl) h))
abbrev YI.con :V.Con:=⟨(.cons (.sl (ci .nil)) (ci (ci (.cons (.sl V.eEntry) (ci (ci .nil)))))),V.eRHeadBool,λ(x:List Int×Int×Int×List Z0×Int×Int)=>YI (x.1,x.2.1) x.2.2.1 x.2.2.2.1 x.2.2.2.2.1 x.2.2.2.2.2,[],[(true,2),(false,1),(false,1),(false,1),(false,1)],[(true,16),(false,1)],[false,false,false,false,false,false,false,false,true,false,true,false,false,true,false,false,false],[]⟩
abbrev YI.E :Env:=V.mkE V.tys [(38,Y3.con),(85,ZO.con),(88,Wx.con),(119,Wp.con),(160,Zm.con),(161,Uk.con)] [(5,[1,2,3,4,5,10,25],[])] [(3,16)] [] [] []
abbrev YI.kt (x0:Zc)(x1:Int)(x2:List Z0)(x3:Int)(x4:Int):Kt Yi:=ktOf YI.E YI.con f177 ((x0.1,x0.2,x1,x2,x3,x4):List Int×Int×Int×List Z0×Int×Int)
abbrev YI.s5 (x0:Zc)(x1:Int)(x2:List Z0)(x3:Int)(x4:Int)(fH:Bool):St:=⟨[(1, .v false [.vi (x1)]),(2, .v false [.val (.sl V.eEntry x2)]),(3, .v false [.vi (x3)]),(4, .v false [.vi (x4)]),(5, .v false [.ptr 64000 0]),(10, .v false [.ptr 64064 0]),(25, .v false [.val (.bool fH)])],[(64000, .box [.val (.sl (ci .nil) x0.1), .vi (x0.2)]),(64064, .box [.vi ((0:Int)), .vi ((0:Int)), .vi ((0:Int)), .vi ((0:Int)), .vi ((0:Int)), .vi ((0:Int)), .vi ((0:Int)), .vi ((0:Int)), .nil0, .vi ((0:Int)), .nil0, .vi ((0:Int)), .vi ((0:Int)), .nil0, .vi ((0:Int)), .val (.bool false)])]⟩
theorem YI.r5 (x0:Zc)(x1:Int)(x2:List Z0)(x3:Int)(x4:Int)(fH:Bool):joinF YI.E f177.ntmps [1,0] [] (codeOf f177) (YI.kt x0 x1 x2 x3 x4) (YI.s5 x0 x1 x2 x3 x4 fH)=YI.g5 x0 x1 x2 x3 x4 fH:=by kernel_rfl
theorem YI.e5 (x0:Zc)(x1:Int)(x2:List Z0)(x3:Int)(x4:Int)(fH:Bool):jn (joinF YI.E f177.ntmps [1,0] [] (codeOf f177) (YI.kt x0 x1 x2 x3 x4)) (YI.s5 x0 x1 x2 x3 x4 fH)=YI.l5 x0 x1 x2 x3 x4 fH:=by
 rw[jn_eq,YI.r5]
 rfl
theorem YI.v (x0:Zc)(x1:Int)(x2:List Z0)(x3:Int)(x4:Int):V.evBody YI.E YI.con f177 ((x0.1,x0.2,x1,x2,x3,x4):List Int×Int×Int×List Z0×Int×Int)=YI.b x0 x1 x2 x3 x4 (λfH=>jn (joinF YI.E f177.ntmps [1,0] [] (codeOf f177) (YI.kt x0 x1 x2 x3 x4)) (YI.s5 x0 x1 x2 x3 x4 fH)):=by kernel_rfl
theorem YI.eq (x0:Zc)(x1:Int)(x2:List Z0)(x3:Int)(x4:Int):V.evBody YI.E YI.con f177 ((x0.1,x0.2,x1,x2,x3,x4):List Int×Int×Int×List Z0×Int×Int)=YI x0 x1 x2 x3 x4:=by
 rw[YI.v]
 simp only[YI.e5]
 rfl
theorem YI.ok :V.Valid prog 177 YI.con:=
 V.fo (tab_cons Y3.ok (tab_cons ZO.ok (tab_cons Wx.ok (tab_cons Wp.ok (tab_cons Zm.ok (tab_cons Uk.ok tab_nil)))))) func177 (by kernel_rfl) (λx y h=>(show V.evBody YI.E YI.con f177 x=_ from YI.eq (x.1,x.2.1) x.2.2.1 x.2.2.2.1 x.2.2.2.2.1 x.2.2.2.2.2).trans (V.cfl (by kernel_rfl) h))
abbrev Xj.con :V.Con:=⟨V.A0,V.eHead,λ(x:V.D0)=>Xj (V.p0_0 x),[],[(true,16)],[(true,16)],[false,false,false,false,false,false,false,false,true,false,true,false,false,true,false,false],[]⟩
abbrev Xj.E :Env:=V.mkE V.tys [(88,Wx.con)] [] [] [] [] []
abbrev Xj.kt (x0:Z5):Kt Z5:=ktOf Xj.E Xj.con f49 (V.fl0 x0)
abbrev Xj.s (x0:Z5):St:=⟨[(0, .v true (V.lsHead x0))],[]⟩
theorem Xj.v0 (x0:Z5):V.evBody Xj.E Xj.con f49 (V.fl0 x0)=evC Xj.E f49.ntmps (codeOf f49) (Xj.kt x0) (Xj.s x0):=by kernel_rfl
theorem Xj.v (x0:Z5):evC Xj.E f49.ntmps (codeOf f49) (Xj.kt x0) (Xj.s x0)=Xj x0:=by kernel_rfl
theorem Xj.eq (x0:Z5):V.evBody Xj.E Xj.con f49 (V.fl0 x0)=Xj x0:=(Xj.v0 x0).trans (Xj.v x0)
theorem Xj.ok :V.Valid prog 49 Xj.con:=
 V.fo (tab_cons Wx.ok tab_nil) func49 (by kernel_rfl) (λx y h=>(show V.evBody Xj.E Xj.con f49 x=_ from Xj.eq (V.p0_0 x)).trans (V.cfl (by kernel_rfl) h))
abbrev Xm.con :V.Con:=⟨V.A0,(.cons (.sl (ci .nil)) .nil),λ(x:V.D0)=>Xm (V.p0_0 x),[],[(true,16)],[(false,1)],[true],[]⟩
abbrev Xm.E :Env:=V.mkE V.tys [(193,Ww.con)] [] [] [] [] []
abbrev Xm.kt (x0:Z5):Kt (List Int):=ktOf Xm.E Xm.con f163 (V.fl0 x0)
abbrev Xm.s (x0:Z5):St:=⟨[(0, .v true (V.lsHead x0))],[]⟩
theorem Xm.v0 (x0:Z5):V.evBody Xm.E Xm.con f163 (V.fl0 x0)=evC Xm.E f163.ntmps (codeOf f163) (Xm.kt x0) (Xm.s x0):=by kernel_rfl
theorem Xm.v (x0:Z5):evC Xm.E f163.ntmps (codeOf f163) (Xm.kt x0) (Xm.s x0)=Xm x0:=by kernel_rfl
theorem Xm.eq (x0:Z5):V.evBody Xm.E Xm.con f163 (V.fl0 x0)=Xm x0:=(Xm.v0 x0).trans (Xm.v x0)
theorem Xm.ok :V.Valid prog 163 Xm.con:=
 V.fo (tab_cons Ww.ok tab_nil) func163 (by kernel_rfl) (λx y h=>(show V.evBody Xm.E Xm.con f163 x=_ from Xm.eq (V.p0_0 x)).trans (V.cfl (by kernel_rfl) h))
abbrev YC.con :V.Con:=⟨(.cons (.sl (ci .nil)) (ci .nil)),(.cons .bool .nil),λ(x:List Int×Int)=>YC x.1 x.2,[],[(false,1),(false,1)],[(false,1)],[false],[]⟩
abbrev YC.E :Env:=V.mkE V.tys [] [(4,[0,1,5],[])] [] [] [] []
abbrev YC.kt (x0:List Int)(x1:Int):Kt Bool:=ktOf YC.E YC.con f203 ((x0,x1):List Int×Int)
abbrev YC.s4 (x0:List Int)(x1:Int)(aF:Int):St:=⟨[(0, .v false [.val (.sl (ci .nil) x0)]),(1, .v false [.vi (x1)]),(5, .v false [.vi (aF)])],[]⟩
theorem YC.r4 (x0:List Int)(x1:Int)(R:St->Option Bool)(aF:Int):loopF YC.E f203.ntmps [1,0,1,0] [] (codeOf f203) (YC.kt x0 x1) R (YC.s4 x0 x1 aF)=YC.g4 x0 x1 (λaF=>R (YC.s4 x0 x1 aF)) aF:=by kernel_rfl
theorem YC.e4 (x0:List Int)(x1:Int):∀(n:Nat) (aF:Int),loopN (loopF YC.E f203.ntmps [1,0,1,0] [] (codeOf f203) (YC.kt x0 x1)) n (YC.s4 x0 x1 aF)=YC.l4 x0 x1 n aF:=by
 intro n
 induction n with
 |zero=>intros;rw[loopN_z];rfl
 |succ n ih=>
  intro aF
  rw[loopN_s,YC.r4]
  simp only[ih]
  first|exact(YC.u4 ..).symm|rfl
theorem YC.v (x0:List Int)(x1:Int):V.evBody YC.E YC.con f203 ((x0,x1):List Int×Int)=YC.b x0 x1 (λaF=>loopN (loopF YC.E f203.ntmps [1,0,1,0] [] (codeOf f203) (YC.kt x0 x1)) V.KK (YC.s4 x0 x1 aF)):=by kernel_rfl
theorem YC.eq (x0:List Int)(x1:Int):V.evBody YC.E YC.con f203 ((x0,x1):List Int×Int)=YC x0 x1:=by
 rw[YC.v]
 simp only[YC.e4]
 rfl
theorem YC.ok :V.Valid prog 203 YC.con:=
 V.fo tab_nil func203 (by kernel_rfl) (λx y h=>(show V.evBody YC.E YC.con f203 x=_ from YC.eq x.1 x.2).trans (V.cfl (by kernel_rfl) h))
abbrev Qe.con :V.Con:=⟨(ci (.cons (.sl (ci .nil)) .nil)),(ci .nil),λ(x:Int×List Int)=>Qe x.1 x.2,[],[(false,1),(false,1)],[(false,1)],[false],[]⟩
abbrev Qe.E :Env:=V.mkE V.tys [(157,ZF.con)] [] [] [] [] []
theorem Qe.eq (x0:Int)(x1:List Int):V.evBody Qe.E Qe.con f226 ((x0,x1):Int×List Int)=Qe x0 x1:=by kernel_rfl
theorem Qe.ok :V.Valid prog 226 Qe.con:=
 V.fo (tab_cons ZF.ok tab_nil) func226 (by kernel_rfl) (λx y h=>(show V.evBody Qe.E Qe.con f226 x=_ from Qe.eq x.1 x.2).trans (V.cfl (by kernel_rfl) h))
abbrev Uj.con :V.Con:=⟨(ci (.cons (.sl (ci .nil)) .nil)),(ci .nil),λ(x:Int×List Int)=>Uj x.1 x.2,[],[(false,1),(false,1)],[(false,1)],[false],[]⟩
abbrev Uj.E :Env:=V.mkE V.tys [(226,Qe.con)] [] [] [] [] []
theorem Uj.eq (x0:Int)(x1:List Int):V.evBody Uj.E Uj.con f204 ((x0,x1):Int×List Int)=Uj x0 x1:=by kernel_rfl
theorem Uj.ok :V.Valid prog 204 Uj.con:=
 V.fo (tab_cons Qe.ok tab_nil) func204 (by kernel_rfl) (λx y h=>(show V.evBody Uj.E Uj.con f204 x=_ from Uj.eq x.1 x.2).trans (V.cfl (by kernel_rfl) h))
abbrev Yg.con :V.Con:=⟨(.cons (.sl (ci .nil)) (.cons (.sl (ci .nil)) (ci (.cons (.sl (ci .nil)) .nil)))),(.cons (.sl (ci (ci .nil))) .nil),λ(x:List Int×List Int×Int×List Int)=>Yg x.1 (x.2.1,x.2.2.1) x.2.2.2,[],[(false,1),(true,2),(false,1)],[(false,1)],[true],[]⟩
abbrev Yg.E :Env:=V.mkE V.tys [(203,YC.con),(204,Uj.con)] [(6,[0,2,4,7,8],[(64000038400448,(ci (ci .nil)),true)])] [(6,15)] [] [] []
abbrev Yg.kt (x0:List Int)(x1:Zc)(x2:List Int):Kt (List Z9):=ktOf Yg.E Yg.con f173 ((x0,x1.1,x1.2,x2):List Int×List Int×Int×List Int)
abbrev Yg.s6 (x0:List Int)(x1:Zc)(x2:List Int)(aA:Int)(aN:List Z9):St:=⟨[(0, .v false [.val (.sl (ci .nil) x0)]),(2, .v false [.val (.sl (ci .nil) x2)]),(4, .v false [.ptr 64000 0]),(7, .v false [.ref 64000038400448]),(8, .v false [.vi (aA)])],[(64000, .box [.val (.sl (ci .nil) x1.1), .vi (x1.2)]),(64000038400448, .row (ci (ci .nil)) true aN)]⟩
theorem Yg.r6 (x0:List Int)(x1:Zc)(x2:List Int)(R:St->Option (List Z9))(aA:Int)(aN:List Z9):loopF Yg.E f173.ntmps [1,1,0,1,0] [] (codeOf f173) (Yg.kt x0 x1 x2) R (Yg.s6 x0 x1 x2 aA aN)=Yg.g6 x0 x1 x2 (λaA aN=>R (Yg.s6 x0 x1 x2 aA aN)) aA aN:=by kernel_rfl
theorem Yg.e6 (x0:List Int)(x1:Zc)(x2:List Int):∀(n:Nat) (aA:Int) (aN:List Z9),loopN (loopF Yg.E f173.ntmps [1,1,0,1,0] [] (codeOf f173) (Yg.kt x0 x1 x2)) n (Yg.s6 x0 x1 x2 aA aN)=Yg.l6 x0 x1 x2 n aA aN:=by
 intro n
 induction n with
 |zero=>intros;rw[loopN_z];rfl
 |succ n ih=>
  intro aA aN
  rw[loopN_s,Yg.r6]
  simp only[ih]
  first|exact(Yg.u6 ..).symm|rfl
theorem Yg.v (x0:List Int)(x1:Zc)(x2:List Int):V.evBody Yg.E Yg.con f173 ((x0,x1.1,x1.2,x2):List Int×List Int×Int×List Int)=Yg.b x0 x1 x2 (λaA aN=>loopN (loopF Yg.E f173.ntmps [1,1,0,1,0] [] (codeOf f173) (Yg.kt x0 x1 x2)) V.KK (Yg.s6 x0 x1 x2 aA aN)):=by kernel_rfl
theorem Yg.eq (x0:List Int)(x1:Zc)(x2:List Int):V.evBody Yg.E Yg.con f173 ((x0,x1.1,x1.2,x2):List Int×List Int×Int×List Int)=Yg x0 x1 x2:=by
 rw[Yg.v]
 simp only[Yg.e6]
 rfl
theorem Yg.ok :V.Valid prog 173 Yg.con:=
 V.fo (tab_cons YC.ok (tab_cons Uj.ok tab_nil)) func173 (by kernel_rfl) (λx y h=>(show V.evBody Yg.E Yg.con f173 x=_ from Yg.eq x.1 (x.2.1,x.2.2.1) x.2.2.2).trans (V.cfl (by kernel_rfl) h))
abbrev Xc.con :V.Con:=⟨V.A1,V.eSigned,λ(x:V.D1)=>Xc (V.p1_0 x) (V.p1_1 x) (V.p1_2 x),[],[(false,1),(true,2),(true,16)],[(true,17)],[false,false,false,false,false,false,false,false,true,false,true,false,false,true,false,false,true],[]⟩
abbrev Xc.E :Env:=V.mkE V.tys [(49,Xj.con),(163,Xm.con),(173,Yg.con)] [] [(1,6)] [] [] []
abbrev Xc.kt (x0:List Int)(x1:Zc)(x2:Z5):Kt Z4:=ktOf Xc.E Xc.con f135 (V.fl1 x0 x1 x2)
abbrev Xc.s (x0:List Int)(x1:Zc)(x2:Z5):St:=⟨[(0, .v false [.val (.sl (ci .nil) x0)]),(1, .v true [.val (.sl (ci .nil) x1.1), .vi (x1.2)]),(2, .v true (V.lsHead x2))],[]⟩
theorem Xc.v0 (x0:List Int)(x1:Zc)(x2:Z5):V.evBody Xc.E Xc.con f135 (V.fl1 x0 x1 x2)=evC Xc.E f135.ntmps (codeOf f135) (Xc.kt x0 x1 x2) (Xc.s x0 x1 x2):=by kernel_rfl
theorem Xc.v (x0:List Int)(x1:Zc)(x2:Z5):evC Xc.E f135.ntmps (codeOf f135) (Xc.kt x0 x1 x2) (Xc.s x0 x1 x2)=Xc x0 x1 x2:=by kernel_rfl
theorem Xc.eq (x0:List Int)(x1:Zc)(x2:Z5):V.evBody Xc.E Xc.con f135 (V.fl1 x0 x1 x2)=Xc x0 x1 x2:=(Xc.v0 x0 x1 x2).trans (Xc.v x0 x1 x2)
theorem Xc.ok :V.Valid prog 135 Xc.con:=
 V.fo (tab_cons Xj.ok (tab_cons Xm.ok (tab_cons Yg.ok tab_nil))) func135 (by kernel_rfl) (λx y h=>(show V.evBody Xc.E Xc.con f135 x=_ from Xc.eq (V.p1_0 x) (V.p1_1 x) (V.p1_2 x)).trans (V.cfl (by kernel_rfl) h))
abbrev Xl.con :V.Con:=⟨(.cons (.sl (ci .nil)) (ci (ci (.cons (.sl V.eEntry) (ci (ci .nil)))))),(.cons (.sl V.eSigned) (.cons (.sl V.eEntry) (.cons .bool .nil))),λ(x:List Int×Int×Int×List Z0×Int×Int)=>Xl (x.1,x.2.1) x.2.2.1 x.2.2.2.1 x.2.2.2.2.1 x.2.2.2.2.2,[],[(true,2),(false,1),(false,1),(false,1),(false,1)],[(true,2),(false,1)],[true,true,false],[]⟩
abbrev Xl.E :Env:=V.mkE V.tys [(103,Y7.con),(135,Xc.con),(177,YI.con)] [] [] [] [] []
theorem Xl.eq (x0:Zc)(x1:Int)(x2:List Z0)(x3:Int)(x4:Int):V.evBody Xl.E Xl.con f142 ((x0.1,x0.2,x1,x2,x3,x4):List Int×Int×Int×List Z0×Int×Int)=Xl x0 x1 x2 x3 x4:=by kernel_rfl
theorem Xl.ok :V.Valid prog 142 Xl.con:=
 V.fo (tab_cons Y7.ok (tab_cons Xc.ok (tab_cons YI.ok tab_nil))) func142 (by kernel_rfl) (λx y h=>(show V.evBody Xl.E Xl.con f142 x=_ from Xl.eq (x.1,x.2.1) x.2.2.1 x.2.2.2.1 x.2.2.2.2.1 x.2.2.2.2.2).trans (V.cfl (by kernel_rfl) h))
abbrev Qd.con :V.Con:=⟨(ci (ci (.cons (.sl (ci .nil)) .nil))),(.cons .bool .nil),λ(x:Int×Int×List Int)=>Qd (x.1,x.2.1) x.2.2,[],[(true,2),(false,1)],[(false,1)],[false],[]⟩
abbrev Qd.E :Env:=V.mkE V.tys [(38,Y3.con),(204,Uj.con)] [] [(1,10)] [] [] []
theorem Qd.eq (x0:Z9)(x1:List Int):V.evBody Qd.E Qd.con f220 ((x0.1,x0.2,x1):Int×Int×List Int)=Qd x0 x1:=by kernel_rfl
theorem Qd.ok :V.Valid prog 220 Qd.con:=
 V.fo (tab_cons Y3.ok (tab_cons Uj.ok tab_nil)) func220 (by kernel_rfl) (λx y h=>(show V.evBody Qd.E Qd.con f220 x=_ from Qd.eq (x.1,x.2.1) x.2.2).trans (V.cfl (by kernel_rfl) h))
abbrev Zl.con :V.Con:=⟨(.cons (.sl (ci .nil)) (ci (.cons (.sl (ci .nil)) (.cons (.sl (ci (ci .nil))) .nil)))),(ci .nil),λ(x:List Int×Int×List Int×List Z9)=>Zl (x.1,x.2.1) x.2.2.1 x.2.2.2,[],[(true,2),(false,1),(false,1)],[(false,1)],[false],[]⟩
abbrev Zl.E :Env:=V.mkE V.tys [(220,Qd.con)] [(6,[1,2,3,7,8],[]),(12,[1,2,3,7,8,9],[]),(19,[1,2,3,7,8,9,41],[])] [(8,17)] [] [] []
abbrev Zl.kt (x0:Zc)(x1:List Int)(x2:List Z9):Kt Int:=ktOf Zl.E Zl.con f194 ((x0.1,x0.2,x1,x2):List Int×Int×List Int×List Z9)
abbrev Zl.s19 (x0:Zc)(x1:List Int)(x2:List Z9)(aA:Int)(aD:Int)(aW:Int)(eW:Bool):St:=⟨[(1, .v false [.val (.sl (ci .nil) x1)]),(2, .v false [.val (.sl (ci (ci .nil)) x2)]),(3, .v false [.ptr 64000 0]),(7, .v false [.vi (aA)]),(8, .v false [.vi (aD)]),(9, .v false [.vi (aW)]),(41, .v false [.val (.bool eW)])],[(64000, .box [.val (.sl (ci .nil) x0.1), .vi (x0.2)])]⟩
abbrev Zl.s12 (x0:Zc)(x1:List Int)(x2:List Z9)(aA:Int)(aD:Int)(aW:Int):St:=⟨[(1, .v false [.val (.sl (ci .nil) x1)]),(2, .v false [.val (.sl (ci (ci .nil)) x2)]),(3, .v false [.ptr 64000 0]),(7, .v false [.vi (aA)]),(8, .v false [.vi (aD)]),(9, .v false [.vi (aW)])],[(64000, .box [.val (.sl (ci .nil) x0.1), .vi (x0.2)])]⟩
abbrev Zl.s6 (x0:Zc)(x1:List Int)(x2:List Z9)(aA:Int)(aD:Int):St:=⟨[(1, .v false [.val (.sl (ci .nil) x1)]),(2, .v false [.val (.sl (ci (ci .nil)) x2)]),(3, .v false [.ptr 64000 0]),(7, .v false [.vi (aA)]),(8, .v false [.vi (aD)])],[(64000, .box [.val (.sl (ci .nil) x0.1), .vi (x0.2)])]⟩
theorem Zl.r19 (x0:Zc)(x1:List Int)(x2:List Z9)(aW:Int)(aA:Int)(aD:Int)(R6:St->Option Int)(R12:St->Option Int)(eW:Bool):joinF Zl.E f194.ntmps [1,1,0,1,0,0,1,0,0,1,0,0,1,0,0] [R6,R12] (codeOf f194) (Zl.kt x0 x1 x2) (Zl.s19 x0 x1 x2 aA aD aW eW)=Zl.g19 x0 x1 x2 aA aD aW (λaA aD=>R6 (Zl.s6 x0 x1 x2 aA aD)) (λaW=>R12 (Zl.s12 x0 x1 x2 aA aD aW)) eW:=by kernel_rfl
theorem Zl.e19 (x0:Zc)(x1:List Int)(x2:List Z9)(aW:Int)(aA:Int)(aD:Int)(R6:St->Option Int)(R12:St->Option Int)(eW:Bool):jn (joinF Zl.E f194.ntmps [1,1,0,1,0,0,1,0,0,1,0,0,1,0,0] [R6,R12] (codeOf f194) (Zl.kt x0 x1 x2)) (Zl.s19 x0 x1 x2 aA aD aW eW)=Zl.l19 x0 x1 x2 aA aD aW (λaA aD=>R6 (Zl.s6 x0 x1 x2 aA aD)) (λaW=>R12 (Zl.s12 x0 x1 x2 aA aD aW)) eW:=by
 rw[jn_eq,Zl.r19]
 rfl
theorem Zl.r12 (x0:Zc)(x1:List Int)(x2:List Z9)(aA:Int)(aD:Int)(R6:St->Option Int)(R:St->Option Int)(aW:Int):loopF Zl.E f194.ntmps [1,1,0,1,0,0,1,0,0,1,0] [R6] (codeOf f194) (Zl.kt x0 x1 x2) R (Zl.s12 x0 x1 x2 aA aD aW)=Zl.g12 x0 x1 x2 aA aD (λaA aD=>R6 (Zl.s6 x0 x1 x2 aA aD)) (λaW=>R (Zl.s12 x0 x1 x2 aA aD aW)) (λeW=>jn (joinF Zl.E f194.ntmps [1,1,0,1,0,0,1,0,0,1,0,0,1,0,0] [R6,R] (codeOf f194) (Zl.kt x0 x1 x2)) (Zl.s19 x0 x1 x2 aA aD aW eW)) aW:=by kernel_rfl
theorem Zl.e12 (x0:Zc)(x1:List Int)(x2:List Z9)(aA:Int)(aD:Int)(R6:St->Option Int):∀(n:Nat) (aW:Int),loopN (loopF Zl.E f194.ntmps [1,1,0,1,0,0,1,0,0,1,0] [R6] (codeOf f194) (Zl.kt x0 x1 x2)) n (Zl.s12 x0 x1 x2 aA aD aW)=Zl.l12 x0 x1 x2 aA aD (λaA aD=>R6 (Zl.s6 x0 x1 x2 aA aD)) n aW:=by
 intro n
 induction n with
 |zero=>intros;rw[loopN_z];rfl
 |succ n ih=>
  intro aW
  rw[loopN_s,Zl.r12]
  simp only[Zl.e19,ih]
  first|exact(Zl.u12 ..).symm|rfl
theorem Zl.r6 (x0:Zc)(x1:List Int)(x2:List Z9)(R:St->Option Int)(aA:Int)(aD:Int):loopF Zl.E f194.ntmps [1,1,0,1,0] [] (codeOf f194) (Zl.kt x0 x1 x2) R (Zl.s6 x0 x1 x2 aA aD)=Zl.g6 x0 x1 x2 (λaA aD=>R (Zl.s6 x0 x1 x2 aA aD)) (λaW=>loopN (loopF Zl.E f194.ntmps [1,1,0,1,0,0,1,0,0,1,0] [R] (codeOf f194) (Zl.kt x0 x1 x2)) V.KK (Zl.s12 x0 x1 x2 aA aD aW)) aA aD:=by kernel_rfl
theorem Zl.e6 (x0:Zc)(x1:List Int)(x2:List Z9):∀(n:Nat) (aA:Int) (aD:Int),loopN (loopF Zl.E f194.ntmps [1,1,0,1,0] [] (codeOf f194) (Zl.kt x0 x1 x2)) n (Zl.s6 x0 x1 x2 aA aD)=Zl.l6 x0 x1 x2 n aA aD:=by
 intro n
 induction n with
 |zero=>intros;rw[loopN_z];rfl
 |succ n ih=>
  intro aA aD
  rw[loopN_s,Zl.r6]
  simp only[Zl.e12,ih]
  first|exact(Zl.u6 ..).symm|rfl
theorem Zl.v (x0:Zc)(x1:List Int)(x2:List Z9):V.evBody Zl.E Zl.con f194 ((x0.1,x0.2,x1,x2):List Int×Int×List Int×List Z9)=Zl.b x0 x1 x2 (λaA aD=>loopN (loopF Zl.E f194.ntmps [1,1,0,1,0] [] (codeOf f194) (Zl.kt x0 x1 x2)) V.KK (Zl.s6 x0 x1 x2 aA aD)):=by kernel_rfl
theorem Zl.eq (x0:Zc)(x1:List Int)(x2:List Z9):V.evBody Zl.E Zl.con f194 ((x0.1,x0.2,x1,x2):List Int×Int×List Int×List Z9)=Zl x0 x1 x2:=by
 rw[Zl.v]
 simp only[Zl.e6]
 rfl
theorem Zl.ok :V.Valid prog 194 Zl.con:=
 V.fo (tab_cons Qd.ok tab_nil) func194 (by kernel_rfl) (λx y h=>(show V.evBody Zl.E Zl.con f194 x=_ from Zl.eq (x.1,x.2.1) x.2.2.1 x.2.2.2).trans (V.cfl (by kernel_rfl) h))
abbrev Ui.con :V.Con:=⟨(.cons (.sl (ci .nil)) (ci (.cons (.sl (ci .nil)) (.cons (.sl (ci (ci .nil))) .nil)))),(.cons .bool .nil),λ(x:List Int×Int×List Int×List Z9)=>Ui (x.1,x.2.1) x.2.2.1 x.2.2.2,[],[(true,2),(false,1),(false,1)],[(false,1)],[false],[]⟩
abbrev Ui.E :Env:=V.mkE V.tys [(191,ZV.con),(194,Zl.con)] [] [(1,9)] [] [] []
theorem Ui.eq (x0:Zc)(x1:List Int)(x2:List Z9):V.evBody Ui.E Ui.con f162 ((x0.1,x0.2,x1,x2):List Int×Int×List Int×List Z9)=Ui x0 x1 x2:=by kernel_rfl
theorem Ui.ok :V.Valid prog 162 Ui.con:=
 V.fo (tab_cons ZV.ok (tab_cons Zl.ok tab_nil)) func162 (by kernel_rfl) (λx y h=>(show V.evBody Ui.E Ui.con f162 x=_ from Ui.eq (x.1,x.2.1) x.2.2.1 x.2.2.2).trans (V.cfl (by kernel_rfl) h))
abbrev XT.con :V.Con:=⟨V.A2,(.cons .bool .nil),λ(x:V.D2)=>XT (V.p2_0 x),[],[(true,17)],[(false,1)],[false],[]⟩
abbrev XT.E :Env:=V.mkE V.tys [(160,Zm.con),(161,Uk.con),(162,Ui.con),(163,Xm.con)] [] [(2,34)] [] [] []
abbrev XT.kt (x0:Z4):Kt Bool:=ktOf XT.E XT.con f124 (V.fl2 x0)
abbrev XT.s (x0:Z4):St:=⟨[(0, .v true (V.lsSigned x0))],[]⟩
theorem XT.v0 (x0:Z4):V.evBody XT.E XT.con f124 (V.fl2 x0)=evC XT.E f124.ntmps (codeOf f124) (XT.kt x0) (XT.s x0):=by kernel_rfl
theorem XT.v (x0:Z4):evC XT.E f124.ntmps (codeOf f124) (XT.kt x0) (XT.s x0)=XT x0:=by kernel_rfl
theorem XT.eq (x0:Z4):V.evBody XT.E XT.con f124 (V.fl2 x0)=XT x0:=(XT.v0 x0).trans (XT.v x0)
theorem XT.ok :V.Valid prog 124 XT.con:=
 V.fo (tab_cons Zm.ok (tab_cons Uk.ok (tab_cons Ui.ok (tab_cons Xm.ok tab_nil)))) func124 (by kernel_rfl) (λx y h=>(show V.evBody XT.E XT.con f124 x=_ from XT.eq (V.p2_0 x)).trans (V.cfl (by kernel_rfl) h))
abbrev Xt.con :V.Con:=⟨V.A0,(ci .nil),λ(x:V.D0)=>Xt (V.p0_0 x),[],[(true,16)],[(false,1)],[false],[]⟩
abbrev Xt.E :Env:=V.mkE V.tys [(157,ZF.con),(163,Xm.con)] [] [] [] [] []
abbrev Xt.kt (x0:Z5):Kt Int:=ktOf Xt.E Xt.con f133 (V.fl0 x0)
abbrev Xt.s (x0:Z5):St:=⟨[(0, .v true (V.lsHead x0))],[]⟩
theorem Xt.v0 (x0:Z5):V.evBody Xt.E Xt.con f133 (V.fl0 x0)=evC Xt.E f133.ntmps (codeOf f133) (Xt.kt x0) (Xt.s x0):=by kernel_rfl
theorem Xt.v (x0:Z5):evC Xt.E f133.ntmps (codeOf f133) (Xt.kt x0) (Xt.s x0)=Xt x0:=by kernel_rfl
theorem Xt.eq (x0:Z5):V.evBody Xt.E Xt.con f133 (V.fl0 x0)=Xt x0:=(Xt.v0 x0).trans (Xt.v x0)
theorem Xt.ok :V.Valid prog 133 Xt.con:=
 V.fo (tab_cons ZF.ok (tab_cons Xm.ok tab_nil)) func133 (by kernel_rfl) (λx y h=>(show V.evBody Xt.E Xt.con f133 x=_ from Xt.eq (V.p0_0 x)).trans (V.cfl (by kernel_rfl) h))
abbrev XX.con :V.Con:=⟨V.A3,(ci .nil),λ(x:V.D3)=>XX (V.p3_0 x) (V.p3_1 x),[],[(true,16),(true,16)],[(false,1)],[false],[]⟩
abbrev XX.E :Env:=V.mkE V.tys [] [] [] [] [] []
abbrev XX.kt (x0:Z5)(x1:Z5):Kt Int:=ktOf XX.E XX.con f195 (V.fl3 x0 x1)
abbrev XX.s (x0:Z5)(x1:Z5):St:=⟨[(0, .v true (V.lsHead x0)),(1, .v true (V.lsHead x1))],[]⟩
theorem XX.v0 (x0:Z5)(x1:Z5):V.evBody XX.E XX.con f195 (V.fl3 x0 x1)=evC XX.E f195.ntmps (codeOf f195) (XX.kt x0 x1) (XX.s x0 x1):=by kernel_rfl
theorem XX.v (x0:Z5)(x1:Z5):evC XX.E f195.ntmps (codeOf f195) (XX.kt x0 x1) (XX.s x0 x1)=XX x0 x1:=by kernel_rfl
theorem XX.eq (x0:Z5)(x1:Z5):V.evBody XX.E XX.con f195 (V.fl3 x0 x1)=XX x0 x1:=(XX.v0 x0 x1).trans (XX.v x0 x1)
theorem XX.ok :V.Valid prog 195 XX.con:=
 V.fo tab_nil func195 (by kernel_rfl) (λx y h=>(show V.evBody XX.E XX.con f195 x=_ from XX.eq (V.p3_0 x) (V.p3_1 x)).trans (V.cfl (by kernel_rfl) h))
abbrev Ye.con :V.Con:=⟨(.cons (.sl (ci .nil)) (.cons (.sl (ci .nil)) .nil)),(.cons .bool .nil),λ(x:List Int×List Int)=>Ye x.1 x.2,[],[(false,1),(false,1)],[(false,1)],[false],[]⟩
abbrev Ye.E :Env:=V.mkE V.tys [] [(8,[0,1,5],[])] [(6,8)] [] [] []
abbrev Ye.kt (x0:List Int)(x1:List Int):Kt Bool:=ktOf Ye.E Ye.con f232 ((x0,x1):List Int×List Int)
abbrev Ye.s8 (x0:List Int)(x1:List Int)(aG:Int):St:=⟨[(0, .v false [.val (.sl (ci .nil) x0)]),(1, .v false [.val (.sl (ci .nil) x1)]),(5, .v false [.vi (aG)])],[]⟩
theorem Ye.r8 (x0:List Int)(x1:List Int)(R:St->Option Bool)(aG:Int):loopF Ye.E f232.ntmps [1,1,0,1,0] [] (codeOf f232) (Ye.kt x0 x1) R (Ye.s8 x0 x1 aG)=Ye.g8 x0 x1 (λaG=>R (Ye.s8 x0 x1 aG)) aG:=by kernel_rfl
theorem Ye.e8 (x0:List Int)(x1:List Int):∀(n:Nat) (aG:Int),loopN (loopF Ye.E f232.ntmps [1,1,0,1,0] [] (codeOf f232) (Ye.kt x0 x1)) n (Ye.s8 x0 x1 aG)=Ye.l8 x0 x1 n aG:=by
 intro n
 induction n with
 |zero=>intros;rw[loopN_z];rfl
 |succ n ih=>
  intro aG
  rw[loopN_s,Ye.r8]
  simp only[ih]
  first|exact(Ye.u8 ..).symm|rfl
theorem Ye.v (x0:List Int)(x1:List Int):V.evBody Ye.E Ye.con f232 ((x0,x1):List Int×List Int)=Ye.b x0 x1 (λaG=>loopN (loopF Ye.E f232.ntmps [1,1,0,1,0] [] (codeOf f232) (Ye.kt x0 x1)) V.KK (Ye.s8 x0 x1 aG)):=by kernel_rfl
theorem Ye.eq (x0:List Int)(x1:List Int):V.evBody Ye.E Ye.con f232 ((x0,x1):List Int×List Int)=Ye x0 x1:=by
 rw[Ye.v]
 simp only[Ye.e8]
 rfl
theorem Ye.ok :V.Valid prog 232 Ye.con:=
 V.fo tab_nil func232 (by kernel_rfl) (λx y h=>(show V.evBody Ye.E Ye.con f232 x=_ from Ye.eq x.1 x.2).trans (V.cfl (by kernel_rfl) h))
abbrev WS.con :V.Con:=⟨(.cons (.sl (ci .nil)) (ci (.cons (.sl (ci .nil)) (ci .nil)))),(.cons .bool .nil),λ(x:List Int×Int×List Int×Int)=>WS (x.1,x.2.1) x.2.2,[],[(true,2),(true,2)],[(false,1)],[false],[]⟩
abbrev WS.E :Env:=V.mkE V.tys [(232,Ye.con)] [] [] [] [] []
theorem WS.eq (x0:Zc)(x1:Zc):V.evBody WS.E WS.con f221 ((x0.1,x0.2,x1.1,x1.2):List Int×Int×List Int×Int)=WS x0 x1:=by kernel_rfl
theorem WS.ok :V.Valid prog 221 WS.con:=
 V.fo (tab_cons Ye.ok tab_nil) func221 (by kernel_rfl) (λx y h=>(show V.evBody WS.E WS.con f221 x=_ from WS.eq (x.1,x.2.1) x.2.2).trans (V.cfl (by kernel_rfl) h))
abbrev XF.con :V.Con:=⟨V.A3,(.cons .bool .nil),λ(x:V.D3)=>XF (V.p3_0 x) (V.p3_1 x),[],[(true,16),(true,16)],[(false,1)],[false],[]⟩
abbrev XF.E :Env:=V.mkE V.tys [] [] [] [] [] []
abbrev XF.kt (x0:Z5)(x1:Z5):Kt Bool:=ktOf XF.E XF.con f222 (V.fl3 x0 x1)
abbrev XF.s (x0:Z5)(x1:Z5):St:=⟨[(0, .v true (V.lsHead x0)),(1, .v true (V.lsHead x1))],[]⟩
theorem XF.v0 (x0:Z5)(x1:Z5):V.evBody XF.E XF.con f222 (V.fl3 x0 x1)=evC XF.E f222.ntmps (codeOf f222) (XF.kt x0 x1) (XF.s x0 x1):=by kernel_rfl
theorem XF.v (x0:Z5)(x1:Z5):evC XF.E f222.ntmps (codeOf f222) (XF.kt x0 x1) (XF.s x0 x1)=XF x0 x1:=by kernel_rfl
theorem XF.eq (x0:Z5)(x1:Z5):V.evBody XF.E XF.con f222 (V.fl3 x0 x1)=XF x0 x1:=(XF.v0 x0 x1).trans (XF.v x0 x1)
theorem XF.ok :V.Valid prog 222 XF.con:=
 V.fo tab_nil func222 (by kernel_rfl) (λx y h=>(show V.evBody XF.E XF.con f222 x=_ from XF.eq (V.p3_0 x) (V.p3_1 x)).trans (V.cfl (by kernel_rfl) h))
abbrev Yn.con :V.Con:=⟨V.A3,(ci .nil),λ(x:V.D3)=>Yn (V.p3_0 x) (V.p3_1 x),[],[(true,16),(true,16)],[(false,1)],[false],[]⟩
abbrev Yn.E :Env:=V.mkE V.tys [(192,WF.con),(221,WS.con),(222,XF.con)] [(9,[2,3,8],[])] [] [] [] []
abbrev Yn.kt (x0:Z5)(x1:Z5):Kt Int:=ktOf Yn.E Yn.con f196 (V.fl3 x0 x1)
abbrev Yn.s9 (x0:Z5)(x1:Z5)(b7:Bool):St:=⟨[(2, .v false [.ptr 64000 0]),(3, .v false [.ptr 64064 0]),(8, .v false [.val (.bool b7)])],[(64000, .box (V.lsHead x0)),(64064, .box (V.lsHead x1))]⟩
theorem Yn.r9 (x0:Z5)(x1:Z5)(b7:Bool):joinF Yn.E f196.ntmps [1,0,0,1,1] [] (codeOf f196) (Yn.kt x0 x1) (Yn.s9 x0 x1 b7)=Yn.g9 x0 x1 b7:=by kernel_rfl
theorem Yn.e9 (x0:Z5)(x1:Z5)(b7:Bool):jn (joinF Yn.E f196.ntmps [1,0,0,1,1] [] (codeOf f196) (Yn.kt x0 x1)) (Yn.s9 x0 x1 b7)=Yn.l9 x0 x1 b7:=by
 rw[jn_eq,Yn.r9]
 rfl
abbrev Yn.s (x0:Z5)(x1:Z5):St:=⟨[(0, .v true (V.lsHead x0)),(1, .v true (V.lsHead x1))],[]⟩
theorem Yn.v0 (x0:Z5)(x1:Z5):V.evBody Yn.E Yn.con f196 (V.fl3 x0 x1)=evC Yn.E f196.ntmps (codeOf f196) (Yn.kt x0 x1) (Yn.s x0 x1):=by kernel_rfl
theorem Yn.v (x0:Z5)(x1:Z5):evC Yn.E f196.ntmps (codeOf f196) (Yn.kt x0 x1) (Yn.s x0 x1)=Yn.b x0 x1 (λb7=>jn (joinF Yn.E f196.ntmps [1,0,0,1,1] [] (codeOf f196) (Yn.kt x0 x1)) (Yn.s9 x0 x1 b7)):=by kernel_rfl
theorem Yn.eq (x0:Z5)(x1:Z5):V.evBody Yn.E Yn.con f196 (V.fl3 x0 x1)=Yn x0 x1:=by
 rw[Yn.v0,Yn.v]
 simp only[Yn.e9]
 rfl
theorem Yn.ok :V.Valid prog 196 Yn.con:=
 V.fo (tab_cons WF.ok (tab_cons WS.ok (tab_cons XF.ok tab_nil))) func196 (by kernel_rfl) (λx y h=>(show V.evBody Yn.E Yn.con f196 x=_ from Yn.eq (V.p3_0 x) (V.p3_1 x)).trans (V.cfl (by kernel_rfl) h))
abbrev Yo.con :V.Con:=⟨V.A3,(ci .nil),λ(x:V.D3)=>Yo (V.p3_0 x) (V.p3_1 x),[],[(true,16),(true,16)],[(false,1)],[false],[]⟩
abbrev Yo.E :Env:=V.mkE V.tys [(192,WF.con),(221,WS.con),(222,XF.con)] [(9,[2,3,9],[])] [] [] [] []
abbrev Yo.kt (x0:Z5)(x1:Z5):Kt Int:=ktOf Yo.E Yo.con f197 (V.fl3 x0 x1)
abbrev Yo.s9 (x0:Z5)(x1:Z5)(b7:Bool):St:=⟨[(2, .v false [.ptr 64000 0]),(3, .v false [.ptr 64064 0]),(9, .v false [.val (.bool b7)])],[(64000, .box (V.lsHead x0)),(64064, .box (V.lsHead x1))]⟩
theorem Yo.r9 (x0:Z5)(x1:Z5)(b7:Bool):joinF Yo.E f197.ntmps [1,0,0,1,1] [] (codeOf f197) (Yo.kt x0 x1) (Yo.s9 x0 x1 b7)=Yo.g9 x0 x1 b7:=by kernel_rfl
theorem Yo.e9 (x0:Z5)(x1:Z5)(b7:Bool):jn (joinF Yo.E f197.ntmps [1,0,0,1,1] [] (codeOf f197) (Yo.kt x0 x1)) (Yo.s9 x0 x1 b7)=Yo.l9 x0 x1 b7:=by
 rw[jn_eq,Yo.r9]
 rfl
abbrev Yo.s (x0:Z5)(x1:Z5):St:=⟨[(0, .v true (V.lsHead x0)),(1, .v true (V.lsHead x1))],[]⟩
theorem Yo.v0 (x0:Z5)(x1:Z5):V.evBody Yo.E Yo.con f197 (V.fl3 x0 x1)=evC Yo.E f197.ntmps (codeOf f197) (Yo.kt x0 x1) (Yo.s x0 x1):=by kernel_rfl
theorem Yo.v (x0:Z5)(x1:Z5):evC Yo.E f197.ntmps (codeOf f197) (Yo.kt x0 x1) (Yo.s x0 x1)=Yo.b x0 x1 (λb7=>jn (joinF Yo.E f197.ntmps [1,0,0,1,1] [] (codeOf f197) (Yo.kt x0 x1)) (Yo.s9 x0 x1 b7)):=by kernel_rfl
theorem Yo.eq (x0:Z5)(x1:Z5):V.evBody Yo.E Yo.con f197 (V.fl3 x0 x1)=Yo x0 x1:=by
 rw[Yo.v0,Yo.v]
 simp only[Yo.e9]
 rfl
theorem Yo.ok :V.Valid prog 197 Yo.con:=
 V.fo (tab_cons WF.ok (tab_cons WS.ok (tab_cons XF.ok tab_nil))) func197 (by kernel_rfl) (λx y h=>(show V.evBody Yo.E Yo.con f197 x=_ from Yo.eq (V.p3_0 x) (V.p3_1 x)).trans (V.cfl (by kernel_rfl) h))
abbrev Zn.con :V.Con:=⟨V.A4,(ci .nil),λ(x:V.D4)=>Zn (V.p4_0 x) (V.p4_1 x),[],[(true,16),(true,17)],[(false,1)],[false],[]⟩
abbrev Zn.E :Env:=V.mkE V.tys [(133,Xt.con),(160,Zm.con),(162,Ui.con),(163,Xm.con),(195,XX.con),(196,Yn.con),(197,Yo.con)] [(9,[2,3,5],[]),(13,[2,3,5],[]),(31,[3,5,6,7],[])] [(4,25),(15,8)] [] [] []
abbrev Zn.kt (x0:Z5)(x1:Z4):Kt Int:=ktOf Zn.E Zn.con f164 (V.fl4 x0 x1)
abbrev Zn.s31 (x1:Z4)(dQ:Int)(fD:List Int)(fE:Int):St:=⟨[(3, .v false [.ptr 64064 0]),(5, .v false [.ptr 128128 0]),(6, .v false [.vi (dQ)]),(7, .v false [.ptr 512128 0])],[(64064, .box (V.lsSigned x1)),(128128, .box [.vi (x1.1), .vi (x1.2.1), .vi (x1.2.2.1), .vi (x1.2.2.2.1), .vi (x1.2.2.2.2.1), .vi (x1.2.2.2.2.2.1), .vi (x1.2.2.2.2.2.2.1), .vi (x1.2.2.2.2.2.2.2.1), .val (.sl (ci .nil) x1.2.2.2.2.2.2.2.2.1), .vi (x1.2.2.2.2.2.2.2.2.2.1), .val (.sl (ci .nil) x1.2.2.2.2.2.2.2.2.2.2.1), .vi (x1.2.2.2.2.2.2.2.2.2.2.2.1), .vi (x1.2.2.2.2.2.2.2.2.2.2.2.2.1), .val (.sl (ci .nil) x1.2.2.2.2.2.2.2.2.2.2.2.2.2.1), .vi (x1.2.2.2.2.2.2.2.2.2.2.2.2.2.2.1), .val (.bool x1.2.2.2.2.2.2.2.2.2.2.2.2.2.2.2.1)]),(512128, .box [.val (.sl (ci .nil) fD), .vi (fE)])]⟩
abbrev Zn.s13 (x0:Z5)(x1:Z4):St:=⟨[(2, .v false [.ptr 64000 0]),(3, .v false [.ptr 64064 0]),(5, .v false [.ptr 128128 0])],[(64000, .box (V.lsHead x0)),(64064, .box (V.lsSigned x1)),(128128, .box [.vi (x1.1), .vi (x1.2.1), .vi (x1.2.2.1), .vi (x1.2.2.2.1), .vi (x1.2.2.2.2.1), .vi (x1.2.2.2.2.2.1), .vi (x1.2.2.2.2.2.2.1), .vi (x1.2.2.2.2.2.2.2.1), .val (.sl (ci .nil) x1.2.2.2.2.2.2.2.2.1), .vi (x1.2.2.2.2.2.2.2.2.2.1), .val (.sl (ci .nil) x1.2.2.2.2.2.2.2.2.2.2.1), .vi (x1.2.2.2.2.2.2.2.2.2.2.2.1), .vi (x1.2.2.2.2.2.2.2.2.2.2.2.2.1), .val (.sl (ci .nil) x1.2.2.2.2.2.2.2.2.2.2.2.2.2.1), .vi (x1.2.2.2.2.2.2.2.2.2.2.2.2.2.2.1), .val (.bool x1.2.2.2.2.2.2.2.2.2.2.2.2.2.2.2.1)])]⟩
abbrev Zn.s9 (x0:Z5)(x1:Z4):St:=⟨[(2, .v false [.ptr 64000 0]),(3, .v false [.ptr 64064 0]),(5, .v false [.ptr 128128 0])],[(64000, .box (V.lsHead x0)),(64064, .box (V.lsSigned x1)),(128128, .box [.vi (x1.1), .vi (x1.2.1), .vi (x1.2.2.1), .vi (x1.2.2.2.1), .vi (x1.2.2.2.2.1), .vi (x1.2.2.2.2.2.1), .vi (x1.2.2.2.2.2.2.1), .vi (x1.2.2.2.2.2.2.2.1), .val (.sl (ci .nil) x1.2.2.2.2.2.2.2.2.1), .vi (x1.2.2.2.2.2.2.2.2.2.1), .val (.sl (ci .nil) x1.2.2.2.2.2.2.2.2.2.2.1), .vi (x1.2.2.2.2.2.2.2.2.2.2.2.1), .vi (x1.2.2.2.2.2.2.2.2.2.2.2.2.1), .val (.sl (ci .nil) x1.2.2.2.2.2.2.2.2.2.2.2.2.2.1), .vi (x1.2.2.2.2.2.2.2.2.2.2.2.2.2.2.1), .val (.bool x1.2.2.2.2.2.2.2.2.2.2.2.2.2.2.2.1)])]⟩
theorem Zn.r31 (x0:Z5)(x1:Z4)(dQ:Int)(fD:List Int)(fE:Int):joinF Zn.E f164.ntmps [1,1,1,1,1,1] [] (codeOf f164) (Zn.kt x0 x1) (Zn.s31 x1 dQ fD fE)=Zn.g31 x1 dQ fD fE:=by kernel_rfl
theorem Zn.e31 (x0:Z5)(x1:Z4)(dQ:Int)(fD:List Int)(fE:Int):jn (joinF Zn.E f164.ntmps [1,1,1,1,1,1] [] (codeOf f164) (Zn.kt x0 x1)) (Zn.s31 x1 dQ fD fE)=Zn.l31 x1 dQ fD fE:=by
 rw[jn_eq,Zn.r31]
 rfl
theorem Zn.r13 (x0:Z5)(x1:Z4):joinF Zn.E f164.ntmps [1,1,1] [] (codeOf f164) (Zn.kt x0 x1) (Zn.s13 x0 x1)=Zn.g13 x0 x1 (λdQ fD fE=>jn (joinF Zn.E f164.ntmps [1,1,1,1,1,1] [] (codeOf f164) (Zn.kt x0 x1)) (Zn.s31 x1 dQ fD fE)):=by kernel_rfl
theorem Zn.e13 (x0:Z5)(x1:Z4):jn (joinF Zn.E f164.ntmps [1,1,1] [] (codeOf f164) (Zn.kt x0 x1)) (Zn.s13 x0 x1)=Zn.l13 x0 x1:=by
 rw[jn_eq,Zn.r13]
 simp only[Zn.e31]
 rfl
theorem Zn.r9 (x0:Z5)(x1:Z4):joinF Zn.E f164.ntmps [1,1] [] (codeOf f164) (Zn.kt x0 x1) (Zn.s9 x0 x1)=Zn.g9 x0 x1 (jn (joinF Zn.E f164.ntmps [1,1,1] [] (codeOf f164) (Zn.kt x0 x1)) (Zn.s13 x0 x1)):=by kernel_rfl
theorem Zn.e9 (x0:Z5)(x1:Z4):jn (joinF Zn.E f164.ntmps [1,1] [] (codeOf f164) (Zn.kt x0 x1)) (Zn.s9 x0 x1)=Zn.l9 x0 x1:=by
 rw[jn_eq,Zn.r9]
 simp only[Zn.e13]
 rfl
abbrev Zn.s (x0:Z5)(x1:Z4):St:=⟨[(0, .v true (V.lsHead x0)),(1, .v true (V.lsSigned x1))],[]⟩
theorem Zn.v0 (x0:Z5)(x1:Z4):V.evBody Zn.E Zn.con f164 (V.fl4 x0 x1)=evC Zn.E f164.ntmps (codeOf f164) (Zn.kt x0 x1) (Zn.s x0 x1):=by kernel_rfl
theorem Zn.v (x0:Z5)(x1:Z4):evC Zn.E f164.ntmps (codeOf f164) (Zn.kt x0 x1) (Zn.s x0 x1)=Zn.b x0 x1 (jn (joinF Zn.E f164.ntmps [1,1] [] (codeOf f164) (Zn.kt x0 x1)) (Zn.s9 x0 x1)):=by kernel_rfl
theorem Zn.eq (x0:Z5)(x1:Z4):V.evBody Zn.E Zn.con f164 (V.fl4 x0 x1)=Zn x0 x1:=by
 rw[Zn.v0,Zn.v]
 simp only[Zn.e9]
 rfl
theorem Zn.ok :V.Valid prog 164 Zn.con:=
 V.fo (tab_cons Xt.ok (tab_cons Zm.ok (tab_cons Ui.ok (tab_cons Xm.ok (tab_cons XX.ok (tab_cons Yn.ok (tab_cons Yo.ok tab_nil))))))) func164 (by kernel_rfl) (λx y h=>(show V.evBody Zn.E Zn.con f164 x=_ from Zn.eq (V.p4_0 x) (V.p4_1 x)).trans (V.cfl (by kernel_rfl) h))
abbrev XU.con :V.Con:=⟨V.A4,(.cons .bool .nil),λ(x:V.D4)=>XU (V.p4_0 x) (V.p4_1 x),[],[(true,16),(true,17)],[(false,1)],[false],[]⟩
abbrev XU.E :Env:=V.mkE V.tys [(164,Zn.con)] [] [] [] [] []
abbrev XU.kt (x0:Z5)(x1:Z4):Kt Bool:=ktOf XU.E XU.con f125 (V.fl4 x0 x1)
abbrev XU.s (x0:Z5)(x1:Z4):St:=⟨[(0, .v true (V.lsHead x0)),(1, .v true (V.lsSigned x1))],[]⟩
theorem XU.v0 (x0:Z5)(x1:Z4):V.evBody XU.E XU.con f125 (V.fl4 x0 x1)=evC XU.E f125.ntmps (codeOf f125) (XU.kt x0 x1) (XU.s x0 x1):=by kernel_rfl
theorem XU.v (x0:Z5)(x1:Z4):evC XU.E f125.ntmps (codeOf f125) (XU.kt x0 x1) (XU.s x0 x1)=XU x0 x1:=by kernel_rfl
theorem XU.eq (x0:Z5)(x1:Z4):V.evBody XU.E XU.con f125 (V.fl4 x0 x1)=XU x0 x1:=(XU.v0 x0 x1).trans (XU.v x0 x1)
theorem XU.ok :V.Valid prog 125 XU.con:=
 V.fo (tab_cons Zn.ok tab_nil) func125 (by kernel_rfl) (λx y h=>(show V.evBody XU.E XU.con f125 x=_ from XU.eq (V.p4_0 x) (V.p4_1 x)).trans (V.cfl (by kernel_rfl) h))
abbrev Yq.con :V.Con:=⟨(.cons (.sl V.eSigned) .nil),(ci .nil),λ(x:List Z4)=>Yq x,[],[(false,1)],[(false,1)],[false],[]⟩
abbrev Yq.E :Env:=V.mkE V.tys [(124,XT.con),(125,XU.con)] [(4,[0,3],[])] [(4,23)] [] [] []
abbrev Yq.kt (x0:List Z4):Kt Int:=ktOf Yq.E Yq.con f87 ((x0):List Z4)
abbrev Yq.s4 (x0:List Z4)(aI:Int):St:=⟨[(0, .v false [.val (.sl V.eSigned x0)]),(3, .v false [.vi (aI)])],[]⟩
theorem Yq.r4 (x0:List Z4)(R:St->Option Int)(aI:Int):loopF Yq.E f87.ntmps [1,0,1,0] [] (codeOf f87) (Yq.kt x0) R (Yq.s4 x0 aI)=Yq.g4 x0 (λaI=>R (Yq.s4 x0 aI)) aI:=by kernel_rfl
theorem Yq.e4 (x0:List Z4):∀(n:Nat) (aI:Int),loopN (loopF Yq.E f87.ntmps [1,0,1,0] [] (codeOf f87) (Yq.kt x0)) n (Yq.s4 x0 aI)=Yq.l4 x0 n aI:=by
 intro n
 induction n with
 |zero=>intros;rw[loopN_z];rfl
 |succ n ih=>
  intro aI
  rw[loopN_s,Yq.r4]
  simp only[ih]
  first|exact(Yq.u4 ..).symm|rfl
theorem Yq.v (x0:List Z4):V.evBody Yq.E Yq.con f87 ((x0):List Z4)=Yq.b x0 (λaI=>loopN (loopF Yq.E f87.ntmps [1,0,1,0] [] (codeOf f87) (Yq.kt x0)) V.KK (Yq.s4 x0 aI)):=by kernel_rfl
theorem Yq.eq (x0:List Z4):V.evBody Yq.E Yq.con f87 ((x0):List Z4)=Yq x0:=by
 rw[Yq.v]
 simp only[Yq.e4]
 rfl
theorem Yq.ok :V.Valid prog 87 Yq.con:=
 V.fo (tab_cons XT.ok (tab_cons XU.ok tab_nil)) func87 (by kernel_rfl) (λx y h=>(show V.evBody Yq.E Yq.con f87 x=_ from Yq.eq x).trans (V.cfl (by kernel_rfl) h))
abbrev Qb.con :V.Con:=⟨(.cons (.sl V.eSigned) .nil),(.cons .bool .nil),λ(x:List Z4)=>Qb x,[],[(false,1)],[(false,1)],[false],[]⟩
abbrev Qb.E :Env:=V.mkE V.tys [(38,Y3.con),(87,Yq.con)] [] [] [] [] []
theorem Qb.eq (x0:List Z4):V.evBody Qb.E Qb.con f48 ((x0):List Z4)=Qb x0:=by kernel_rfl
theorem Qb.ok :V.Valid prog 48 Qb.con:=
 V.fo (tab_cons Y3.ok (tab_cons Yq.ok tab_nil)) func48 (by kernel_rfl) (λx y h=>(show V.evBody Qb.E Qb.con f48 x=_ from Qb.eq x).trans (V.cfl (by kernel_rfl) h))
abbrev W6.con :V.Con:=⟨(.cons (.sl V.eSigned) .nil),V.eRHeadBool,λ(x:List Z4)=>W6 x,[],[(false,1)],[(true,16),(false,1)],[false,false,false,false,false,false,false,false,true,false,true,false,false,true,false,false,false],[]⟩
abbrev W6.E :Env:=V.mkE V.tys [(48,Qb.con),(49,Xj.con)] [] [] [] [] []
theorem W6.eq (x0:List Z4):V.evBody W6.E W6.con f13 ((x0):List Z4)=W6 x0:=by kernel_rfl
theorem W6.ok :V.Valid prog 13 W6.con:=
 V.fo (tab_cons Qb.ok (tab_cons Xj.ok tab_nil)) func13 (by kernel_rfl) (λx y h=>(show V.evBody W6.E W6.con f13 x=_ from W6.eq x).trans (V.cfl (by kernel_rfl) h))
abbrev Xu.con :V.Con:=⟨(.cons (.ptr (.cons (.sl (.cons (.int .u8) .nil)) (ci (ci .nil)))) (ci .nil)),(.cons (.ptr (.cons (.sl (.cons (.int .u8) .nil)) (ci (ci .nil)))) (.cons .bool .nil)),λ(x:(Z3)×Int)=>Xu x.1 x.2,[(0,false)],[(false,1),(false,1)],[(false,1)],[false],[]⟩
abbrev Xu.E :Env:=V.mkE V.tys [(53,Zd.con)] [] [] [] [] []
theorem Xu.eq (x0:(Z3))(x1:Int):V.evBody Xu.E Xu.con f55 ((x0,x1):(Z3)×Int)=Xu x0 x1:=by kernel_rfl
theorem Xu.ok :V.Valid prog 55 Xu.con:=
 V.fo (tab_cons Zd.ok tab_nil) func55 (by kernel_rfl) (λx y h=>(show V.evBody Xu.E Xu.con f55 x=_ from Xu.eq x.1 x.2).trans (V.cfl (by kernel_rfl) h))
abbrev Ze.con :V.Con:=⟨V.A5,(.cons (.ptr (.cons (.sl (.cons (.int .u8) .nil)) (ci (ci .nil)))) (ci (ci (ci (ci (ci (ci (ci (ci (.cons (.sl (ci .nil)) (ci (.cons (.sl (ci .nil)) (ci (ci (.cons (.sl (ci .nil)) (ci (.cons .bool (.cons (.sl (ci (ci .nil))) .nil)))))))))))))))))),λ(x:V.D5)=>Ze (V.p5_0 x) (V.p5_1 x),[(0,false)],[(false,1),(true,16)],[(true,17)],[false,false,false,false,false,false,false,false,true,false,true,false,false,true,false,false,true],[]⟩
abbrev Ze.E :Env:=V.mkE V.tys [(49,Xj.con),(53,Zd.con),(55,Xu.con),(88,Wx.con),(96,ZG.con),(119,Wp.con),(133,Xt.con),(134,ZI.con),(135,Xc.con)] [(11,[0,3,4,5],[]),(13,[0,3,4,5],[]),(25,[0,3,4,5,6],[]),(27,[0,3,4,5,6],[]),(41,[0,4,5,6,73],[]),(63,[0,4,5,6],[])] [] [] [] [(4,[1000]),(5,[1000]),(11,[1000]),(12,[1000])]
abbrev Ze.kt (x0:(Z3))(x1:Z5):Kt ((Z3)×Int×Int×Int×Int×Int×Int×Int×Int×List Int×Int×List Int×Int×Int×List Int×Int×Bool×List Z9):=ktOf Ze.E Ze.con f95 (V.fl5 x0 x1)
abbrev Ze.s63 (x0:(Z3))(aP:Int)(y1:Z5)(y2:Int)(d9:Int)(dC:Int)(dA:Int)(dB:Int)(dD:Int)(dE:Int)(dF:Int)(dG:Int)(dH:Int)(dI:Int)(dJ:Int)(dK:Bool)(dL:List Int)(dM:List Int)(dN:List Int)(d8:List Int)(dO:Int):St:=⟨[(0, .v false [.ptr 0 0]),(4, .v false [.ptr 64064 0]),(5, .v false [.ptr 128128 0]),(6, .v false [.ptr 512128 0])],[(0, .box [.val (.sl (.cons (.int .u8) .nil) x0.1), .vi (d9), .vi (dC)]),(64064, .box [.vi ((0:Int)), .vi ((0:Int)), .vi ((0:Int)), .vi ((0:Int)), .vi ((0:Int)), .vi ((0:Int)), .vi ((0:Int)), .vi ((0:Int)), .nil0, .vi ((0:Int)), .nil0, .vi ((0:Int)), .vi ((0:Int)), .nil0, .vi ((0:Int)), .val (.bool false), .nil0]),(128128, .box [.vi (y1.1), .vi (aP), .vi (dA), .vi (dB), .vi (dD), .vi (dE), .vi (dF), .vi (y2), .ref 64000000000008200200, .vi (dG), .ref 64000000000008200202, .vi (dH), .vi (dI), .ref 64000000000008200205, .vi (dJ), .val (.bool dK)]),(64000000000008200200, .row (ci .nil) true dL),(64000000000008200202, .row (ci .nil) true dM),(64000000000008200205, .row (ci .nil) true dN),(512128, .box [.val (.sl (ci .nil) d8), .vi (dO)])]⟩
abbrev Ze.s27 (x0:(Z3))(x1:Z5)(aP:Int)(aY:Int)(y1:Z5)(y2:Int)(eY:Int)(f0:Int)(fB:Int):St:=⟨[(0, .v false [.ptr 0 0]),(3, .v false [.ptr 64000 0]),(4, .v false [.ptr 64064 0]),(5, .v false [.ptr 128128 0]),(6, .v false [.ptr 512128 0])],[(0, .box [.val (.sl (.cons (.int .u8) .nil) x0.1), .vi (eY), .vi (f0)]),(64000, .box (V.lsHead x1)),(64064, .box [.vi ((0:Int)), .vi ((0:Int)), .vi ((0:Int)), .vi ((0:Int)), .vi ((0:Int)), .vi ((0:Int)), .vi ((0:Int)), .vi ((0:Int)), .nil0, .vi ((0:Int)), .nil0, .vi ((0:Int)), .vi ((0:Int)), .nil0, .vi ((0:Int)), .val (.bool false), .nil0]),(128128, .box [.vi (y1.1), .vi (aP), .vi ((2:Int)), .vi (aY), .vi (fB), .vi (y1.2.2.2.2.2.1), .vi (y1.2.2.2.2.2.2.1), .vi (y2), .ref 64000000000008200200, .vi (y1.2.2.2.2.2.2.2.2.2.1), .ref 64000000000008200202, .vi (y1.2.2.2.2.2.2.2.2.2.2.2.1), .vi (y1.2.2.2.2.2.2.2.2.2.2.2.2.1), .ref 64000000000008200205, .vi (y1.2.2.2.2.2.2.2.2.2.2.2.2.2.2.1), .val (.bool y1.2.2.2.2.2.2.2.2.2.2.2.2.2.2.2)]),(64000000000008200200, .row (ci .nil) true y1.2.2.2.2.2.2.2.2.1),(64000000000008200202, .row (ci .nil) true y1.2.2.2.2.2.2.2.2.2.2.1),(64000000000008200205, .row (ci .nil) true y1.2.2.2.2.2.2.2.2.2.2.2.2.2.1),(512128, .box [.val (.sl (ci .nil) x1.2.2.2.2.2.2.2.2.1), .vi (x1.2.2.2.2.2.2.2.2.2.1)])]⟩
abbrev Ze.s25 (x0:(Z3))(x1:Z5)(aP:Int)(bB:Int)(y1:Z5)(y2:Int)(cB:Int)(aX:Int)(aY:Int):St:=⟨[(0, .v false [.ptr 0 0]),(3, .v false [.ptr 64000 0]),(4, .v false [.ptr 64064 0]),(5, .v false [.ptr 128128 0]),(6, .v false [.ptr 512128 0])],[(0, .box [.val (.sl (.cons (.int .u8) .nil) x0.1), .vi (cB), .vi (aX)]),(64000, .box (V.lsHead x1)),(64064, .box [.vi ((0:Int)), .vi ((0:Int)), .vi ((0:Int)), .vi ((0:Int)), .vi ((0:Int)), .vi ((0:Int)), .vi ((0:Int)), .vi ((0:Int)), .nil0, .vi ((0:Int)), .nil0, .vi ((0:Int)), .vi ((0:Int)), .nil0, .vi ((0:Int)), .val (.bool false), .nil0]),(128128, .box [.vi (y1.1), .vi (aP), .vi ((2:Int)), .vi (aY), .vi (bB), .vi (y1.2.2.2.2.2.1), .vi (y1.2.2.2.2.2.2.1), .vi (y2), .ref 64000000000008200200, .vi (y1.2.2.2.2.2.2.2.2.2.1), .ref 64000000000008200202, .vi (y1.2.2.2.2.2.2.2.2.2.2.2.1), .vi (y1.2.2.2.2.2.2.2.2.2.2.2.2.1), .ref 64000000000008200205, .vi (y1.2.2.2.2.2.2.2.2.2.2.2.2.2.2.1), .val (.bool y1.2.2.2.2.2.2.2.2.2.2.2.2.2.2.2)]),(64000000000008200200, .row (ci .nil) true y1.2.2.2.2.2.2.2.2.1),(64000000000008200202, .row (ci .nil) true y1.2.2.2.2.2.2.2.2.2.2.1),(64000000000008200205, .row (ci .nil) true y1.2.2.2.2.2.2.2.2.2.2.2.2.2.1),(512128, .box [.val (.sl (ci .nil) x1.2.2.2.2.2.2.2.2.1), .vi (x1.2.2.2.2.2.2.2.2.2.1)])]⟩
abbrev Ze.s41 (x0:(Z3))(x1:Z5)(aP:Int)(bA:Int)(bB:Int)(y1:Z5)(y2:Int)(fF:Bool)(eK:Int)(eN:Int)(eM:Bool):St:=⟨[(0, .v false [.ptr 0 0]),(4, .v false [.ptr 64064 0]),(5, .v false [.ptr 128128 0]),(6, .v false [.ptr 512128 0]),(73, .v false [.val (.bool fF)])],[(0, .box [.val (.sl (.cons (.int .u8) .nil) x0.1), .vi (eK), .vi (eN)]),(64064, .box [.vi ((0:Int)), .vi ((0:Int)), .vi ((0:Int)), .vi ((0:Int)), .vi ((0:Int)), .vi ((0:Int)), .vi ((0:Int)), .vi ((0:Int)), .nil0, .vi ((0:Int)), .nil0, .vi ((0:Int)), .vi ((0:Int)), .nil0, .vi ((0:Int)), .val (.bool false), .nil0]),(128128, .box [.vi (y1.1), .vi (aP), .vi ((3:Int)), .vi (bA), .vi (bB), .vi (y1.2.2.2.2.2.1), .vi (y1.2.2.2.2.2.2.1), .vi (y2), .ref 64000000000008200200, .vi (y1.2.2.2.2.2.2.2.2.2.1), .ref 64000000000008200202, .vi (y1.2.2.2.2.2.2.2.2.2.2.2.1), .vi (y1.2.2.2.2.2.2.2.2.2.2.2.2.1), .ref 64000000000008200205, .vi (y1.2.2.2.2.2.2.2.2.2.2.2.2.2.2.1), .val (.bool eM)]),(64000000000008200200, .row (ci .nil) true y1.2.2.2.2.2.2.2.2.1),(64000000000008200202, .row (ci .nil) true y1.2.2.2.2.2.2.2.2.2.2.1),(64000000000008200205, .row (ci .nil) true y1.2.2.2.2.2.2.2.2.2.2.2.2.2.1),(512128, .box [.val (.sl (ci .nil) x1.2.2.2.2.2.2.2.2.2.2.2.2.2.1), .vi (x1.2.2.2.2.2.2.2.2.2.2.2.2.2.2.1)])]⟩
abbrev Ze.s13 (x0:(Z3))(x1:Z5)(aP:Int)(bA:Int)(y1:Z5)(y2:Int)(bH:Int)(bI:Int)(bB:Int):St:=⟨[(0, .v false [.ptr 0 0]),(3, .v false [.ptr 64000 0]),(4, .v false [.ptr 64064 0]),(5, .v false [.ptr 128128 0])],[(0, .box [.val (.sl (.cons (.int .u8) .nil) x0.1), .vi (bH), .vi (bI)]),(64000, .box (V.lsHead x1)),(64064, .box [.vi ((0:Int)), .vi ((0:Int)), .vi ((0:Int)), .vi ((0:Int)), .vi ((0:Int)), .vi ((0:Int)), .vi ((0:Int)), .vi ((0:Int)), .nil0, .vi ((0:Int)), .nil0, .vi ((0:Int)), .vi ((0:Int)), .nil0, .vi ((0:Int)), .val (.bool false), .nil0]),(128128, .box [.vi (y1.1), .vi (aP), .vi (y1.2.2.1), .vi (bA), .vi (bB), .vi (y1.2.2.2.2.2.1), .vi (y1.2.2.2.2.2.2.1), .vi (y2), .ref 64000000000008200200, .vi (y1.2.2.2.2.2.2.2.2.2.1), .ref 64000000000008200202, .vi (y1.2.2.2.2.2.2.2.2.2.2.2.1), .vi (y1.2.2.2.2.2.2.2.2.2.2.2.2.1), .ref 64000000000008200205, .vi (y1.2.2.2.2.2.2.2.2.2.2.2.2.2.2.1), .val (.bool y1.2.2.2.2.2.2.2.2.2.2.2.2.2.2.2)]),(64000000000008200200, .row (ci .nil) true y1.2.2.2.2.2.2.2.2.1),(64000000000008200202, .row (ci .nil) true y1.2.2.2.2.2.2.2.2.2.2.1),(64000000000008200205, .row (ci .nil) true y1.2.2.2.2.2.2.2.2.2.2.2.2.2.1)]⟩
abbrev Ze.s11 (x0:(Z3))(x1:Z5)(y1:Z5)(y2:Int)(eP:Int)(eQ:Int)(aP:Int)(bA:Int):St:=⟨[(0, .v false [.ptr 0 0]),(3, .v false [.ptr 64000 0]),(4, .v false [.ptr 64064 0]),(5, .v false [.ptr 128128 0])],[(0, .box [.val (.sl (.cons (.int .u8) .nil) x0.1), .vi (eP), .vi (eQ)]),(64000, .box (V.lsHead x1)),(64064, .box [.vi ((0:Int)), .vi ((0:Int)), .vi ((0:Int)), .vi ((0:Int)), .vi ((0:Int)), .vi ((0:Int)), .vi ((0:Int)), .vi ((0:Int)), .nil0, .vi ((0:Int)), .nil0, .vi ((0:Int)), .vi ((0:Int)), .nil0, .vi ((0:Int)), .val (.bool false), .nil0]),(128128, .box [.vi (y1.1), .vi (aP), .vi (y1.2.2.1), .vi (bA), .vi (y1.2.2.2.2.1), .vi (y1.2.2.2.2.2.1), .vi (y1.2.2.2.2.2.2.1), .vi (y2), .ref 64000000000008200200, .vi (y1.2.2.2.2.2.2.2.2.2.1), .ref 64000000000008200202, .vi (y1.2.2.2.2.2.2.2.2.2.2.2.1), .vi (y1.2.2.2.2.2.2.2.2.2.2.2.2.1), .ref 64000000000008200205, .vi (y1.2.2.2.2.2.2.2.2.2.2.2.2.2.2.1), .val (.bool y1.2.2.2.2.2.2.2.2.2.2.2.2.2.2.2)]),(64000000000008200200, .row (ci .nil) true y1.2.2.2.2.2.2.2.2.1),(64000000000008200202, .row (ci .nil) true y1.2.2.2.2.2.2.2.2.2.2.1),(64000000000008200205, .row (ci .nil) true y1.2.2.2.2.2.2.2.2.2.2.2.2.2.1)]⟩
theorem Ze.r63 (x0:(Z3))(x1:Z5)(aP:Int)(y1:Z5)(y2:Int)(d9:Int)(dC:Int)(dA:Int)(dB:Int)(dD:Int)(dE:Int)(dF:Int)(dG:Int)(dH:Int)(dI:Int)(dJ:Int)(dK:Bool)(dL:List Int)(dM:List Int)(dN:List Int)(d8:List Int)(dO:Int):joinF Ze.E f95.ntmps [1,1,1,1,1,1,1,1] [] (codeOf f95) (Ze.kt x0 x1) (Ze.s63 x0 aP y1 y2 d9 dC dA dB dD dE dF dG dH dI dJ dK dL dM dN d8 dO)=Ze.g63 x0 aP y1 y2 d9 dC dA dB dD dE dF dG dH dI dJ dK dL dM dN d8 dO:=by kernel_rfl
theorem Ze.e63 (x0:(Z3))(x1:Z5)(aP:Int)(y1:Z5)(y2:Int)(d9:Int)(dC:Int)(dA:Int)(dB:Int)(dD:Int)(dE:Int)(dF:Int)(dG:Int)(dH:Int)(dI:Int)(dJ:Int)(dK:Bool)(dL:List Int)(dM:List Int)(dN:List Int)(d8:List Int)(dO:Int):jn (joinF Ze.E f95.ntmps [1,1,1,1,1,1,1,1] [] (codeOf f95) (Ze.kt x0 x1)) (Ze.s63 x0 aP y1 y2 d9 dC dA dB dD dE dF dG dH dI dJ dK dL dM dN d8 dO)=Ze.l63 x0 aP y1 y2 d9 dC dA dB dD dE dF dG dH dI dJ dK dL dM dN d8 dO:=by
 rw[jn_eq,Ze.r63]
 rfl
theorem Ze.r27 (x0:(Z3))(x1:Z5)(aP:Int)(aY:Int)(y1:Z5)(y2:Int)(eY:Int)(f0:Int)(fB:Int):joinF Ze.E f95.ntmps [1,1,1,1,1,1,1,1,0,1,0,1,0,1,1] [] (codeOf f95) (Ze.kt x0 x1) (Ze.s27 x0 x1 aP aY y1 y2 eY f0 fB)=Ze.g27 x0 x1 aP aY y1 y2 (λy1 y2 d9 dC dA dB dD dE dF dG dH dI dJ dK dL dM dN d8 dO=>jn (joinF Ze.E f95.ntmps [1,1,1,1,1,1,1,1] [] (codeOf f95) (Ze.kt x0 x1)) (Ze.s63 x0 aP y1 y2 d9 dC dA dB dD dE dF dG dH dI dJ dK dL dM dN d8 dO)) eY f0 fB:=by kernel_rfl
theorem Ze.e27 (x0:(Z3))(x1:Z5)(aP:Int)(aY:Int)(y1:Z5)(y2:Int)(eY:Int)(f0:Int)(fB:Int):jn (joinF Ze.E f95.ntmps [1,1,1,1,1,1,1,1,0,1,0,1,0,1,1] [] (codeOf f95) (Ze.kt x0 x1)) (Ze.s27 x0 x1 aP aY y1 y2 eY f0 fB)=Ze.l27 x0 x1 aP aY y1 y2 eY f0 fB:=by
 rw[jn_eq,Ze.r27]
 simp only[Ze.e63]
 rfl
theorem Ze.r25 (x0:(Z3))(x1:Z5)(aP:Int)(bB:Int)(y1:Z5)(y2:Int)(cB:Int)(aX:Int)(aY:Int):joinF Ze.E f95.ntmps [1,1,1,1,1,1,1,1,0,1,0,1,0,1] [] (codeOf f95) (Ze.kt x0 x1) (Ze.s25 x0 x1 aP bB y1 y2 cB aX aY)=Ze.g25 x0 x1 aP bB y1 y2 (λy1 y2 eY f0 fB=>jn (joinF Ze.E f95.ntmps [1,1,1,1,1,1,1,1,0,1,0,1,0,1,1] [] (codeOf f95) (Ze.kt x0 x1)) (Ze.s27 x0 x1 aP aY y1 y2 eY f0 fB)) cB aX aY:=by kernel_rfl
theorem Ze.e25 (x0:(Z3))(x1:Z5)(aP:Int)(bB:Int)(y1:Z5)(y2:Int)(cB:Int)(aX:Int)(aY:Int):jn (joinF Ze.E f95.ntmps [1,1,1,1,1,1,1,1,0,1,0,1,0,1] [] (codeOf f95) (Ze.kt x0 x1)) (Ze.s25 x0 x1 aP bB y1 y2 cB aX aY)=Ze.l25 x0 x1 aP bB y1 y2 cB aX aY:=by
 rw[jn_eq,Ze.r25]
 simp only[Ze.e27]
 rfl
theorem Ze.r41 (x0:(Z3))(x1:Z5)(aP:Int)(bA:Int)(bB:Int)(y1:Z5)(y2:Int)(fF:Bool)(eK:Int)(eN:Int)(eM:Bool):joinF Ze.E f95.ntmps [1,1,1,1,1,1,1,1,0,1,0,1,1,1,0,1,1,1] [] (codeOf f95) (Ze.kt x0 x1) (Ze.s41 x0 x1 aP bA bB y1 y2 fF eK eN eM)=Ze.g41 x0 x1 aP bA bB y1 y2 (λy1 y2 d9 dC dA dB dD dE dF dG dH dI dJ dK dL dM dN d8 dO=>jn (joinF Ze.E f95.ntmps [1,1,1,1,1,1,1,1] [] (codeOf f95) (Ze.kt x0 x1)) (Ze.s63 x0 aP y1 y2 d9 dC dA dB dD dE dF dG dH dI dJ dK dL dM dN d8 dO)) fF eK eN eM:=by kernel_rfl
theorem Ze.e41 (x0:(Z3))(x1:Z5)(aP:Int)(bA:Int)(bB:Int)(y1:Z5)(y2:Int)(fF:Bool)(eK:Int)(eN:Int)(eM:Bool):jn (joinF Ze.E f95.ntmps [1,1,1,1,1,1,1,1,0,1,0,1,1,1,0,1,1,1] [] (codeOf f95) (Ze.kt x0 x1)) (Ze.s41 x0 x1 aP bA bB y1 y2 fF eK eN eM)=Ze.l41 x0 x1 aP bA bB y1 y2 fF eK eN eM:=by
 rw[jn_eq,Ze.r41]
 simp only[Ze.e63]
 rfl
theorem Ze.r13 (x0:(Z3))(x1:Z5)(aP:Int)(bA:Int)(y1:Z5)(y2:Int)(bH:Int)(bI:Int)(bB:Int):joinF Ze.E f95.ntmps [1,1,1,1,1] [] (codeOf f95) (Ze.kt x0 x1) (Ze.s13 x0 x1 aP bA y1 y2 bH bI bB)=Ze.g13 x0 x1 aP bA y1 y2 (λy1 y2 cB aX aY=>jn (joinF Ze.E f95.ntmps [1,1,1,1,1,1,1,1,0,1,0,1,0,1] [] (codeOf f95) (Ze.kt x0 x1)) (Ze.s25 x0 x1 aP bB y1 y2 cB aX aY)) (λy1 y2 fF eK eN eM=>jn (joinF Ze.E f95.ntmps [1,1,1,1,1,1,1,1,0,1,0,1,1,1,0,1,1,1] [] (codeOf f95) (Ze.kt x0 x1)) (Ze.s41 x0 x1 aP bA bB y1 y2 fF eK eN eM)) (λy1 y2 d9 dC dA dB dD dE dF dG dH dI dJ dK dL dM dN d8 dO=>jn (joinF Ze.E f95.ntmps [1,1,1,1,1,1,1,1] [] (codeOf f95) (Ze.kt x0 x1)) (Ze.s63 x0 aP y1 y2 d9 dC dA dB dD dE dF dG dH dI dJ dK dL dM dN d8 dO)) bH bI bB:=by kernel_rfl
theorem Ze.e13 (x0:(Z3))(x1:Z5)(aP:Int)(bA:Int)(y1:Z5)(y2:Int)(bH:Int)(bI:Int)(bB:Int):jn (joinF Ze.E f95.ntmps [1,1,1,1,1] [] (codeOf f95) (Ze.kt x0 x1)) (Ze.s13 x0 x1 aP bA y1 y2 bH bI bB)=Ze.l13 x0 x1 aP bA y1 y2 bH bI bB:=by
 rw[jn_eq,Ze.r13]
 simp only[Ze.e25,Ze.e41,Ze.e63]
 rfl
theorem Ze.r11 (x0:(Z3))(x1:Z5)(y1:Z5)(y2:Int)(eP:Int)(eQ:Int)(aP:Int)(bA:Int):joinF Ze.E f95.ntmps [1,1,1,1] [] (codeOf f95) (Ze.kt x0 x1) (Ze.s11 x0 x1 y1 y2 eP eQ aP bA)=Ze.g11 x0 x1 y1 y2 (λy1 y2 bH bI bB=>jn (joinF Ze.E f95.ntmps [1,1,1,1,1] [] (codeOf f95) (Ze.kt x0 x1)) (Ze.s13 x0 x1 aP bA y1 y2 bH bI bB)) eP eQ aP bA:=by kernel_rfl
theorem Ze.e11 (x0:(Z3))(x1:Z5)(y1:Z5)(y2:Int)(eP:Int)(eQ:Int)(aP:Int)(bA:Int):jn (joinF Ze.E f95.ntmps [1,1,1,1] [] (codeOf f95) (Ze.kt x0 x1)) (Ze.s11 x0 x1 y1 y2 eP eQ aP bA)=Ze.l11 x0 x1 y1 y2 eP eQ aP bA:=by
 rw[jn_eq,Ze.r11]
 simp only[Ze.e13]
 rfl
abbrev Ze.s (x0:(Z3))(x1:Z5):St:=⟨[(0, .v false [.ptr 0 0]),(1, .v true (V.lsHead x1))],[(0, .box [.val (.sl (.cons (.int .u8) .nil) x0.1), .vi (x0.2.1), .vi (x0.2.2)])]⟩
theorem Ze.v0 (x0:(Z3))(x1:Z5):V.evBody Ze.E Ze.con f95 (V.fl5 x0 x1)=evC Ze.E f95.ntmps (codeOf f95) (Ze.kt x0 x1) (Ze.s x0 x1):=by kernel_rfl
theorem Ze.v (x0:(Z3))(x1:Z5):evC Ze.E f95.ntmps (codeOf f95) (Ze.kt x0 x1) (Ze.s x0 x1)=Ze.b x0 x1 (λy1 y2 eP eQ aP bA=>jn (joinF Ze.E f95.ntmps [1,1,1,1] [] (codeOf f95) (Ze.kt x0 x1)) (Ze.s11 x0 x1 y1 y2 eP eQ aP bA)):=by kernel_rfl
theorem Ze.eq (x0:(Z3))(x1:Z5):V.evBody Ze.E Ze.con f95 (V.fl5 x0 x1)=Ze x0 x1:=by
 rw[Ze.v0,Ze.v]
 simp only[Ze.e11]
 rfl
theorem Ze.ok :V.Valid prog 95 Ze.con:=
 V.fo (tab_cons Xj.ok (tab_cons Zd.ok (tab_cons Xu.ok (tab_cons Wx.ok (tab_cons ZG.ok (tab_cons Wp.ok (tab_cons Xt.ok (tab_cons ZI.ok (tab_cons Xc.ok tab_nil))))))))) func95 (by kernel_rfl) (λx y h=>(show V.evBody Ze.E Ze.con f95 x=_ from Ze.eq (V.p5_0 x) (V.p5_1 x)).trans (V.cfl (by kernel_rfl) h))
abbrev XA.con :V.Con:=⟨V.A0,V.eRHeadBool,λ(x:V.D0)=>XA (V.p0_0 x),[],[(true,16)],[(true,16),(false,1)],[false,false,false,false,false,false,false,false,false,false,false,false,false,false,false,false,false],[]⟩
abbrev XA.E :Env:=V.mkE V.tys [(160,Zm.con)] [] [] [] [] []
abbrev XA.kt (x0:Z5):Kt Yi:=ktOf XA.E XA.con f139 (V.fl0 x0)
abbrev XA.s (x0:Z5):St:=⟨[(0, .v true (V.lsHead x0))],[]⟩
theorem XA.v0 (x0:Z5):V.evBody XA.E XA.con f139 (V.fl0 x0)=evC XA.E f139.ntmps (codeOf f139) (XA.kt x0) (XA.s x0):=by kernel_rfl
theorem XA.v (x0:Z5):evC XA.E f139.ntmps (codeOf f139) (XA.kt x0) (XA.s x0)=XA x0:=by kernel_rfl
theorem XA.eq (x0:Z5):V.evBody XA.E XA.con f139 (V.fl0 x0)=XA x0:=(XA.v0 x0).trans (XA.v x0)
theorem XA.ok :V.Valid prog 139 XA.con:=
 V.fo (tab_cons Zm.ok tab_nil) func139 (by kernel_rfl) (λx y h=>(show V.evBody XA.E XA.con f139 x=_ from XA.eq (V.p0_0 x)).trans (V.cfl (by kernel_rfl) h))
abbrev Yr.con :V.Con:=⟨V.A6,V.eRHeadBool,λ(x:V.D6)=>Yr (V.p6_0 x) (V.p6_1 x) (V.p6_2 x) (V.p6_3 x),[],[(true,16),(false,1),(false,1),(false,1)],[(true,16),(false,1)],[false,false,false,false,false,false,false,false,false,false,false,false,false,false,false,false,false],[]⟩
abbrev Yr.E :Env:=V.mkE V.tys [(38,Y3.con),(49,Xj.con),(133,Xt.con),(139,XA.con),(160,Zm.con)] [(5,[1,2,3,4,8,25],[])] [] [] [] []
abbrev Yr.kt (x0:Z5)(x1:Int)(x2:Int)(x3:Int):Kt Yi:=ktOf Yr.E Yr.con f138 (V.fl6 x0 x1 x2 x3)
abbrev Yr.s5 (x0:Z5)(x1:Int)(x2:Int)(x3:Int)(aR:Bool):St:=⟨[(1, .v false [.vi (x1)]),(2, .v false [.vi (x2)]),(3, .v false [.vi (x3)]),(4, .v false [.ptr 64000 0]),(8, .v false [.ptr 64064 0]),(25, .v false [.val (.bool aR)])],[(64000, .box (V.lsHead x0)),(64064, .box [.vi ((0:Int)), .vi ((0:Int)), .vi ((0:Int)), .vi ((0:Int)), .vi ((0:Int)), .vi ((0:Int)), .vi ((0:Int)), .vi ((0:Int)), .nil0, .vi ((0:Int)), .nil0, .vi ((0:Int)), .vi ((0:Int)), .nil0, .vi ((0:Int)), .val (.bool false)])]⟩
theorem Yr.r5 (x0:Z5)(x1:Int)(x2:Int)(x3:Int)(aR:Bool):joinF Yr.E f138.ntmps [1,0] [] (codeOf f138) (Yr.kt x0 x1 x2 x3) (Yr.s5 x0 x1 x2 x3 aR)=Yr.g5 x0 x1 x2 x3 aR:=by kernel_rfl
theorem Yr.e5 (x0:Z5)(x1:Int)(x2:Int)(x3:Int)(aR:Bool):jn (joinF Yr.E f138.ntmps [1,0] [] (codeOf f138) (Yr.kt x0 x1 x2 x3)) (Yr.s5 x0 x1 x2 x3 aR)=Yr.l5 x0 x1 x2 x3 aR:=by
 rw[jn_eq,Yr.r5]
 rfl
abbrev Yr.s (x0:Z5)(x1:Int)(x2:Int)(x3:Int):St:=⟨[(0, .v true (V.lsHead x0)),(1, .v false [.vi (x1)]),(2, .v false [.vi (x2)]),(3, .v false [.vi (x3)])],[]⟩
theorem Yr.v0 (x0:Z5)(x1:Int)(x2:Int)(x3:Int):V.evBody Yr.E Yr.con f138 (V.fl6 x0 x1 x2 x3)=evC Yr.E f138.ntmps (codeOf f138) (Yr.kt x0 x1 x2 x3) (Yr.s x0 x1 x2 x3):=by kernel_rfl
theorem Yr.v (x0:Z5)(x1:Int)(x2:Int)(x3:Int):evC Yr.E f138.ntmps (codeOf f138) (Yr.kt x0 x1 x2 x3) (Yr.s x0 x1 x2 x3)=Yr.b x0 x1 x2 x3 (λaR=>jn (joinF Yr.E f138.ntmps [1,0] [] (codeOf f138) (Yr.kt x0 x1 x2 x3)) (Yr.s5 x0 x1 x2 x3 aR)):=by kernel_rfl
theorem Yr.eq (x0:Z5)(x1:Int)(x2:Int)(x3:Int):V.evBody Yr.E Yr.con f138 (V.fl6 x0 x1 x2 x3)=Yr x0 x1 x2 x3:=by
 rw[Yr.v0,Yr.v]
 simp only[Yr.e5]
 rfl
theorem Yr.ok :V.Valid prog 138 Yr.con:=
 V.fo (tab_cons Y3.ok (tab_cons Xj.ok (tab_cons Xt.ok (tab_cons XA.ok (tab_cons Zm.ok tab_nil))))) func138 (by kernel_rfl) (λx y h=>(show V.evBody Yr.E Yr.con f138 x=_ from Yr.eq (V.p6_0 x) (V.p6_1 x) (V.p6_2 x) (V.p6_3 x)).trans (V.cfl (by kernel_rfl) h))
abbrev ZT.con :V.Con:=⟨V.A7,V.eRHeadBool,λ(x:V.D7)=>ZT (V.p7_0 x) (V.p7_1 x) (V.p7_2 x) (V.p7_3 x),[],[(true,16),(false,1),(false,1),(false,1)],[(true,16),(false,1)],[false,false,false,false,false,false,false,false,false,false,false,false,false,false,false,false,false],[]⟩
abbrev ZT.E :Env:=V.mkE V.tys [(85,ZO.con),(119,Wp.con),(138,Yr.con),(139,XA.con)] [(7,[1,8,10,25],[])] [] [] [] []
abbrev ZT.kt (x0:Z5)(x1:List Z0)(x2:Int)(x3:Int):Kt Yi:=ktOf ZT.E ZT.con f97 (V.fl7 x0 x1 x2 x3)
abbrev ZT.s7 (x1:List Z0)(y1:Yi)(aT:Bool):St:=⟨[(1, .v false [.val (.sl V.eEntry x1)]),(8, .v false [.ptr 64064 0]),(10, .v false [.ptr 128448 0]),(25, .v false [.val (.bool aT)])],[(64064, .box [.vi ((0:Int)), .vi ((0:Int)), .vi ((0:Int)), .vi ((0:Int)), .vi ((0:Int)), .vi ((0:Int)), .vi ((0:Int)), .vi ((0:Int)), .nil0, .vi ((0:Int)), .nil0, .vi ((0:Int)), .vi ((0:Int)), .nil0, .vi ((0:Int)), .val (.bool false)]),(128448, .box [.vi (y1.1), .vi (y1.2.1), .vi (y1.2.2.1), .vi (y1.2.2.2.1), .vi (y1.2.2.2.2.1), .vi (y1.2.2.2.2.2.1), .vi (y1.2.2.2.2.2.2.1), .vi (y1.2.2.2.2.2.2.2.1), .val (.sl (ci .nil) y1.2.2.2.2.2.2.2.2.1), .vi (y1.2.2.2.2.2.2.2.2.2.1), .val (.sl (ci .nil) y1.2.2.2.2.2.2.2.2.2.2.1), .vi (y1.2.2.2.2.2.2.2.2.2.2.2.1), .vi (y1.2.2.2.2.2.2.2.2.2.2.2.2.1), .val (.sl (ci .nil) y1.2.2.2.2.2.2.2.2.2.2.2.2.2.1), .vi (y1.2.2.2.2.2.2.2.2.2.2.2.2.2.2.1), .val (.bool y1.2.2.2.2.2.2.2.2.2.2.2.2.2.2.2.1)])]⟩
theorem ZT.r7 (x0:Z5)(x1:List Z0)(x2:Int)(x3:Int)(y1:Yi)(aT:Bool):joinF ZT.E f97.ntmps [1,1,0] [] (codeOf f97) (ZT.kt x0 x1 x2 x3) (ZT.s7 x1 y1 aT)=ZT.g7 x1 y1 aT:=by kernel_rfl
theorem ZT.e7 (x0:Z5)(x1:List Z0)(x2:Int)(x3:Int)(y1:Yi)(aT:Bool):jn (joinF ZT.E f97.ntmps [1,1,0] [] (codeOf f97) (ZT.kt x0 x1 x2 x3)) (ZT.s7 x1 y1 aT)=ZT.l7 x1 y1 aT:=by
 rw[jn_eq,ZT.r7]
 rfl
abbrev ZT.s (x0:Z5)(x1:List Z0)(x2:Int)(x3:Int):St:=⟨[(0, .v true (V.lsHead x0)),(1, .v false [.val (.sl V.eEntry x1)]),(2, .v false [.vi (x2)]),(3, .v false [.vi (x3)])],[]⟩
theorem ZT.v0 (x0:Z5)(x1:List Z0)(x2:Int)(x3:Int):V.evBody ZT.E ZT.con f97 (V.fl7 x0 x1 x2 x3)=evC ZT.E f97.ntmps (codeOf f97) (ZT.kt x0 x1 x2 x3) (ZT.s x0 x1 x2 x3):=by kernel_rfl
theorem ZT.v (x0:Z5)(x1:List Z0)(x2:Int)(x3:Int):evC ZT.E f97.ntmps (codeOf f97) (ZT.kt x0 x1 x2 x3) (ZT.s x0 x1 x2 x3)=ZT.b x0 x1 x2 x3 (λy1 aT=>jn (joinF ZT.E f97.ntmps [1,1,0] [] (codeOf f97) (ZT.kt x0 x1 x2 x3)) (ZT.s7 x1 y1 aT)):=by kernel_rfl
theorem ZT.eq (x0:Z5)(x1:List Z0)(x2:Int)(x3:Int):V.evBody ZT.E ZT.con f97 (V.fl7 x0 x1 x2 x3)=ZT x0 x1 x2 x3:=by
 rw[ZT.v0,ZT.v]
 simp only[ZT.e7]
 rfl
theorem ZT.ok :V.Valid prog 97 ZT.con:=
 V.fo (tab_cons ZO.ok (tab_cons Wp.ok (tab_cons Yr.ok (tab_cons XA.ok tab_nil)))) func97 (by kernel_rfl) (λx y h=>(show V.evBody ZT.E ZT.con f97 x=_ from ZT.eq (V.p7_0 x) (V.p7_1 x) (V.p7_2 x) (V.p7_3 x)).trans (V.cfl (by kernel_rfl) h))
abbrev Q9.con :V.Con:=⟨(ci (.cons (.sl V.eEntry) .nil)),(.cons .bool .nil),λ(x:Int×List Z0)=>Q9 x.1 x.2,[],[(false,1),(false,1)],[(false,1)],[false],[]⟩
abbrev Q9.E :Env:=V.mkE V.tys [(85,ZO.con),(119,Wp.con)] [] [] [] [] []
theorem Q9.eq (x0:Int)(x1:List Z0):V.evBody Q9.E Q9.con f80 ((x0,x1):Int×List Z0)=Q9 x0 x1:=by kernel_rfl
theorem Q9.ok :V.Valid prog 80 Q9.con:=
 V.fo (tab_cons ZO.ok (tab_cons Wp.ok tab_nil)) func80 (by kernel_rfl) (λx y h=>(show V.evBody Q9.E Q9.con f80 x=_ from Q9.eq x.1 x.2).trans (V.cfl (by kernel_rfl) h))
abbrev Wa.con :V.Con:=⟨(.cons (.sl V.eSigned) (.cons (.sl V.eEntry) .nil)),(.cons .bool .nil),λ(x:List Z4×List Z0)=>Wa x,[],[(true,2)],[(false,1)],[false],[]⟩
abbrev Wa.E :Env:=V.mkE V.tys [(13,W6.con),(80,Q9.con)] [] [] [] [] []
theorem Wa.eq (x0:Z7):V.evBody Wa.E Wa.con f37 ((x0.1,x0.2):List Z4×List Z0)=Wa x0:=by kernel_rfl
theorem Wa.ok :V.Valid prog 37 Wa.con:=
 V.fo (tab_cons W6.ok (tab_cons Q9.ok tab_nil)) func37 (by kernel_rfl) (λx y h=>(show V.evBody Wa.E Wa.con f37 x=_ from Wa.eq x).trans (V.cfl (by kernel_rfl) h))
abbrev Xz.con :V.Con:=⟨V.A2,V.eSigned,λ(x:V.D2)=>Xz (V.p2_0 x),[],[(true,17)],[(true,17)],[false,false,false,false,false,false,false,false,true,false,true,false,false,true,false,false,true],[]⟩
abbrev Xz.E :Env:=V.mkE V.tys [(49,Xj.con)] [] [(1,6)] [] [] []
abbrev Xz.kt (x0:Z4):Kt Z4:=ktOf Xz.E Xz.con f81 (V.fl2 x0)
abbrev Xz.s (x0:Z4):St:=⟨[(0, .v true (V.lsSigned x0))],[]⟩
theorem Xz.v0 (x0:Z4):V.evBody Xz.E Xz.con f81 (V.fl2 x0)=evC Xz.E f81.ntmps (codeOf f81) (Xz.kt x0) (Xz.s x0):=by kernel_rfl
theorem Xz.v (x0:Z4):evC Xz.E f81.ntmps (codeOf f81) (Xz.kt x0) (Xz.s x0)=Xz x0:=by kernel_rfl
theorem Xz.eq (x0:Z4):V.evBody Xz.E Xz.con f81 (V.fl2 x0)=Xz x0:=(Xz.v0 x0).trans (Xz.v x0)
theorem Xz.ok :V.Valid prog 81 Xz.con:=
 V.fo (tab_cons Xj.ok tab_nil) func81 (by kernel_rfl) (λx y h=>(show V.evBody Xz.E Xz.con f81 x=_ from Xz.eq (V.p2_0 x)).trans (V.cfl (by kernel_rfl) h))
abbrev Y8.con :V.Con:=⟨(.cons (.sl V.eSigned) .nil),(.cons (.sl V.eSigned) .nil),λ(x:List Z4)=>Y8 x,[],[(false,1)],[(false,1)],[true],[]⟩
abbrev Y8.E :Env:=V.mkE V.tys [(81,Xz.con)] [(6,[0,3,4],[(64000038400192,V.eSigned,true)])] [] [] [] []
abbrev Y8.kt (x0:List Z4):Kt (List Z4):=ktOf Y8.E Y8.con f43 ((x0):List Z4)
abbrev Y8.s6 (x0:List Z4)(aE:Int)(aA:List Z4):St:=⟨[(0, .v false [.val (.sl V.eSigned x0)]),(3, .v false [.ref 64000038400192]),(4, .v false [.vi (aE)])],[(64000038400192, .row V.eSigned true aA)]⟩
theorem Y8.r6 (x0:List Z4)(R:St->Option (List Z4))(aE:Int)(aA:List Z4):loopF Y8.E f43.ntmps [1,1,0,1,0] [] (codeOf f43) (Y8.kt x0) R (Y8.s6 x0 aE aA)=Y8.g6 x0 (λaE aA=>R (Y8.s6 x0 aE aA)) aE aA:=by kernel_rfl
theorem Y8.e6 (x0:List Z4):∀(n:Nat) (aE:Int) (aA:List Z4),loopN (loopF Y8.E f43.ntmps [1,1,0,1,0] [] (codeOf f43) (Y8.kt x0)) n (Y8.s6 x0 aE aA)=Y8.l6 x0 n aE aA:=by
 intro n
 induction n with
 |zero=>intros;rw[loopN_z];rfl
 |succ n ih=>
  intro aE aA
  rw[loopN_s,Y8.r6]
  simp only[ih]
  first|exact(Y8.u6 ..).symm|rfl
theorem Y8.v (x0:List Z4):V.evBody Y8.E Y8.con f43 ((x0):List Z4)=Y8.b x0 (λaE aA=>loopN (loopF Y8.E f43.ntmps [1,1,0,1,0] [] (codeOf f43) (Y8.kt x0)) V.KK (Y8.s6 x0 aE aA)):=by kernel_rfl
theorem Y8.eq (x0:List Z4):V.evBody Y8.E Y8.con f43 ((x0):List Z4)=Y8 x0:=by
 rw[Y8.v]
 simp only[Y8.e6]
 rfl
theorem Y8.ok :V.Valid prog 43 Y8.con:=
 V.fo (tab_cons Xz.ok tab_nil) func43 (by kernel_rfl) (λx y h=>(show V.evBody Y8.E Y8.con f43 x=_ from Y8.eq x).trans (V.cfl (by kernel_rfl) h))
abbrev We.con :V.Con:=⟨(.cons (.sl V.eSigned) (.cons (.sl V.eEntry) .nil)),(.cons (.sl V.eSigned) (.cons (.sl V.eEntry) .nil)),λ(x:List Z4×List Z0)=>We x,[],[(true,2)],[(true,2)],[true,true],[]⟩
abbrev We.E :Env:=V.mkE V.tys [(43,Y8.con),(103,Y7.con)] [] [(1,5)] [] [] []
theorem We.eq (x0:Z7):V.evBody We.E We.con f60 ((x0.1,x0.2):List Z4×List Z0)=We x0:=by kernel_rfl
theorem We.ok :V.Valid prog 60 We.con:=
 V.fo (tab_cons Y8.ok (tab_cons Y7.ok tab_nil)) func60 (by kernel_rfl) (λx y h=>(show V.evBody We.E We.con f60 x=_ from We.eq x).trans (V.cfl (by kernel_rfl) h))
abbrev XW.con :V.Con:=⟨V.A8,V.eSigned,λ(x:V.D8)=>XW (V.p8_0 x) (V.p8_1 x) (V.p8_2 x),[],[(true,16),(true,16),(false,1)],[(true,17)],[false,false,false,false,false,false,false,false,true,false,true,false,false,true,false,false,true],[]⟩
abbrev XW.E :Env:=V.mkE V.tys [(135,Xc.con)] [] [] [] [] []
abbrev XW.kt (x0:Z5)(x1:Z5)(x2:List Int):Kt Z4:=ktOf XW.E XW.con f141 (V.fl8 x0 x1 x2)
abbrev XW.s (x0:Z5)(x1:Z5)(x2:List Int):St:=⟨[(0, .v true (V.lsHead x0)),(1, .v true (V.lsHead x1)),(2, .v false [.val (.sl (ci .nil) x2)])],[]⟩
theorem XW.v0 (x0:Z5)(x1:Z5)(x2:List Int):V.evBody XW.E XW.con f141 (V.fl8 x0 x1 x2)=evC XW.E f141.ntmps (codeOf f141) (XW.kt x0 x1 x2) (XW.s x0 x1 x2):=by kernel_rfl
theorem XW.v (x0:Z5)(x1:Z5)(x2:List Int):evC XW.E f141.ntmps (codeOf f141) (XW.kt x0 x1 x2) (XW.s x0 x1 x2)=XW x0 x1 x2:=by kernel_rfl
theorem XW.eq (x0:Z5)(x1:Z5)(x2:List Int):V.evBody XW.E XW.con f141 (V.fl8 x0 x1 x2)=XW x0 x1 x2:=(XW.v0 x0 x1 x2).trans (XW.v x0 x1 x2)
theorem XW.ok :V.Valid prog 141 XW.con:=
 V.fo (tab_cons Xc.ok tab_nil) func141 (by kernel_rfl) (λx y h=>(show V.evBody XW.E XW.con f141 x=_ from XW.eq (V.p8_0 x) (V.p8_1 x) (V.p8_2 x)).trans (V.cfl (by kernel_rfl) h))
abbrev Ym.con :V.Con:=⟨V.A9,(.cons (.sl V.eSigned) (ci .nil)),λ(x:V.D9)=>Ym (V.p9_0 x) (V.p9_1 x),[],[(false,1),(true,17)],[(false,1),(false,1)],[true,false],[]⟩
abbrev Ym.E :Env:=V.mkE V.tys [(13,W6.con),(43,Y8.con),(81,Xz.con),(164,Zn.con)] [(7,[0,3,6,20],[])] [(7,3)] [] [] []
abbrev Ym.kt (x0:List Z4)(x1:Z4):Kt (List Z4×Int):=ktOf Ym.E Ym.con f140 (V.fl9 x0 x1)
abbrev Ym.s7 (x0:List Z4)(x1:Z4)(y1:Yi)(aT:Bool):St:=⟨[(0, .v false [.val (.sl V.eSigned x0)]),(3, .v false [.ptr 64000 0]),(6, .v false [.ptr 128320 0]),(20, .v false [.val (.bool aT)])],[(64000, .box (V.lsSigned x1)),(128320, .box [.vi (y1.1), .vi (y1.2.1), .vi (y1.2.2.1), .vi (y1.2.2.2.1), .vi (y1.2.2.2.2.1), .vi (y1.2.2.2.2.2.1), .vi (y1.2.2.2.2.2.2.1), .vi (y1.2.2.2.2.2.2.2.1), .ref 64000000000008212488, .vi (y1.2.2.2.2.2.2.2.2.2.1), .ref 64000000000008212490, .vi (y1.2.2.2.2.2.2.2.2.2.2.2.1), .vi (y1.2.2.2.2.2.2.2.2.2.2.2.2.1), .ref 64000000000008212493, .vi (y1.2.2.2.2.2.2.2.2.2.2.2.2.2.2.1), .val (.bool y1.2.2.2.2.2.2.2.2.2.2.2.2.2.2.2.1)]),(64000000000008212488, .row (ci .nil) true y1.2.2.2.2.2.2.2.2.1),(64000000000008212490, .row (ci .nil) true y1.2.2.2.2.2.2.2.2.2.2.1),(64000000000008212493, .row (ci .nil) true y1.2.2.2.2.2.2.2.2.2.2.2.2.2.1)]⟩
theorem Ym.r7 (x0:List Z4)(x1:Z4)(y1:Yi)(aT:Bool):joinF Ym.E f140.ntmps [1,1,0] [] (codeOf f140) (Ym.kt x0 x1) (Ym.s7 x0 x1 y1 aT)=Ym.g7 x0 x1 y1 aT:=by kernel_rfl
theorem Ym.e7 (x0:List Z4)(x1:Z4)(y1:Yi)(aT:Bool):jn (joinF Ym.E f140.ntmps [1,1,0] [] (codeOf f140) (Ym.kt x0 x1)) (Ym.s7 x0 x1 y1 aT)=Ym.l7 x0 x1 y1 aT:=by
 rw[jn_eq,Ym.r7]
 rfl
abbrev Ym.s (x0:List Z4)(x1:Z4):St:=⟨[(0, .v false [.val (.sl V.eSigned x0)]),(1, .v true (V.lsSigned x1))],[]⟩
theorem Ym.v0 (x0:List Z4)(x1:Z4):V.evBody Ym.E Ym.con f140 (V.fl9 x0 x1)=evC Ym.E f140.ntmps (codeOf f140) (Ym.kt x0 x1) (Ym.s x0 x1):=by kernel_rfl
theorem Ym.v (x0:List Z4)(x1:Z4):evC Ym.E f140.ntmps (codeOf f140) (Ym.kt x0 x1) (Ym.s x0 x1)=Ym.b x0 x1 (λy1 aT=>jn (joinF Ym.E f140.ntmps [1,1,0] [] (codeOf f140) (Ym.kt x0 x1)) (Ym.s7 x0 x1 y1 aT)):=by kernel_rfl
theorem Ym.eq (x0:List Z4)(x1:Z4):V.evBody Ym.E Ym.con f140 (V.fl9 x0 x1)=Ym x0 x1:=by
 rw[Ym.v0,Ym.v]
 simp only[Ym.e7]
 rfl
theorem Ym.ok :V.Valid prog 140 Ym.con:=
 V.fo (tab_cons W6.ok (tab_cons Y8.ok (tab_cons Xz.ok (tab_cons Zn.ok tab_nil)))) func140 (by kernel_rfl) (λx y h=>(show V.evBody Ym.E Ym.con f140 x=_ from Ym.eq (V.p9_0 x) (V.p9_1 x)).trans (V.cfl (by kernel_rfl) h))
abbrev XV.con :V.Con:=⟨V.A10,(.cons (.sl V.eSigned) (.cons (.sl V.eEntry) (ci .nil))),λ(x:V.D10)=>XV (V.p10_0 x) (V.p10_1 x) (V.p10_2 x) (V.p10_3 x),[],[(true,2),(false,1),(true,16),(false,1)],[(true,2),(false,1)],[true,true,false],[]⟩
abbrev XV.E :Env:=V.mkE V.tys [(13,W6.con),(37,Wa.con),(60,We.con),(103,Y7.con),(140,Ym.con),(141,XW.con)] [] [(4,10)] [] [] []
abbrev XV.kt (x0:Z7)(x1:List Int)(x2:Z5)(x3:List Z0):Kt Z0A:=ktOf XV.E XV.con f98 (V.fl10 x0 x1 x2 x3)
abbrev XV.s (x0:Z7)(x1:List Int)(x2:Z5)(x3:List Z0):St:=⟨[(0, .v true [.val (.sl V.eSigned x0.1), .val (.sl V.eEntry x0.2)]),(1, .v false [.val (.sl (ci .nil) x1)]),(2, .v true (V.lsHead x2)),(3, .v false [.val (.sl V.eEntry x3)])],[]⟩
theorem XV.v0 (x0:Z7)(x1:List Int)(x2:Z5)(x3:List Z0):V.evBody XV.E XV.con f98 (V.fl10 x0 x1 x2 x3)=evC XV.E f98.ntmps (codeOf f98) (XV.kt x0 x1 x2 x3) (XV.s x0 x1 x2 x3):=by kernel_rfl
theorem XV.v (x0:Z7)(x1:List Int)(x2:Z5)(x3:List Z0):evC XV.E f98.ntmps (codeOf f98) (XV.kt x0 x1 x2 x3) (XV.s x0 x1 x2 x3)=XV x0 x1 x2 x3:=by kernel_rfl
theorem XV.eq (x0:Z7)(x1:List Int)(x2:Z5)(x3:List Z0):V.evBody XV.E XV.con f98 (V.fl10 x0 x1 x2 x3)=XV x0 x1 x2 x3:=(XV.v0 x0 x1 x2 x3).trans (XV.v x0 x1 x2 x3)
theorem XV.ok :V.Valid prog 98 XV.con:=
 V.fo (tab_cons W6.ok (tab_cons Wa.ok (tab_cons We.ok (tab_cons Y7.ok (tab_cons Ym.ok (tab_cons XW.ok tab_nil)))))) func98 (by kernel_rfl) (λx y h=>(show V.evBody XV.E XV.con f98 x=_ from XV.eq (V.p10_0 x) (V.p10_1 x) (V.p10_2 x) (V.p10_3 x)).trans (V.cfl (by kernel_rfl) h))
abbrev Zq.con :V.Con:=⟨(.cons (.ptr (.cons (.sl (.cons (.int .u8) .nil)) (ci (ci .nil)))) (.cons (.sl V.eSigned) (.cons (.sl V.eEntry) .nil))),(.cons (.ptr (.cons (.sl (.cons (.int .u8) .nil)) (ci (ci .nil)))) (.cons (.sl V.eSigned) (.cons (.sl V.eEntry) .nil))),λ(x:(Z3)×List Z4×List Z0)=>Zq x.1 x.2,[(0,false)],[(false,1),(true,2)],[(true,2)],[false,false],[]⟩
abbrev Zq.E :Env:=V.mkE V.tys [(13,W6.con),(53,Zd.con),(55,Xu.con),(95,Ze.con),(96,ZG.con),(97,ZT.con),(98,XV.con)] [(19,[0,3,4,5,8,9],[(9,V.eEntry,false)]),(25,[0,3,4,5,8,9],[(8,(.cons .bool .nil),false)]),(27,[0,3,4,8,9,10],[])] [] [128128] [] [(9,[1000]),(12,[1000])]
abbrev Zq.kt (x0:(Z3))(x1:Z7):Kt ((Z3)×List Z4×List Z0):=ktOf Zq.E Zq.con f56 ((x0,x1.1,x1.2):(Z3)×List Z4×List Z0)
abbrev Zq.s27 (x0:(Z3))(x1:Z7)(bQ:List Z0)(aX:Int)(bW:Int)(bR:Int)(bS:Int)(bT:Int)(bU:Int)(bV:Int)(bC:Int)(bD:Int)(bE:Int)(bX:List Int)(bY:Int)(bF:List Int)(bG:Int)(bZ:Int)(aY:List Int)(c7:Int)(c8:Bool)(fA:List Int):St:=⟨[(0, .v false [.ptr 0 0]),(3, .v false [.ptr 64000 0]),(4, .v false [.ptr 64064 0]),(8, .v false [.ptr 384128 0]),(9, .v false [.val (.sl V.eEntry bQ)]),(10, .v false [.ref 64000172800640])],[(0, .box [.val (.sl (.cons (.int .u8) .nil) x0.1), .vi (aX), .vi (bW)]),(64000, .box [.val (.sl V.eSigned x1.1), .val (.sl V.eEntry x1.2)]),(64064, .box [.nil0, .nil0]),(384128, .box [.vi (bR), .vi (bS), .vi (bT), .vi (bU), .vi (bV), .vi (bC), .vi (bD), .vi (bE), .val (.sl (ci .nil) bX), .vi (bY), .val (.sl (ci .nil) bF), .vi (bG), .vi (bZ), .val (.sl (ci .nil) aY), .vi (c7), .val (.bool c8)]),(64000172800640, .row (ci .nil) true fA)]⟩
abbrev Zq.s25 (x0:(Z3))(x1:Z7)(y1:Yi)(bQ:List Z0)(aX:Int)(bW:Int)(bR:Int)(bS:Int)(bT:Int)(bU:Int)(bV:Int)(bC:Int)(bD:Int)(bE:Int)(bX:List Int)(bY:Int)(bF:List Int)(bG:Int)(bZ:Int)(aY:List Int)(c7:Int)(c8:Bool):St:=⟨[(0, .v false [.ptr 0 0]),(3, .v false [.ptr 64000 0]),(4, .v false [.ptr 64064 0]),(5, .v false [.ptr 128384 0]),(8, .v false [.ptr 384128 0]),(9, .v false [.val (.sl V.eEntry bQ)])],[(0, .box [.val (.sl (.cons (.int .u8) .nil) x0.1), .vi (aX), .vi (bW)]),(64000, .box [.val (.sl V.eSigned x1.1), .val (.sl V.eEntry x1.2)]),(64064, .box [.nil0, .nil0]),(128384, .box [.vi (y1.1), .vi (y1.2.1), .vi (y1.2.2.1), .vi (y1.2.2.2.1), .vi (y1.2.2.2.2.1), .vi (y1.2.2.2.2.2.1), .vi (y1.2.2.2.2.2.2.1), .vi (y1.2.2.2.2.2.2.2.1), .val (.sl (ci .nil) y1.2.2.2.2.2.2.2.2.1), .vi (y1.2.2.2.2.2.2.2.2.2.1), .val (.sl (ci .nil) y1.2.2.2.2.2.2.2.2.2.2.1), .vi (y1.2.2.2.2.2.2.2.2.2.2.2.1), .vi (y1.2.2.2.2.2.2.2.2.2.2.2.2.1), .val (.sl (ci .nil) y1.2.2.2.2.2.2.2.2.2.2.2.2.2.1), .vi (y1.2.2.2.2.2.2.2.2.2.2.2.2.2.2.1), .val (.bool y1.2.2.2.2.2.2.2.2.2.2.2.2.2.2.2.1)]),(384128, .box [.vi (bR), .vi (bS), .vi (bT), .vi (bU), .vi (bV), .vi (bC), .vi (bD), .vi (bE), .val (.sl (ci .nil) bX), .vi (bY), .val (.sl (ci .nil) bF), .vi (bG), .vi (bZ), .val (.sl (ci .nil) aY), .vi (c7), .val (.bool c8)])]⟩
abbrev Zq.s19 (x0:(Z3))(x1:Z7)(y1:Yi)(y2:(Z3)×Int×Int×Int×Int×Int×Int×Int×Int×List Int×Int×List Int×Int×Int×List Int×Int×Bool×List Z9)(y4:(Z3)×List Z0):St:=⟨[(0, .v false [.ptr 0 0]),(3, .v false [.ptr 64000 0]),(4, .v false [.ptr 64064 0]),(5, .v false [.ptr 128384 0]),(8, .v false [.ptr 384128 0]),(9, .v false [.val (.sl V.eEntry y4.2)])],[(0, .box [.val (.sl (.cons (.int .u8) .nil) x0.1), .vi (y4.1.2.1), .vi (y4.1.2.2)]),(64000, .box [.val (.sl V.eSigned x1.1), .val (.sl V.eEntry x1.2)]),(64064, .box [.nil0, .nil0]),(128384, .box [.vi (y1.1), .vi (y1.2.1), .vi (y1.2.2.1), .vi (y1.2.2.2.1), .vi (y1.2.2.2.2.1), .vi (y1.2.2.2.2.2.1), .vi (y1.2.2.2.2.2.2.1), .vi (y1.2.2.2.2.2.2.2.1), .val (.sl (ci .nil) y1.2.2.2.2.2.2.2.2.1), .vi (y1.2.2.2.2.2.2.2.2.2.1), .val (.sl (ci .nil) y1.2.2.2.2.2.2.2.2.2.2.1), .vi (y1.2.2.2.2.2.2.2.2.2.2.2.1), .vi (y1.2.2.2.2.2.2.2.2.2.2.2.2.1), .val (.sl (ci .nil) y1.2.2.2.2.2.2.2.2.2.2.2.2.2.1), .vi (y1.2.2.2.2.2.2.2.2.2.2.2.2.2.2.1), .val (.bool y1.2.2.2.2.2.2.2.2.2.2.2.2.2.2.2.1)]),(384128, .box [.vi (y2.2.1), .vi (y2.2.2.1), .vi (y2.2.2.2.1), .vi (y2.2.2.2.2.1), .vi (y2.2.2.2.2.2.1), .vi (y2.2.2.2.2.2.2.1), .vi (y2.2.2.2.2.2.2.2.1), .vi (y2.2.2.2.2.2.2.2.2.1), .ref 64000000000024584200, .vi (y2.2.2.2.2.2.2.2.2.2.2.1), .ref 64000000000024584202, .vi (y2.2.2.2.2.2.2.2.2.2.2.2.2.1), .vi (y2.2.2.2.2.2.2.2.2.2.2.2.2.2.1), .ref 64000000000024584205, .vi (y2.2.2.2.2.2.2.2.2.2.2.2.2.2.2.2.1), .val (.bool y2.2.2.2.2.2.2.2.2.2.2.2.2.2.2.2.2.1)]),(64000000000024584200, .row (ci .nil) true y2.2.2.2.2.2.2.2.2.2.1),(64000000000024584202, .row (ci .nil) true y2.2.2.2.2.2.2.2.2.2.2.2.1),(64000000000024584205, .row (ci .nil) true y2.2.2.2.2.2.2.2.2.2.2.2.2.2.2.1)]⟩
theorem Zq.r27 (x0:(Z3))(x1:Z7)(bQ:List Z0)(aX:Int)(bR:Int)(bS:Int)(bT:Int)(bU:Int)(bV:Int)(bC:Int)(bD:Int)(bE:Int)(bW:Int)(bX:List Int)(bY:Int)(bF:List Int)(bG:Int)(bZ:Int)(aY:List Int)(c7:Int)(c8:Bool)(fA:List Int):joinF Zq.E f56.ntmps [1,1,1,1,1,1,1] [] (codeOf f56) (Zq.kt x0 x1) (Zq.s27 x0 x1 bQ aX bW bR bS bT bU bV bC bD bE bX bY bF bG bZ aY c7 c8 fA)=Zq.g27 x0 x1 bQ aX bW bR bS bT bU bV bC bD bE bX bY bF bG bZ aY c7 c8 fA:=by kernel_rfl
theorem Zq.e27 (x0:(Z3))(x1:Z7)(bQ:List Z0)(aX:Int)(bR:Int)(bS:Int)(bT:Int)(bU:Int)(bV:Int)(bC:Int)(bD:Int)(bE:Int)(bW:Int)(bX:List Int)(bY:Int)(bF:List Int)(bG:Int)(bZ:Int)(aY:List Int)(c7:Int)(c8:Bool)(fA:List Int):jn (joinF Zq.E f56.ntmps [1,1,1,1,1,1,1] [] (codeOf f56) (Zq.kt x0 x1)) (Zq.s27 x0 x1 bQ aX bW bR bS bT bU bV bC bD bE bX bY bF bG bZ aY c7 c8 fA)=Zq.l27 x0 x1 bQ aX bW bR bS bT bU bV bC bD bE bX bY bF bG bZ aY c7 c8 fA:=by
 rw[jn_eq,Zq.r27]
 rfl
theorem Zq.r25 (x0:(Z3))(x1:Z7)(y1:Yi)(bQ:List Z0)(aX:Int)(bW:Int)(bR:Int)(bS:Int)(bT:Int)(bU:Int)(bV:Int)(bC:Int)(bD:Int)(bE:Int)(bX:List Int)(bY:Int)(bF:List Int)(bG:Int)(bZ:Int)(aY:List Int)(c7:Int)(c8:Bool):joinF Zq.E f56.ntmps [1,1,1,1,1,1] [] (codeOf f56) (Zq.kt x0 x1) (Zq.s25 x0 x1 y1 bQ aX bW bR bS bT bU bV bC bD bE bX bY bF bG bZ aY c7 c8)=Zq.g25 x0 x1 y1 (λfA=>jn (joinF Zq.E f56.ntmps [1,1,1,1,1,1,1] [] (codeOf f56) (Zq.kt x0 x1)) (Zq.s27 x0 x1 bQ aX bW bR bS bT bU bV bC bD bE bX bY bF bG bZ aY c7 c8 fA)) bQ aX bW bR bS bT bU bV bC bD bE bX bY bF bG bZ aY c7 c8:=by kernel_rfl
theorem Zq.e25 (x0:(Z3))(x1:Z7)(y1:Yi)(bQ:List Z0)(aX:Int)(bW:Int)(bR:Int)(bS:Int)(bT:Int)(bU:Int)(bV:Int)(bC:Int)(bD:Int)(bE:Int)(bX:List Int)(bY:Int)(bF:List Int)(bG:Int)(bZ:Int)(aY:List Int)(c7:Int)(c8:Bool):jn (joinF Zq.E f56.ntmps [1,1,1,1,1,1] [] (codeOf f56) (Zq.kt x0 x1)) (Zq.s25 x0 x1 y1 bQ aX bW bR bS bT bU bV bC bD bE bX bY bF bG bZ aY c7 c8)=Zq.l25 x0 x1 y1 bQ aX bW bR bS bT bU bV bC bD bE bX bY bF bG bZ aY c7 c8:=by
 rw[jn_eq,Zq.r25]
 simp only[Zq.e27]
 rfl
theorem Zq.r19 (x0:(Z3))(x1:Z7)(y1:Yi)(y2:(Z3)×Int×Int×Int×Int×Int×Int×Int×Int×List Int×Int×List Int×Int×Int×List Int×Int×Bool×List Z9)(y4:(Z3)×List Z0):joinF Zq.E f56.ntmps [1,1,1,1,1,1,0,1,0] [] (codeOf f56) (Zq.kt x0 x1) (Zq.s19 x0 x1 y1 y2 y4)=Zq.g19 x0 x1 y1 y2 y4 (λy1 bQ aX bW bR bS bT bU bV bC bD bE bX bY bF bG bZ aY c7 c8=>jn (joinF Zq.E f56.ntmps [1,1,1,1,1,1] [] (codeOf f56) (Zq.kt x0 x1)) (Zq.s25 x0 x1 y1 bQ aX bW bR bS bT bU bV bC bD bE bX bY bF bG bZ aY c7 c8)):=by kernel_rfl
theorem Zq.e19 (x0:(Z3))(x1:Z7)(y1:Yi)(y2:(Z3)×Int×Int×Int×Int×Int×Int×Int×Int×List Int×Int×List Int×Int×Int×List Int×Int×Bool×List Z9)(y4:(Z3)×List Z0):jn (joinF Zq.E f56.ntmps [1,1,1,1,1,1,0,1,0] [] (codeOf f56) (Zq.kt x0 x1)) (Zq.s19 x0 x1 y1 y2 y4)=Zq.l19 x0 x1 y1 y2 y4:=by
 rw[jn_eq,Zq.r19]
 simp only[Zq.e25]
 rfl
theorem Zq.v (x0:(Z3))(x1:Z7):V.evBody Zq.E Zq.con f56 ((x0,x1.1,x1.2):(Z3)×List Z4×List Z0)=Zq.b x0 x1 (λy1 y2 y4=>jn (joinF Zq.E f56.ntmps [1,1,1,1,1,1,0,1,0] [] (codeOf f56) (Zq.kt x0 x1)) (Zq.s19 x0 x1 y1 y2 y4)) (λy1 bQ aX bW bR bS bT bU bV bC bD bE bX bY bF bG bZ aY c7 c8=>jn (joinF Zq.E f56.ntmps [1,1,1,1,1,1] [] (codeOf f56) (Zq.kt x0 x1)) (Zq.s25 x0 x1 y1 bQ aX bW bR bS bT bU bV bC bD bE bX bY bF bG bZ aY c7 c8)):=by kernel_rfl
theorem Zq.eq (x0:(Z3))(x1:Z7):V.evBody Zq.E Zq.con f56 ((x0,x1.1,x1.2):(Z3)×List Z4×List Z0)=Zq x0 x1:=by
 rw[Zq.v]
 simp only[Zq.e19,Zq.e25]
 rfl
theorem Zq.ok :V.Valid prog 56 Zq.con:=
 V.fo (tab_cons W6.ok (tab_cons Zd.ok (tab_cons Xu.ok (tab_cons Ze.ok (tab_cons ZG.ok (tab_cons ZT.ok (tab_cons XV.ok tab_nil))))))) func56 (by kernel_rfl) (λx y h=>(show V.evBody Zq.E Zq.con f56 x=_ from Zq.eq x.1 x.2).trans (V.cfl (by kernel_rfl) h))
abbrev ZC.con :V.Con:=⟨(.cons (.ptr (.cons (.sl (.cons (.int .u8) .nil)) (ci (ci .nil)))) .nil),(.cons (.ptr (.cons (.sl (.cons (.int .u8) .nil)) (ci (ci .nil)))) (.cons (.sl V.eSigned) (.cons (.sl V.eEntry) .nil))),λ(x:(Z3))=>ZC x,[(0,false)],[(false,1)],[(true,2)],[false,false],[]⟩
abbrev ZC.E :Env:=V.mkE V.tys [(53,Zd.con),(56,Zq.con),(96,ZG.con),(134,ZI.con),(142,Xl.con)] [(7,[0,2,4],[]),(8,[0,2,4,6],[])] [] [192640] [] [(2,[1000])]
abbrev ZC.kt (x0:(Z3)):Kt ((Z3)×List Z4×List Z0):=ktOf ZC.E ZC.con f99 ((x0):(Z3))
abbrev ZC.s8 (x0:(Z3))(aU:Int)(aG:Int)(aK:Int)(d5:List Z4)(d6:List Z0):St:=⟨[(0, .v false [.ptr 0 0]),(2, .v false [.ptr 64000 0]),(4, .v false [.ptr 192896 0]),(6, .v false [.vi (aU)])],[(0, .box [.val (.sl (.cons (.int .u8) .nil) x0.1), .vi (aG), .vi (aK)]),(64000, .box [.nil0, .nil0]),(192896, .box [.val (.sl V.eSigned d5), .val (.sl V.eEntry d6)])]⟩
abbrev ZC.s7 (x0:(Z3))(aT:Int)(bO:Int)(c9:List Z4)(cA:List Z0):St:=⟨[(0, .v false [.ptr 0 0]),(2, .v false [.ptr 64000 0]),(4, .v false [.ptr 192896 0])],[(0, .box [.val (.sl (.cons (.int .u8) .nil) x0.1), .vi (aT), .vi (bO)]),(64000, .box [.nil0, .nil0]),(192896, .box [.val (.sl V.eSigned c9), .val (.sl V.eEntry cA)])]⟩
theorem ZC.r8 (x0:(Z3))(R:St->Option ((Z3)×List Z4×List Z0))(aU:Int)(aG:Int)(aK:Int)(d5:List Z4)(d6:List Z0):loopF ZC.E f99.ntmps [1,1,1,0,1,0] [] (codeOf f99) (ZC.kt x0) R (ZC.s8 x0 aU aG aK d5 d6)=ZC.g8 x0 (λaU aG aK d5 d6=>R (ZC.s8 x0 aU aG aK d5 d6)) aU aG aK d5 d6:=by kernel_rfl
theorem ZC.e8 (x0:(Z3)):∀(n:Nat) (aU:Int) (aG:Int) (aK:Int) (d5:List Z4) (d6:List Z0),loopN (loopF ZC.E f99.ntmps [1,1,1,0,1,0] [] (codeOf f99) (ZC.kt x0)) n (ZC.s8 x0 aU aG aK d5 d6)=ZC.l8 x0 n aU aG aK d5 d6:=by
 intro n
 induction n with
 |zero=>intros;rw[loopN_z];rfl
 |succ n ih=>
  intro aU aG aK d5 d6
  rw[loopN_s,ZC.r8]
  simp only[ih]
  first|exact(ZC.u8 ..).symm|rfl
theorem ZC.r7 (x0:(Z3))(aT:Int)(bO:Int)(c9:List Z4)(cA:List Z0):joinF ZC.E f99.ntmps [1,1] [] (codeOf f99) (ZC.kt x0) (ZC.s7 x0 aT bO c9 cA)=ZC.g7 x0 (λaU aG aK d5 d6=>loopN (loopF ZC.E f99.ntmps [1,1,1,0,1,0] [] (codeOf f99) (ZC.kt x0)) V.KK (ZC.s8 x0 aU aG aK d5 d6)) aT bO c9 cA:=by kernel_rfl
theorem ZC.e7 (x0:(Z3))(aT:Int)(bO:Int)(c9:List Z4)(cA:List Z0):jn (joinF ZC.E f99.ntmps [1,1] [] (codeOf f99) (ZC.kt x0)) (ZC.s7 x0 aT bO c9 cA)=ZC.l7 x0 aT bO c9 cA:=by
 rw[jn_eq,ZC.r7]
 simp only[ZC.e8]
 rfl
theorem ZC.v (x0:(Z3)):V.evBody ZC.E ZC.con f99 ((x0):(Z3))=ZC.b x0 (λaT bO c9 cA=>jn (joinF ZC.E f99.ntmps [1,1] [] (codeOf f99) (ZC.kt x0)) (ZC.s7 x0 aT bO c9 cA)):=by kernel_rfl
theorem ZC.eq (x0:(Z3)):V.evBody ZC.E ZC.con f99 ((x0):(Z3))=ZC x0:=by
 rw[ZC.v]
 simp only[ZC.e7]
 rfl
theorem ZC.ok :V.Valid prog 99 ZC.con:=
 V.fo (tab_cons Zd.ok (tab_cons Zq.ok (tab_cons ZG.ok (tab_cons ZI.ok (tab_cons Xl.ok tab_nil))))) func99 (by kernel_rfl) (λx y h=>(show V.evBody ZC.E ZC.con f99 x=_ from ZC.eq x).trans (V.cfl (by kernel_rfl) h))
abbrev Yt.con :V.Con:=⟨(.cons (.sl (.cons (.sl V.eSigned) (.cons (.sl V.eEntry) .nil))) (ci .nil)),(.cons (.sl (.cons (.sl V.eSigned) (.cons (.sl V.eEntry) .nil))) (ci .nil)),λ(x:List Z7×Int)=>Yt x,[],[(true,2)],[(true,2)],[true,false],[]⟩
abbrev Yt.E :Env:=V.mkE V.tys [(60,We.con)] [(6,[1,2,3,4],[(64000000000008204288,(.cons (.sl V.eSigned) (.cons (.sl V.eEntry) .nil)),true)])] [(5,8)] [] [] [(5,[0,1])]
abbrev Yt.kt (x0:Z8):Kt Z8:=ktOf Yt.E Yt.con f54 ((x0.1,x0.2):List Z7×Int)
abbrev Yt.s6 (x0:Z8)(aH:Int)(aN:List Z7):St:=⟨[(1, .v false [.ptr 64000 0]),(2, .v false [.ptr 64064 0]),(3, .v false [.ptr 128192 0]),(4, .v false [.vi (aH)])],[(64000, .box [.val (.sl (.cons (.sl V.eSigned) (.cons (.sl V.eEntry) .nil)) x0.1), .vi (x0.2)]),(64064, .box [.nil0, .vi ((0:Int))]),(128192, .box [.ref 64000000000008204288, .vi (x0.2)]),(64000000000008204288, .row (.cons (.sl V.eSigned) (.cons (.sl V.eEntry) .nil)) true aN)]⟩
theorem Yt.r6 (x0:Z8)(R:St->Option Z8)(aH:Int)(aN:List Z7):loopF Yt.E f54.ntmps [1,1,0,1,0] [] (codeOf f54) (Yt.kt x0) R (Yt.s6 x0 aH aN)=Yt.g6 x0 (λaH aN=>R (Yt.s6 x0 aH aN)) aH aN:=by kernel_rfl
theorem Yt.e6 (x0:Z8):∀(n:Nat) (aH:Int) (aN:List Z7),loopN (loopF Yt.E f54.ntmps [1,1,0,1,0] [] (codeOf f54) (Yt.kt x0)) n (Yt.s6 x0 aH aN)=Yt.l6 x0 n aH aN:=by
 intro n
 induction n with
 |zero=>intros;rw[loopN_z];rfl
 |succ n ih=>
  intro aH aN
  rw[loopN_s,Yt.r6]
  simp only[ih]
  first|exact(Yt.u6 ..).symm|rfl
theorem Yt.v (x0:Z8):V.evBody Yt.E Yt.con f54 ((x0.1,x0.2):List Z7×Int)=Yt.b x0 (λaH aN=>loopN (loopF Yt.E f54.ntmps [1,1,0,1,0] [] (codeOf f54) (Yt.kt x0)) V.KK (Yt.s6 x0 aH aN)):=by kernel_rfl
theorem Yt.eq (x0:Z8):V.evBody Yt.E Yt.con f54 ((x0.1,x0.2):List Z7×Int)=Yt x0:=by
 rw[Yt.v]
 simp only[Yt.e6]
 rfl
theorem Yt.ok :V.Valid prog 54 Yt.con:=
 V.fo (tab_cons We.ok tab_nil) func54 (by kernel_rfl) (λx y h=>(show V.evBody Yt.E Yt.con f54 x=_ from Yt.eq x).trans (V.cfl (by kernel_rfl) h))
abbrev Yf.con :V.Con:=⟨(.cons (.sl (.cons (.sl V.eSigned) (.cons (.sl V.eEntry) .nil))) (ci .nil)),(.cons .bool .nil),λ(x:List Z7×Int)=>Yf x,[],[(true,2)],[(false,1)],[false],[]⟩
abbrev Yf.E :Env:=V.mkE V.tys [(37,Wa.con),(38,Y3.con)] [(4,[1,3],[])] [] [] [] []
abbrev Yf.kt (x0:Z8):Kt Bool:=ktOf Yf.E Yf.con f10 ((x0.1,x0.2):List Z7×Int)
abbrev Yf.s4 (x0:Z8)(aZ:Int):St:=⟨[(1, .v false [.ptr 64000 0]),(3, .v false [.vi (aZ)])],[(64000, .box [.val (.sl (.cons (.sl V.eSigned) (.cons (.sl V.eEntry) .nil)) x0.1), .vi (x0.2)])]⟩
theorem Yf.r4 (x0:Z8)(R:St->Option Bool)(aZ:Int):loopF Yf.E f10.ntmps [1,0,1,0] [] (codeOf f10) (Yf.kt x0) R (Yf.s4 x0 aZ)=Yf.g4 x0 (λaZ=>R (Yf.s4 x0 aZ)) aZ:=by kernel_rfl
theorem Yf.e4 (x0:Z8):∀(n:Nat) (aZ:Int),loopN (loopF Yf.E f10.ntmps [1,0,1,0] [] (codeOf f10) (Yf.kt x0)) n (Yf.s4 x0 aZ)=Yf.l4 x0 n aZ:=by
 intro n
 induction n with
 |zero=>intros;rw[loopN_z];rfl
 |succ n ih=>
  intro aZ
  rw[loopN_s,Yf.r4]
  simp only[ih]
  first|exact(Yf.u4 ..).symm|rfl
theorem Yf.v (x0:Z8):V.evBody Yf.E Yf.con f10 ((x0.1,x0.2):List Z7×Int)=Yf.b x0 (λaZ=>loopN (loopF Yf.E f10.ntmps [1,0,1,0] [] (codeOf f10) (Yf.kt x0)) V.KK (Yf.s4 x0 aZ)):=by kernel_rfl
theorem Yf.eq (x0:Z8):V.evBody Yf.E Yf.con f10 ((x0.1,x0.2):List Z7×Int)=Yf x0:=by
 rw[Yf.v]
 simp only[Yf.e4]
 rfl
theorem Yf.ok :V.Valid prog 10 Yf.con:=
 V.fo (tab_cons Wa.ok (tab_cons Y3.ok tab_nil)) func10 (by kernel_rfl) (λx y h=>(show V.evBody Yf.E Yf.con f10 x=_ from Yf.eq x).trans (V.cfl (by kernel_rfl) h))
abbrev Wq.con :V.Con:=⟨(.cons (.sl V.eSigned) (.cons (.sl V.eEntry) .nil)),(ci .nil),λ(x:List Z4×List Z0)=>Wq x,[],[(true,2)],[(false,1)],[false],[]⟩
abbrev Wq.E :Env:=V.mkE V.tys [(13,W6.con),(37,Wa.con)] [] [] [] [] []
theorem Wq.eq (x0:Z7):V.evBody Wq.E Wq.con f20 ((x0.1,x0.2):List Z4×List Z0)=Wq x0:=by kernel_rfl
theorem Wq.ok :V.Valid prog 20 Wq.con:=
 V.fo (tab_cons W6.ok (tab_cons Wa.ok tab_nil)) func20 (by kernel_rfl) (λx y h=>(show V.evBody Wq.E Wq.con f20 x=_ from Wq.eq x).trans (V.cfl (by kernel_rfl) h))
abbrev Ya.con :V.Con:=⟨(.cons (.sl (.cons (.sl V.eSigned) (.cons (.sl V.eEntry) .nil))) (ci (ci .nil))),(ci .nil),λ(x:List Z7×Int×Int)=>Ya (x.1,x.2.1) x.2.2,[],[(true,2),(false,1)],[(false,1)],[false],[]⟩
abbrev Ya.E :Env:=V.mkE V.tys [(20,Wq.con)] [(4,[1,2,5],[])] [] [] [] []
abbrev Ya.kt (x0:Z8)(x1:Int):Kt Int:=ktOf Ya.E Ya.con f32 ((x0.1,x0.2,x1):List Z7×Int×Int)
abbrev Ya.s4 (x0:Z8)(x1:Int)(aI:Int):St:=⟨[(1, .v false [.vi (x1)]),(2, .v false [.ptr 64000 0]),(5, .v false [.vi (aI)])],[(64000, .box [.val (.sl (.cons (.sl V.eSigned) (.cons (.sl V.eEntry) .nil)) x0.1), .vi (x0.2)])]⟩
theorem Ya.r4 (x0:Z8)(x1:Int)(R:St->Option Int)(aI:Int):loopF Ya.E f32.ntmps [1,0,1,0] [] (codeOf f32) (Ya.kt x0 x1) R (Ya.s4 x0 x1 aI)=Ya.g4 x0 x1 (λaI=>R (Ya.s4 x0 x1 aI)) aI:=by kernel_rfl
theorem Ya.e4 (x0:Z8)(x1:Int):∀(n:Nat) (aI:Int),loopN (loopF Ya.E f32.ntmps [1,0,1,0] [] (codeOf f32) (Ya.kt x0 x1)) n (Ya.s4 x0 x1 aI)=Ya.l4 x0 x1 n aI:=by
 intro n
 induction n with
 |zero=>intros;rw[loopN_z];rfl
 |succ n ih=>
  intro aI
  rw[loopN_s,Ya.r4]
  simp only[ih]
  first|exact(Ya.u4 ..).symm|rfl
theorem Ya.v (x0:Z8)(x1:Int):V.evBody Ya.E Ya.con f32 ((x0.1,x0.2,x1):List Z7×Int×Int)=Ya.b x0 x1 (λaI=>loopN (loopF Ya.E f32.ntmps [1,0,1,0] [] (codeOf f32) (Ya.kt x0 x1)) V.KK (Ya.s4 x0 x1 aI)):=by kernel_rfl
theorem Ya.eq (x0:Z8)(x1:Int):V.evBody Ya.E Ya.con f32 ((x0.1,x0.2,x1):List Z7×Int×Int)=Ya x0 x1:=by
 rw[Ya.v]
 simp only[Ya.e4]
 rfl
theorem Ya.ok :V.Valid prog 32 Ya.con:=
 V.fo (tab_cons Wq.ok tab_nil) func32 (by kernel_rfl) (λx y h=>(show V.evBody Ya.E Ya.con f32 x=_ from Ya.eq (x.1,x.2.1) x.2.2).trans (V.cfl (by kernel_rfl) h))
abbrev X5.con :V.Con:=⟨V.eRServerZone,(.cons (.sl (.cons (.sl V.eSigned) (.cons (.sl V.eEntry) .nil))) (ci (.cons .bool .nil))),λ(x:List Z7×Int×List Z4×List Z0)=>X5 (x.1,x.2.1) x.2.2,[],[(true,2),(true,2)],[(true,2),(false,1)],[true,false,false],[]⟩
abbrev X5.E :Env:=V.mkE V.tys [(10,Yf.con),(20,Wq.con),(32,Ya.con),(37,Wa.con),(54,Yt.con),(60,We.con)] [(7,[2,3,4,6,17],[])] [(4,3),(6,5),(10,4)] [] [] [(10,[0,1])]
abbrev X5.kt (x0:Z8)(x1:Z7):Kt Wf:=ktOf X5.E X5.con f18 ((x0.1,x0.2,x1.1,x1.2):List Z7×Int×List Z4×List Z0)
abbrev X5.s7 (x0:Z8)(x1:Z7)(y1:Z8)(bN:Bool):St:=⟨[(2, .v false [.ptr 64000 0]),(3, .v false [.ptr 64064 0]),(4, .v false [.ptr 64128 0]),(6, .v false [.ptr 128128 0]),(17, .v false [.val (.bool bN)])],[(64000, .box [.val (.sl (.cons (.sl V.eSigned) (.cons (.sl V.eEntry) .nil)) x0.1), .vi (x0.2)]),(64064, .box [.val (.sl V.eSigned x1.1), .val (.sl V.eEntry x1.2)]),(64128, .box [.nil0, .vi ((0:Int))]),(128128, .box [.ref 64000000000008200192, .vi (y1.2)]),(64000000000008200192, .row (.cons (.sl V.eSigned) (.cons (.sl V.eEntry) .nil)) true y1.1)]⟩
theorem X5.r7 (x0:Z8)(x1:Z7)(y1:Z8)(bN:Bool):joinF X5.E f18.ntmps [1,1,0] [] (codeOf f18) (X5.kt x0 x1) (X5.s7 x0 x1 y1 bN)=X5.g7 x0 x1 y1 bN:=by kernel_rfl
theorem X5.e7 (x0:Z8)(x1:Z7)(y1:Z8)(bN:Bool):jn (joinF X5.E f18.ntmps [1,1,0] [] (codeOf f18) (X5.kt x0 x1)) (X5.s7 x0 x1 y1 bN)=X5.l7 x0 x1 y1 bN:=by
 rw[jn_eq,X5.r7]
 rfl
theorem X5.v (x0:Z8)(x1:Z7):V.evBody X5.E X5.con f18 ((x0.1,x0.2,x1.1,x1.2):List Z7×Int×List Z4×List Z0)=X5.b x0 x1 (λy1 bN=>jn (joinF X5.E f18.ntmps [1,1,0] [] (codeOf f18) (X5.kt x0 x1)) (X5.s7 x0 x1 y1 bN)):=by kernel_rfl
theorem X5.eq (x0:Z8)(x1:Z7):V.evBody X5.E X5.con f18 ((x0.1,x0.2,x1.1,x1.2):List Z7×Int×List Z4×List Z0)=X5 x0 x1:=by
 rw[X5.v]
 simp only[X5.e7]
 rfl
theorem X5.ok :V.Valid prog 18 X5.con:=
 V.fo (tab_cons Yf.ok (tab_cons Wq.ok (tab_cons Ya.ok (tab_cons Wa.ok (tab_cons Yt.ok (tab_cons We.ok tab_nil)))))) func18 (by kernel_rfl) (λx y h=>(show V.evBody X5.E X5.con f18 x=_ from X5.eq (x.1,x.2.1) x.2.2).trans (V.cfl (by kernel_rfl) h))
abbrev YB.con :V.Con:=⟨(.cons (.ptr (.cons (.sl (.cons (.int .u8) .nil)) (ci (ci .nil)))) .nil),(.cons (.ptr (.cons (.sl (.cons (.int .u8) .nil)) (ci (ci .nil)))) (.cons (.sl (.cons (.sl V.eSigned) (.cons (.sl V.eEntry) .nil))) (ci .nil))),λ(x:(Z3))=>YB x,[(0,false)],[(false,1)],[(true,2)],[true,false],[]⟩
abbrev YB.E :Env:=V.mkE V.tys [(18,X5.con),(53,Zd.con),(55,Xu.con),(99,ZC.con)] [(6,[0,2,3,4],[(64000000000008196096,(.cons (.sl V.eSigned) (.cons (.sl V.eEntry) .nil)),true)])] [] [] [] [(5,[1000])]
abbrev YB.kt (x0:(Z3)):Kt ((Z3)×List Z7×Int):=ktOf YB.E YB.con f63 ((x0):(Z3))
abbrev YB.s6 (x0:(Z3))(aH:Int)(aA:Int)(aD:Int)(aN:Int)(cV:List Z7):St:=⟨[(0, .v false [.ptr 0 0]),(2, .v false [.ptr 64000 0]),(3, .v false [.ptr 128064 0]),(4, .v false [.vi (aH)])],[(0, .box [.val (.sl (.cons (.int .u8) .nil) x0.1), .vi (aA), .vi (aD)]),(64000, .box [.nil0, .vi ((0:Int))]),(128064, .box [.ref 64000000000008196096, .vi (aN)]),(64000000000008196096, .row (.cons (.sl V.eSigned) (.cons (.sl V.eEntry) .nil)) true cV)]⟩
theorem YB.r6 (x0:(Z3))(R:St->Option ((Z3)×List Z7×Int))(aH:Int)(aA:Int)(aD:Int)(aN:Int)(cV:List Z7):loopF YB.E f63.ntmps [1,1,0,1,0] [] (codeOf f63) (YB.kt x0) R (YB.s6 x0 aH aA aD aN cV)=YB.g6 x0 (λaH aA aD aN cV=>R (YB.s6 x0 aH aA aD aN cV)) aH aA aD aN cV:=by kernel_rfl
theorem YB.e6 (x0:(Z3)):∀(n:Nat) (aH:Int) (aA:Int) (aD:Int) (aN:Int) (cV:List Z7),loopN (loopF YB.E f63.ntmps [1,1,0,1,0] [] (codeOf f63) (YB.kt x0)) n (YB.s6 x0 aH aA aD aN cV)=YB.l6 x0 n aH aA aD aN cV:=by
 intro n
 induction n with
 |zero=>intros;rw[loopN_z];rfl
 |succ n ih=>
  intro aH aA aD aN cV
  rw[loopN_s,YB.r6]
  simp only[ih]
  first|exact(YB.u6 ..).symm|rfl
theorem YB.v (x0:(Z3)):V.evBody YB.E YB.con f63 ((x0):(Z3))=YB.b x0 (λaH aA aD aN cV=>loopN (loopF YB.E f63.ntmps [1,1,0,1,0] [] (codeOf f63) (YB.kt x0)) V.KK (YB.s6 x0 aH aA aD aN cV)):=by kernel_rfl
theorem YB.eq (x0:(Z3)):V.evBody YB.E YB.con f63 ((x0):(Z3))=YB x0:=by
 rw[YB.v]
 simp only[YB.e6]
 rfl
theorem YB.ok :V.Valid prog 63 YB.con:=
 V.fo (tab_cons X5.ok (tab_cons Zd.ok (tab_cons Xu.ok (tab_cons ZC.ok tab_nil)))) func63 (by kernel_rfl) (λx y h=>(show V.evBody YB.E YB.con f63 x=_ from YB.eq x).trans (V.cfl (by kernel_rfl) h))
abbrev XG.con :V.Con:=⟨(.cons (.ptr (.cons (.sl (.cons (.int .u8) .nil)) (ci (ci .nil)))) (.cons (.sl (ci .nil)) .nil)),(.cons (.ptr (.cons (.sl (.cons (.int .u8) .nil)) (ci (ci .nil)))) (ci .nil)),λ(x:(Z3)×List Int)=>XG x.1 x.2,[(0,false)],[(false,1),(false,1)],[(false,1)],[false],[]⟩
abbrev XG.E :Env:=V.mkE V.tys [(53,Zd.con)] [] [] [] [] []
theorem XG.eq (x0:(Z3))(x1:List Int):V.evBody XG.E XG.con f64 ((x0,x1):(Z3)×List Int)=XG x0 x1:=by kernel_rfl
theorem XG.ok :V.Valid prog 64 XG.con:=
 V.fo (tab_cons Zd.ok tab_nil) func64 (by kernel_rfl) (λx y h=>(show V.evBody XG.E XG.con f64 x=_ from XG.eq x.1 x.2).trans (V.cfl (by kernel_rfl) h))
abbrev Wj.con :V.Con:=⟨(.cons (.ptr (.cons (.sl (.cons (.int .u8) .nil)) (ci (ci .nil)))) .nil),(.cons (.ptr (.cons (.sl (.cons (.int .u8) .nil)) (ci (ci .nil)))) (.cons .str .nil)),λ(x:(Z3))=>Wj x,[(0,false)],[(false,1)],[(false,1)],[false],[]⟩
abbrev Wj.E :Env:=V.mkE V.tys [(55,Xu.con),(105,U3.con),(106,WL.con)] [] [] [] [] []
theorem Wj.eq (x0:(Z3)):V.evBody Wj.E Wj.con f66 ((x0):(Z3))=Wj x0:=by kernel_rfl
theorem Wj.ok :V.Valid prog 66 Wj.con:=
 V.fo (tab_cons Xu.ok (tab_cons U3.ok (tab_cons WL.ok tab_nil))) func66 (by kernel_rfl) (λx y h=>(show V.evBody Wj.E Wj.con f66 x=_ from Wj.eq x).trans (V.cfl (by kernel_rfl) h))
abbrev Qk.con :V.Con:=⟨(.cons (.ptr (.cons (.sl (.cons (.int .u8) .nil)) (ci (ci .nil)))) .nil),(.cons (.ptr (.cons (.sl (.cons (.int .u8) .nil)) (ci (ci .nil)))) (.cons (.sl (.cons .str .nil)) .nil)),λ(x:(Z3))=>Qk x,[(0,false)],[(false,1)],[(false,1)],[true],[]⟩
abbrev Qk.E :Env:=V.mkE V.tys [(53,Zd.con),(66,Wj.con),(176,Yu.con)] [] [] [] [] []
theorem Qk.eq (x0:(Z3)):V.evBody Qk.E Qk.con f178 ((x0):(Z3))=Qk x0:=by kernel_rfl
theorem Qk.ok :V.Valid prog 178 Qk.con:=
 V.fo (tab_cons Zd.ok (tab_cons Wj.ok (tab_cons Yu.ok tab_nil))) func178 (by kernel_rfl) (λx y h=>(show V.evBody Qk.E Qk.con f178 x=_ from Qk.eq x).trans (V.cfl (by kernel_rfl) h))
abbrev Ql.con :V.Con:=⟨(.cons (.ptr (.cons (.sl (.cons (.int .u8) .nil)) (ci (ci .nil)))) .nil),(.cons (.ptr (.cons (.sl (.cons (.int .u8) .nil)) (ci (ci .nil)))) (.cons .str (ci (ci (.cons (.sl (.cons .str .nil)) .nil))))),λ(x:(Z3))=>Ql x,[(0,false)],[(false,1)],[(true,4)],[false,false,false,true],[]⟩
abbrev Ql.E :Env:=V.mkE V.tys [(53,Zd.con),(64,XG.con),(66,Wj.con),(137,Un.con),(178,Qk.con)] [] [] [] [] []
theorem Ql.eq (x0:(Z3)):V.evBody Ql.E Ql.con f143 ((x0):(Z3))=Ql x0:=by kernel_rfl
theorem Ql.ok :V.Valid prog 143 Ql.con:=
 V.fo (tab_cons Zd.ok (tab_cons XG.ok (tab_cons Wj.ok (tab_cons Un.ok (tab_cons Qk.ok tab_nil))))) func143 (by kernel_rfl) (λx y h=>(show V.evBody Ql.E Ql.con f143 x=_ from Ql.eq x).trans (V.cfl (by kernel_rfl) h))
abbrev YM.con :V.Con:=⟨(.cons (.ptr (.cons (.sl (.cons (.int .u8) .nil)) (ci (ci .nil)))) .nil),(.cons (.ptr (.cons (.sl (.cons (.int .u8) .nil)) (ci (ci .nil)))) (.cons (.sl V.eEntry) .nil)),λ(x:(Z3))=>YM x,[(0,false)],[(false,1)],[(false,1)],[true],[]⟩
abbrev YM.E :Env:=V.mkE V.tys [(53,Zd.con),(96,ZG.con),(136,Zj.con),(143,Ql.con),(144,UK.con)] [(14,[0,3,19,20,21],[])] [] [] [] []
abbrev YM.kt (x0:(Z3)):Kt ((Z3)×List Z0):=ktOf YM.E YM.con f100 ((x0):(Z3))
abbrev YM.s14 (x0:(Z3))(y2:(Z3)×Int)(cZ:Int)(cP:Int)(d3:List Z0)(cS:List ByteArray):St:=⟨[(0, .v false [.ptr 0 0]),(3, .v false [.ref 64000089600192]),(19, .v false [.ref 64000089601216]),(20, .v false [.vi (cZ)]),(21, .v false [.vi (cP)])],[(0, .box [.val (.sl (.cons (.int .u8) .nil) x0.1), .vi (y2.1.2.1), .vi (y2.1.2.2)]),(64000089600192, .row V.eEntry true d3),(64000089601216, .row (.cons .str .nil) true cS)]⟩
theorem YM.r14 (x0:(Z3))(y2:(Z3)×Int)(R:St->Option ((Z3)×List Z0))(cZ:Int)(cP:Int)(d3:List Z0)(cS:List ByteArray):loopF YM.E f100.ntmps [1,1,0,1,0,1,1,1,0,1,0] [] (codeOf f100) (YM.kt x0) R (YM.s14 x0 y2 cZ cP d3 cS)=YM.g14 x0 y2 (λcZ cP d3 cS=>R (YM.s14 x0 y2 cZ cP d3 cS)) cZ cP d3 cS:=by kernel_rfl
theorem YM.e14 (x0:(Z3))(y2:(Z3)×Int):∀(n:Nat) (cZ:Int) (cP:Int) (d3:List Z0) (cS:List ByteArray),loopN (loopF YM.E f100.ntmps [1,1,0,1,0,1,1,1,0,1,0] [] (codeOf f100) (YM.kt x0)) n (YM.s14 x0 y2 cZ cP d3 cS)=YM.l14 x0 y2 n cZ cP d3 cS:=by
 intro n
 induction n with
 |zero=>intros;rw[loopN_z];rfl
 |succ n ih=>
  intro cZ cP d3 cS
  rw[loopN_s,YM.r14]
  simp only[ih]
  first|exact(YM.u14 ..).symm|rfl
theorem YM.v (x0:(Z3)):V.evBody YM.E YM.con f100 ((x0):(Z3))=YM.b x0 (λy2 cZ cP d3 cS=>loopN (loopF YM.E f100.ntmps [1,1,0,1,0,1,1,1,0,1,0] [] (codeOf f100) (YM.kt x0)) V.KK (YM.s14 x0 y2 cZ cP d3 cS)):=by kernel_rfl
theorem YM.eq (x0:(Z3)):V.evBody YM.E YM.con f100 ((x0):(Z3))=YM x0:=by
 rw[YM.v]
 simp only[YM.e14]
 rfl
theorem YM.ok :V.Valid prog 100 YM.con:=
 V.fo (tab_cons Zd.ok (tab_cons ZG.ok (tab_cons Zj.ok (tab_cons Ql.ok (tab_cons UK.ok tab_nil))))) func100 (by kernel_rfl) (λx y h=>(show V.evBody YM.E YM.con f100 x=_ from YM.eq x).trans (V.cfl (by kernel_rfl) h))
abbrev ZK.con :V.Con:=⟨(.cons (.ptr (.cons (.sl (.cons (.int .u8) .nil)) (ci (ci .nil)))) .nil),(.cons (.ptr (.cons (.sl (.cons (.int .u8) .nil)) (ci (ci .nil)))) (ci (ci (ci (ci (ci (ci (ci (ci (.cons (.sl (ci .nil)) (ci (.cons (.sl (ci .nil)) (ci (ci (.cons (.sl (ci .nil)) (ci (.cons .bool (.cons (.sl (ci (ci .nil))) .nil)))))))))))))))))),λ(x:(Z3))=>ZK x,[(0,false)],[(false,1)],[(true,17)],[false,false,false,false,false,false,false,false,true,false,true,false,false,true,false,false,true],[]⟩
abbrev ZK.E :Env:=V.mkE V.tys [(53,Zd.con),(96,ZG.con),(134,ZI.con),(135,Xc.con),(177,YI.con)] [(13,[0,2,3,7],[]),(25,[0,2,3,7],[])] [] [] [] [(5,[1000])]
abbrev ZK.kt (x0:(Z3)):Kt ((Z3)×Int×Int×Int×Int×Int×Int×Int×Int×List Int×Int×List Int×Int×Int×List Int×Int×Bool×List Z9):=ktOf ZK.E ZK.con f179 ((x0):(Z3))
abbrev ZK.s25 (x0:(Z3))(cG:Int)(cH:Int)(cI:Int)(cJ:Int)(cK:Int)(cL:Int)(cM:Int)(bJ:Int)(bK:Int)(bL:Bool)(cN:List Int)(y1:(Z3)×List Int×Int)(cB:Int)(aX:Int)(bC:Int)(bD:Int)(bE:Int)(bF:List Int)(bG:List Int):St:=⟨[(0, .v false [.ptr 0 0]),(2, .v false [.ptr 64000 0]),(3, .v false [.ptr 128128 0]),(7, .v false [.ptr 384640 0])],[(0, .box [.val (.sl (.cons (.int .u8) .nil) x0.1), .vi (cB), .vi (aX)]),(64000, .box [.vi ((0:Int)), .vi ((0:Int)), .vi ((0:Int)), .vi ((0:Int)), .vi ((0:Int)), .vi ((0:Int)), .vi ((0:Int)), .vi ((0:Int)), .nil0, .vi ((0:Int)), .nil0, .vi ((0:Int)), .vi ((0:Int)), .nil0, .vi ((0:Int)), .val (.bool false), .nil0]),(128128, .box [.ref 64000000000008200192, .vi (y1.2.2)]),(64000000000008200192, .row (ci .nil) true y1.2.1),(384640, .box [.vi (cG), .vi (cH), .vi (cI), .vi (cJ), .vi (cK), .vi (cL), .vi (cM), .vi (bJ), .ref 64000000000024616968, .vi (bK), .ref 64000000000024616970, .vi (bC), .vi (bD), .ref 64000000000024616973, .vi (bE), .val (.bool bL)]),(64000000000024616968, .row (ci .nil) true cN),(64000000000024616970, .row (ci .nil) true bF),(64000000000024616973, .row (ci .nil) true bG)]⟩
abbrev ZK.s13 (x0:(Z3))(y1:(Z3)×List Int×Int)(bH:Int)(bI:Int)(cG:Int)(cH:Int)(cI:Int)(cJ:Int)(cK:Int)(cL:Int)(cM:Int)(bJ:Int)(bK:Int)(dS:Int)(dT:Int)(dU:Int)(bL:Bool)(cN:List Int)(dV:List Int)(dW:List Int):St:=⟨[(0, .v false [.ptr 0 0]),(2, .v false [.ptr 64000 0]),(3, .v false [.ptr 128128 0]),(7, .v false [.ptr 384640 0])],[(0, .box [.val (.sl (.cons (.int .u8) .nil) x0.1), .vi (bH), .vi (bI)]),(64000, .box [.vi ((0:Int)), .vi ((0:Int)), .vi ((0:Int)), .vi ((0:Int)), .vi ((0:Int)), .vi ((0:Int)), .vi ((0:Int)), .vi ((0:Int)), .nil0, .vi ((0:Int)), .nil0, .vi ((0:Int)), .vi ((0:Int)), .nil0, .vi ((0:Int)), .val (.bool false), .nil0]),(128128, .box [.ref 64000000000008200192, .vi (y1.2.2)]),(64000000000008200192, .row (ci .nil) true y1.2.1),(384640, .box [.vi (cG), .vi (cH), .vi (cI), .vi (cJ), .vi (cK), .vi (cL), .vi (cM), .vi (bJ), .ref 64000000000024616968, .vi (bK), .ref 64000000000024616970, .vi (dS), .vi (dT), .ref 64000000000024616973, .vi (dU), .val (.bool bL)]),(64000000000024616968, .row (ci .nil) true cN),(64000000000024616970, .row (ci .nil) true dV),(64000000000024616973, .row (ci .nil) true dW)]⟩
theorem ZK.r25 (x0:(Z3))(cG:Int)(cH:Int)(cI:Int)(cJ:Int)(cK:Int)(cL:Int)(cM:Int)(bJ:Int)(bK:Int)(bL:Bool)(cN:List Int)(y1:(Z3)×List Int×Int)(cB:Int)(aX:Int)(bC:Int)(bD:Int)(bE:Int)(bF:List Int)(bG:List Int):joinF ZK.E f179.ntmps [1,1,1,1,1,1] [] (codeOf f179) (ZK.kt x0) (ZK.s25 x0 cG cH cI cJ cK cL cM bJ bK bL cN y1 cB aX bC bD bE bF bG)=ZK.g25 x0 cG cH cI cJ cK cL cM bJ bK bL cN y1 cB aX bC bD bE bF bG:=by kernel_rfl
theorem ZK.e25 (x0:(Z3))(cG:Int)(cH:Int)(cI:Int)(cJ:Int)(cK:Int)(cL:Int)(cM:Int)(bJ:Int)(bK:Int)(bL:Bool)(cN:List Int)(y1:(Z3)×List Int×Int)(cB:Int)(aX:Int)(bC:Int)(bD:Int)(bE:Int)(bF:List Int)(bG:List Int):jn (joinF ZK.E f179.ntmps [1,1,1,1,1,1] [] (codeOf f179) (ZK.kt x0)) (ZK.s25 x0 cG cH cI cJ cK cL cM bJ bK bL cN y1 cB aX bC bD bE bF bG)=ZK.l25 x0 cG cH cI cJ cK cL cM bJ bK bL cN y1 cB aX bC bD bE bF bG:=by
 rw[jn_eq,ZK.r25]
 rfl
theorem ZK.r13 (x0:(Z3))(y1:(Z3)×List Int×Int)(bH:Int)(bI:Int)(cG:Int)(cH:Int)(cI:Int)(cJ:Int)(cK:Int)(cL:Int)(cM:Int)(bJ:Int)(bK:Int)(dS:Int)(dT:Int)(dU:Int)(bL:Bool)(cN:List Int)(dV:List Int)(dW:List Int):joinF ZK.E f179.ntmps [1,1,1,1,1] [] (codeOf f179) (ZK.kt x0) (ZK.s13 x0 y1 bH bI cG cH cI cJ cK cL cM bJ bK dS dT dU bL cN dV dW)=ZK.g13 x0 y1 (λy1 cB aX bC bD bE bF bG=>jn (joinF ZK.E f179.ntmps [1,1,1,1,1,1] [] (codeOf f179) (ZK.kt x0)) (ZK.s25 x0 cG cH cI cJ cK cL cM bJ bK bL cN y1 cB aX bC bD bE bF bG)) bH bI cG cH cI cJ cK cL cM bJ bK dS dT dU bL cN dV dW:=by kernel_rfl
theorem ZK.e13 (x0:(Z3))(y1:(Z3)×List Int×Int)(bH:Int)(bI:Int)(cG:Int)(cH:Int)(cI:Int)(cJ:Int)(cK:Int)(cL:Int)(cM:Int)(bJ:Int)(bK:Int)(dS:Int)(dT:Int)(dU:Int)(bL:Bool)(cN:List Int)(dV:List Int)(dW:List Int):jn (joinF ZK.E f179.ntmps [1,1,1,1,1] [] (codeOf f179) (ZK.kt x0)) (ZK.s13 x0 y1 bH bI cG cH cI cJ cK cL cM bJ bK dS dT dU bL cN dV dW)=ZK.l13 x0 y1 bH bI cG cH cI cJ cK cL cM bJ bK dS dT dU bL cN dV dW:=by
 rw[jn_eq,ZK.r13]
 simp only[ZK.e25]
 rfl
theorem ZK.v (x0:(Z3)):V.evBody ZK.E ZK.con f179 ((x0):(Z3))=ZK.b x0 (λy1 bH bI cG cH cI cJ cK cL cM bJ bK dS dT dU bL cN dV dW=>jn (joinF ZK.E f179.ntmps [1,1,1,1,1] [] (codeOf f179) (ZK.kt x0)) (ZK.s13 x0 y1 bH bI cG cH cI cJ cK cL cM bJ bK dS dT dU bL cN dV dW)):=by kernel_rfl
theorem ZK.eq (x0:(Z3)):V.evBody ZK.E ZK.con f179 ((x0):(Z3))=ZK x0:=by
 rw[ZK.v]
 simp only[ZK.e13]
 rfl
theorem ZK.ok :V.Valid prog 179 ZK.con:=
 V.fo (tab_cons Zd.ok (tab_cons ZG.ok (tab_cons ZI.ok (tab_cons Xc.ok (tab_cons YI.ok tab_nil))))) func179 (by kernel_rfl) (λx y h=>(show V.evBody ZK.E ZK.con f179 x=_ from ZK.eq x).trans (V.cfl (by kernel_rfl) h))
abbrev YK.con :V.Con:=⟨(.cons (.ptr (.cons (.sl (.cons (.int .u8) .nil)) (ci (ci .nil)))) .nil),(.cons (.ptr (.cons (.sl (.cons (.int .u8) .nil)) (ci (ci .nil)))) (.cons (.sl V.eSigned) .nil)),λ(x:(Z3))=>YK x,[(0,false)],[(false,1)],[(false,1)],[true],[]⟩
abbrev YK.E :Env:=V.mkE V.tys [(53,Zd.con),(95,Ze.con),(140,Ym.con),(179,ZK.con)] [(6,[0,3,4],[])] [] [] [] []
abbrev YK.kt (x0:(Z3)):Kt ((Z3)×List Z4):=ktOf YK.E YK.con f145 ((x0):(Z3))
abbrev YK.s6 (x0:(Z3))(aH:Int)(aA:Int)(aD:Int)(aJ:List Z4):St:=⟨[(0, .v false [.ptr 0 0]),(3, .v false [.ref 64000038400192]),(4, .v false [.vi (aH)])],[(0, .box [.val (.sl (.cons (.int .u8) .nil) x0.1), .vi (aA), .vi (aD)]),(64000038400192, .row V.eSigned true aJ)]⟩
theorem YK.r6 (x0:(Z3))(R:St->Option ((Z3)×List Z4))(aH:Int)(aA:Int)(aD:Int)(aJ:List Z4):loopF YK.E f145.ntmps [1,1,0,1,0] [] (codeOf f145) (YK.kt x0) R (YK.s6 x0 aH aA aD aJ)=YK.g6 x0 (λaH aA aD aJ=>R (YK.s6 x0 aH aA aD aJ)) aH aA aD aJ:=by kernel_rfl
theorem YK.e6 (x0:(Z3)):∀(n:Nat) (aH:Int) (aA:Int) (aD:Int) (aJ:List Z4),loopN (loopF YK.E f145.ntmps [1,1,0,1,0] [] (codeOf f145) (YK.kt x0)) n (YK.s6 x0 aH aA aD aJ)=YK.l6 x0 n aH aA aD aJ:=by
 intro n
 induction n with
 |zero=>intros;rw[loopN_z];rfl
 |succ n ih=>
  intro aH aA aD aJ
  rw[loopN_s,YK.r6]
  simp only[ih]
  first|exact(YK.u6 ..).symm|rfl
theorem YK.v (x0:(Z3)):V.evBody YK.E YK.con f145 ((x0):(Z3))=YK.b x0 (λaH aA aD aJ=>loopN (loopF YK.E f145.ntmps [1,1,0,1,0] [] (codeOf f145) (YK.kt x0)) V.KK (YK.s6 x0 aH aA aD aJ)):=by kernel_rfl
theorem YK.eq (x0:(Z3)):V.evBody YK.E YK.con f145 ((x0):(Z3))=YK x0:=by
 rw[YK.v]
 simp only[YK.e6]
 rfl
theorem YK.ok :V.Valid prog 145 YK.con:=
 V.fo (tab_cons Zd.ok (tab_cons Ze.ok (tab_cons Ym.ok (tab_cons ZK.ok tab_nil)))) func145 (by kernel_rfl) (λx y h=>(show V.evBody YK.E YK.con f145 x=_ from YK.eq x).trans (V.cfl (by kernel_rfl) h))
abbrev ZR.con :V.Con:=⟨(.cons (.ptr (.cons (.sl (.cons (.int .u8) .nil)) (ci (ci .nil)))) .nil),(.cons (.ptr (.cons (.sl (.cons (.int .u8) .nil)) (ci (ci .nil)))) (ci (ci (ci (ci (ci (ci (ci (ci (.cons (.sl (ci .nil)) (ci (.cons (.sl (ci .nil)) (ci (ci (.cons (.sl (ci .nil)) (ci (.cons .bool .nil))))))))))))))))),λ(x:(Z3))=>ZR x,[(0,false)],[(false,1)],[(true,16)],[false,false,false,false,false,false,false,false,true,false,true,false,false,true,false,false],[]⟩
abbrev ZR.E :Env:=V.mkE V.tys [(53,Zd.con),(55,Xu.con),(134,ZI.con)] [(7,[0,2,3],[]),(13,[0,2,3],[(64000000000008265738,(ci .nil),true)])] [] [] [] [(2,[1000])]
abbrev ZR.kt (x0:(Z3)):Kt ((Z3)×Int×Int×Int×Int×Int×Int×Int×Int×List Int×Int×List Int×Int×Int×List Int×Int×Bool):=ktOf ZR.E ZR.con f205 ((x0):(Z3))
abbrev ZR.s13 (x0:(Z3))(cD:Int)(cE:Int)(y1:(Z3)×Int)(y2:(Z3)×Int)(y4:(Z3)×Int)(y5:(Z3)×Int)(y6:(Z3)×Int)(y7:(Z3)×Int)(y8:(Z3)×List Int×Int)(bH:Int)(bI:Int)(bJ:Int)(bK:Int)(bL:List Int):St:=⟨[(0, .v false [.ptr 0 0]),(2, .v false [.ptr 64000 0]),(3, .v false [.ptr 129152 0])],[(0, .box [.val (.sl (.cons (.int .u8) .nil) x0.1), .vi (bH), .vi (bI)]),(64000, .box [.vi ((0:Int)), .vi ((0:Int)), .vi ((0:Int)), .vi ((0:Int)), .vi ((0:Int)), .vi ((0:Int)), .vi ((0:Int)), .vi ((0:Int)), .nil0, .vi ((0:Int)), .nil0, .vi ((0:Int)), .vi ((0:Int)), .nil0, .vi ((0:Int)), .val (.bool false)]),(129152, .box [.vi (y1.2), .vi (y2.2), .vi (cD), .vi (y4.2), .vi (cE), .vi (y7.2), .vi (y5.2), .vi (y6.2), .ref 64000000000008265736, .vi (y8.2.2), .ref 64000000000008265738, .vi (bJ), .vi (bK), .nil0, .vi ((0:Int)), .val (.bool false)]),(64000000000008265736, .row (ci .nil) true y8.2.1),(64000000000008265738, .row (ci .nil) true bL)]⟩
abbrev ZR.s7 (x0:(Z3))(y1:(Z3)×Int)(y2:(Z3)×Int)(y4:(Z3)×Int)(y5:(Z3)×Int)(y6:(Z3)×Int)(y7:(Z3)×Int)(y8:(Z3)×List Int×Int)(aT:Int)(bO:Int)(cD:Int)(cE:Int):St:=⟨[(0, .v false [.ptr 0 0]),(2, .v false [.ptr 64000 0]),(3, .v false [.ptr 129152 0])],[(0, .box [.val (.sl (.cons (.int .u8) .nil) x0.1), .vi (aT), .vi (bO)]),(64000, .box [.vi ((0:Int)), .vi ((0:Int)), .vi ((0:Int)), .vi ((0:Int)), .vi ((0:Int)), .vi ((0:Int)), .vi ((0:Int)), .vi ((0:Int)), .nil0, .vi ((0:Int)), .nil0, .vi ((0:Int)), .vi ((0:Int)), .nil0, .vi ((0:Int)), .val (.bool false)]),(129152, .box [.vi (y1.2), .vi (y2.2), .vi (cD), .vi (y4.2), .vi (cE), .vi (y7.2), .vi (y5.2), .vi (y6.2), .ref 64000000000008265736, .vi (y8.2.2), .nil0, .vi ((0:Int)), .vi ((0:Int)), .nil0, .vi ((0:Int)), .val (.bool false)]),(64000000000008265736, .row (ci .nil) true y8.2.1)]⟩
theorem ZR.r13 (x0:(Z3))(cD:Int)(cE:Int)(y1:(Z3)×Int)(y2:(Z3)×Int)(y4:(Z3)×Int)(y5:(Z3)×Int)(y6:(Z3)×Int)(y7:(Z3)×Int)(y8:(Z3)×List Int×Int)(bH:Int)(bI:Int)(bJ:Int)(bK:Int)(bL:List Int):joinF ZR.E f205.ntmps [1,1,1] [] (codeOf f205) (ZR.kt x0) (ZR.s13 x0 cD cE y1 y2 y4 y5 y6 y7 y8 bH bI bJ bK bL)=ZR.g13 x0 cD cE y1 y2 y4 y5 y6 y7 y8 bH bI bJ bK bL:=by kernel_rfl
theorem ZR.e13 (x0:(Z3))(cD:Int)(cE:Int)(y1:(Z3)×Int)(y2:(Z3)×Int)(y4:(Z3)×Int)(y5:(Z3)×Int)(y6:(Z3)×Int)(y7:(Z3)×Int)(y8:(Z3)×List Int×Int)(bH:Int)(bI:Int)(bJ:Int)(bK:Int)(bL:List Int):jn (joinF ZR.E f205.ntmps [1,1,1] [] (codeOf f205) (ZR.kt x0)) (ZR.s13 x0 cD cE y1 y2 y4 y5 y6 y7 y8 bH bI bJ bK bL)=ZR.l13 x0 cD cE y1 y2 y4 y5 y6 y7 y8 bH bI bJ bK bL:=by
 rw[jn_eq,ZR.r13]
 rfl
theorem ZR.r7 (x0:(Z3))(y1:(Z3)×Int)(y2:(Z3)×Int)(y4:(Z3)×Int)(y5:(Z3)×Int)(y6:(Z3)×Int)(y7:(Z3)×Int)(y8:(Z3)×List Int×Int)(aT:Int)(bO:Int)(cD:Int)(cE:Int):joinF ZR.E f205.ntmps [1,1] [] (codeOf f205) (ZR.kt x0) (ZR.s7 x0 y1 y2 y4 y5 y6 y7 y8 aT bO cD cE)=ZR.g7 x0 y1 y2 y4 y5 y6 y7 y8 (λy1 y2 y4 y5 y6 y7 y8 bH bI bJ bK bL=>jn (joinF ZR.E f205.ntmps [1,1,1] [] (codeOf f205) (ZR.kt x0)) (ZR.s13 x0 cD cE y1 y2 y4 y5 y6 y7 y8 bH bI bJ bK bL)) aT bO cD cE:=by kernel_rfl
theorem ZR.e7 (x0:(Z3))(y1:(Z3)×Int)(y2:(Z3)×Int)(y4:(Z3)×Int)(y5:(Z3)×Int)(y6:(Z3)×Int)(y7:(Z3)×Int)(y8:(Z3)×List Int×Int)(aT:Int)(bO:Int)(cD:Int)(cE:Int):jn (joinF ZR.E f205.ntmps [1,1] [] (codeOf f205) (ZR.kt x0)) (ZR.s7 x0 y1 y2 y4 y5 y6 y7 y8 aT bO cD cE)=ZR.l7 x0 y1 y2 y4 y5 y6 y7 y8 aT bO cD cE:=by
 rw[jn_eq,ZR.r7]
 simp only[ZR.e13]
 rfl
theorem ZR.v (x0:(Z3)):V.evBody ZR.E ZR.con f205 ((x0):(Z3))=ZR.b x0 (λy1 y2 y4 y5 y6 y7 y8 aT bO cD cE=>jn (joinF ZR.E f205.ntmps [1,1] [] (codeOf f205) (ZR.kt x0)) (ZR.s7 x0 y1 y2 y4 y5 y6 y7 y8 aT bO cD cE)):=by kernel_rfl
theorem ZR.eq (x0:(Z3)):V.evBody ZR.E ZR.con f205 ((x0):(Z3))=ZR x0:=by
 rw[ZR.v]
 simp only[ZR.e7]
 rfl
theorem ZR.ok :V.Valid prog 205 ZR.con:=
 V.fo (tab_cons Zd.ok (tab_cons Xu.ok (tab_cons ZI.ok tab_nil))) func205 (by kernel_rfl) (λx y h=>(show V.evBody ZR.E ZR.con f205 x=_ from ZR.eq x).trans (V.cfl (by kernel_rfl) h))
abbrev UL.con :V.Con:=⟨(.cons (.ptr (.cons (.sl (.cons (.int .u8) .nil)) (ci (ci .nil)))) .nil),(.cons (.ptr (.cons (.sl (.cons (.int .u8) .nil)) (ci (ci .nil)))) (.cons (.sl (ci .nil)) (ci .nil))),λ(x:(Z3))=>UL x,[(0,false)],[(false,1)],[(true,2)],[true,false],[]⟩
abbrev UL.E :Env:=V.mkE V.tys [(53,Zd.con),(64,XG.con),(134,ZI.con)] [] [] [] [] [(6,[1000])]
theorem UL.eq (x0:(Z3)):V.evBody UL.E UL.con f206 ((x0):(Z3))=UL x0:=by kernel_rfl
theorem UL.ok :V.Valid prog 206 UL.con:=
 V.fo (tab_cons Zd.ok (tab_cons XG.ok (tab_cons ZI.ok tab_nil))) func206 (by kernel_rfl) (λx y h=>(show V.evBody UL.E UL.con f206 x=_ from UL.eq x).trans (V.cfl (by kernel_rfl) h))
end Go.Proofs.YtcbeaoigenjoeaaGreat.V
