/- That the functions compute it. -/
import Derived.Test.YtcbeaoigenjoeaeGreatFnAnswersPure0
import Derived.Test.YtcbeaoigenjoeaeGreatProg
noncomputable section
namespace Go.Proofs.YtcbeaoigenjoeaeGreat.V
open Tryz
set_option linter.unusedVariables false
set_option maxRecDepth 100000
abbrev eSigned :ETy:=(ci (ci (ci (ci (ci (ci (ci (ci (.cons (.sl (ci .nil)) (ci (.cons (.sl (ci .nil)) (ci (ci (.cons (.sl (ci .nil)) (ci (.cons .bool (.cons (.sl (ci (ci .nil))) .nil)))))))))))))))))
abbrev eAnswer :ETy:=(.cons (.sl eSigned) (.cons .bool (.cons .str (ci (ci (.cons (.sl (.cons .str .nil)) (ci (.cons (.sl (ci .nil)) (ci (.cons .str (ci (ci (.cons (.sl (.cons .str .nil)) (.cons .str (ci (ci (.cons (.sl (.cons .str .nil)) (ci (.cons (.sl (ci .nil)) (ci (.cons (.sl (ci .nil)) .nil)))))))))))))))))))))
abbrev eEntry :ETy:=(.cons .str (ci (ci (.cons (.sl (.cons .str .nil)) .nil))))
abbrev eGap :ETy:=(ci (.cons .str (ci (ci (.cons (.sl (.cons .str .nil)) (.cons .str (ci (ci (.cons (.sl (.cons .str .nil)) (ci (.cons (.sl (ci .nil)) (ci (.cons (.sl (ci .nil)) .nil)))))))))))))
abbrev eHead :ETy:=(ci (ci (ci (ci (ci (ci (ci (ci (.cons (.sl (ci .nil)) (ci (.cons (.sl (ci .nil)) (ci (ci (.cons (.sl (ci .nil)) (ci (.cons .bool .nil))))))))))))))))
abbrev eREntryBool :ETy:=(.cons .str (ci (ci (.cons (.sl (.cons .str .nil)) (.cons .bool .nil)))))
abbrev eRGapBool :ETy:=(ci (.cons .str (ci (ci (.cons (.sl (.cons .str .nil)) (.cons .str (ci (ci (.cons (.sl (.cons .str .nil)) (ci (.cons (.sl (ci .nil)) (ci (.cons (.sl (ci .nil)) (.cons .bool .nil))))))))))))))
abbrev eRHeadBool :ETy:=(ci (ci (ci (ci (ci (ci (ci (ci (.cons (.sl (ci .nil)) (ci (.cons (.sl (ci .nil)) (ci (ci (.cons (.sl (ci .nil)) (ci (.cons .bool (.cons .bool .nil)))))))))))))))))
abbrev eRIntStrAnswerInt :ETy:=(ci (.cons .str (.cons (.sl eSigned) (.cons .bool (.cons .str (ci (ci (.cons (.sl (.cons .str .nil)) (ci (.cons (.sl (ci .nil)) (ci (.cons .str (ci (ci (.cons (.sl (.cons .str .nil)) (.cons .str (ci (ci (.cons (.sl (.cons .str .nil)) (ci (.cons (.sl (ci .nil)) (ci (.cons (.sl (ci .nil)) (ci .nil))))))))))))))))))))))))
abbrev D0 :Type:=Int×Int×Int×Int×Int×Int×Int×Int×List Int×Int×List Int×Int×Int×List Int×Int×Bool
abbrev A0 :ETy:=eHead
abbrev fl0 (x0:Z5):D0:=(x0.1,x0.2.1,x0.2.2.1,x0.2.2.2.1,x0.2.2.2.2.1,x0.2.2.2.2.2.1,x0.2.2.2.2.2.2.1,x0.2.2.2.2.2.2.2.1,x0.2.2.2.2.2.2.2.2.1,x0.2.2.2.2.2.2.2.2.2.1,x0.2.2.2.2.2.2.2.2.2.2.1,x0.2.2.2.2.2.2.2.2.2.2.2.1,x0.2.2.2.2.2.2.2.2.2.2.2.2.1,x0.2.2.2.2.2.2.2.2.2.2.2.2.2.1,x0.2.2.2.2.2.2.2.2.2.2.2.2.2.2.1,x0.2.2.2.2.2.2.2.2.2.2.2.2.2.2.2)
abbrev p0_0 (x:D0):Z5:=x
abbrev D1 :Type:=List Int×List Int×Int×Int×Int×Int×Int×Int×Int×Int×Int×List Int×Int×List Int×Int×Int×List Int×Int×Bool
abbrev A1 :ETy:=(.cons (.sl (ci .nil)) (.cons (.sl (ci .nil)) (ci (ci (ci (ci (ci (ci (ci (ci (ci (.cons (.sl (ci .nil)) (ci (.cons (.sl (ci .nil)) (ci (ci (.cons (.sl (ci .nil)) (ci (.cons .bool .nil)))))))))))))))))))
abbrev fl1 (x0:List Int)(x1:Za)(x2:Z5):D1:=(x0,x1.1,x1.2,x2.1,x2.2.1,x2.2.2.1,x2.2.2.2.1,x2.2.2.2.2.1,x2.2.2.2.2.2.1,x2.2.2.2.2.2.2.1,x2.2.2.2.2.2.2.2.1,x2.2.2.2.2.2.2.2.2.1,x2.2.2.2.2.2.2.2.2.2.1,x2.2.2.2.2.2.2.2.2.2.2.1,x2.2.2.2.2.2.2.2.2.2.2.2.1,x2.2.2.2.2.2.2.2.2.2.2.2.2.1,x2.2.2.2.2.2.2.2.2.2.2.2.2.2.1,x2.2.2.2.2.2.2.2.2.2.2.2.2.2.2.1,x2.2.2.2.2.2.2.2.2.2.2.2.2.2.2.2)
abbrev p1_0 (x:D1):List Int:=x.1
abbrev p1_1 (x:D1):Za:=(x.2.1,x.2.2.1)
abbrev p1_2 (x:D1):Z5:=x.2.2.2
abbrev D2 :Type:=Int×Int×Int×Int×Int×Int×Int×Int×List Int×Int×List Int×Int×Int×List Int×Int×Bool×List Z7
abbrev A2 :ETy:=eSigned
abbrev fl2 (x0:Z4):D2:=(x0.1,x0.2.1,x0.2.2.1,x0.2.2.2.1,x0.2.2.2.2.1,x0.2.2.2.2.2.1,x0.2.2.2.2.2.2.1,x0.2.2.2.2.2.2.2.1,x0.2.2.2.2.2.2.2.2.1,x0.2.2.2.2.2.2.2.2.2.1,x0.2.2.2.2.2.2.2.2.2.2.1,x0.2.2.2.2.2.2.2.2.2.2.2.1,x0.2.2.2.2.2.2.2.2.2.2.2.2.1,x0.2.2.2.2.2.2.2.2.2.2.2.2.2.1,x0.2.2.2.2.2.2.2.2.2.2.2.2.2.2.1,x0.2.2.2.2.2.2.2.2.2.2.2.2.2.2.2.1,x0.2.2.2.2.2.2.2.2.2.2.2.2.2.2.2.2)
abbrev p2_0 (x:D2):Z4:=x
abbrev D3 :Type:=Int×Int×Int×Int×Int×Int×Int×Int×List Int×Int×List Int×Int×Int×List Int×Int×Bool×Int×Int×Int×Int×Int×Int×Int×Int×List Int×Int×List Int×Int×Int×List Int×Int×Bool
abbrev A3 :ETy:=(ci (ci (ci (ci (ci (ci (ci (ci (.cons (.sl (ci .nil)) (ci (.cons (.sl (ci .nil)) (ci (ci (.cons (.sl (ci .nil)) (ci (.cons .bool (ci (ci (ci (ci (ci (ci (ci (ci (.cons (.sl (ci .nil)) (ci (.cons (.sl (ci .nil)) (ci (ci (.cons (.sl (ci .nil)) (ci (.cons .bool .nil))))))))))))))))))))))))))))))))
abbrev fl3 (x0:Z5)(x1:Z5):D3:=(x0.1,x0.2.1,x0.2.2.1,x0.2.2.2.1,x0.2.2.2.2.1,x0.2.2.2.2.2.1,x0.2.2.2.2.2.2.1,x0.2.2.2.2.2.2.2.1,x0.2.2.2.2.2.2.2.2.1,x0.2.2.2.2.2.2.2.2.2.1,x0.2.2.2.2.2.2.2.2.2.2.1,x0.2.2.2.2.2.2.2.2.2.2.2.1,x0.2.2.2.2.2.2.2.2.2.2.2.2.1,x0.2.2.2.2.2.2.2.2.2.2.2.2.2.1,x0.2.2.2.2.2.2.2.2.2.2.2.2.2.2.1,x0.2.2.2.2.2.2.2.2.2.2.2.2.2.2.2,x1.1,x1.2.1,x1.2.2.1,x1.2.2.2.1,x1.2.2.2.2.1,x1.2.2.2.2.2.1,x1.2.2.2.2.2.2.1,x1.2.2.2.2.2.2.2.1,x1.2.2.2.2.2.2.2.2.1,x1.2.2.2.2.2.2.2.2.2.1,x1.2.2.2.2.2.2.2.2.2.2.1,x1.2.2.2.2.2.2.2.2.2.2.2.1,x1.2.2.2.2.2.2.2.2.2.2.2.2.1,x1.2.2.2.2.2.2.2.2.2.2.2.2.2.1,x1.2.2.2.2.2.2.2.2.2.2.2.2.2.2.1,x1.2.2.2.2.2.2.2.2.2.2.2.2.2.2.2)
abbrev p3_0 (x:D3):Z5:=(x.1,x.2.1,x.2.2.1,x.2.2.2.1,x.2.2.2.2.1,x.2.2.2.2.2.1,x.2.2.2.2.2.2.1,x.2.2.2.2.2.2.2.1,x.2.2.2.2.2.2.2.2.1,x.2.2.2.2.2.2.2.2.2.1,x.2.2.2.2.2.2.2.2.2.2.1,x.2.2.2.2.2.2.2.2.2.2.2.1,x.2.2.2.2.2.2.2.2.2.2.2.2.1,x.2.2.2.2.2.2.2.2.2.2.2.2.2.1,x.2.2.2.2.2.2.2.2.2.2.2.2.2.2.1,x.2.2.2.2.2.2.2.2.2.2.2.2.2.2.2.1)
abbrev p3_1 (x:D3):Z5:=x.2.2.2.2.2.2.2.2.2.2.2.2.2.2.2.2
abbrev D4 :Type:=Int×Int×Int×Int×Int×Int×Int×Int×List Int×Int×List Int×Int×Int×List Int×Int×Bool×Int×Int×Int×Int×Int×Int×Int×Int×List Int×Int×List Int×Int×Int×List Int×Int×Bool×List Z7
abbrev A4 :ETy:=(ci (ci (ci (ci (ci (ci (ci (ci (.cons (.sl (ci .nil)) (ci (.cons (.sl (ci .nil)) (ci (ci (.cons (.sl (ci .nil)) (ci (.cons .bool (ci (ci (ci (ci (ci (ci (ci (ci (.cons (.sl (ci .nil)) (ci (.cons (.sl (ci .nil)) (ci (ci (.cons (.sl (ci .nil)) (ci (.cons .bool (.cons (.sl (ci (ci .nil))) .nil)))))))))))))))))))))))))))))))))
abbrev fl4 (x0:Z5)(x1:Z4):D4:=(x0.1,x0.2.1,x0.2.2.1,x0.2.2.2.1,x0.2.2.2.2.1,x0.2.2.2.2.2.1,x0.2.2.2.2.2.2.1,x0.2.2.2.2.2.2.2.1,x0.2.2.2.2.2.2.2.2.1,x0.2.2.2.2.2.2.2.2.2.1,x0.2.2.2.2.2.2.2.2.2.2.1,x0.2.2.2.2.2.2.2.2.2.2.2.1,x0.2.2.2.2.2.2.2.2.2.2.2.2.1,x0.2.2.2.2.2.2.2.2.2.2.2.2.2.1,x0.2.2.2.2.2.2.2.2.2.2.2.2.2.2.1,x0.2.2.2.2.2.2.2.2.2.2.2.2.2.2.2,x1.1,x1.2.1,x1.2.2.1,x1.2.2.2.1,x1.2.2.2.2.1,x1.2.2.2.2.2.1,x1.2.2.2.2.2.2.1,x1.2.2.2.2.2.2.2.1,x1.2.2.2.2.2.2.2.2.1,x1.2.2.2.2.2.2.2.2.2.1,x1.2.2.2.2.2.2.2.2.2.2.1,x1.2.2.2.2.2.2.2.2.2.2.2.1,x1.2.2.2.2.2.2.2.2.2.2.2.2.1,x1.2.2.2.2.2.2.2.2.2.2.2.2.2.1,x1.2.2.2.2.2.2.2.2.2.2.2.2.2.2.1,x1.2.2.2.2.2.2.2.2.2.2.2.2.2.2.2.1,x1.2.2.2.2.2.2.2.2.2.2.2.2.2.2.2.2)
abbrev p4_0 (x:D4):Z5:=(x.1,x.2.1,x.2.2.1,x.2.2.2.1,x.2.2.2.2.1,x.2.2.2.2.2.1,x.2.2.2.2.2.2.1,x.2.2.2.2.2.2.2.1,x.2.2.2.2.2.2.2.2.1,x.2.2.2.2.2.2.2.2.2.1,x.2.2.2.2.2.2.2.2.2.2.1,x.2.2.2.2.2.2.2.2.2.2.2.1,x.2.2.2.2.2.2.2.2.2.2.2.2.1,x.2.2.2.2.2.2.2.2.2.2.2.2.2.1,x.2.2.2.2.2.2.2.2.2.2.2.2.2.2.1,x.2.2.2.2.2.2.2.2.2.2.2.2.2.2.2.1)
abbrev p4_1 (x:D4):Z4:=x.2.2.2.2.2.2.2.2.2.2.2.2.2.2.2.2
abbrev D5 :Type:=(Z3)×Int×Int×Int×Int×Int×Int×Int×Int×List Int×Int×List Int×Int×Int×List Int×Int×Bool
abbrev A5 :ETy:=(.cons (.ptr (.cons (.sl (.cons (.int .u8) .nil)) (ci (ci .nil)))) (ci (ci (ci (ci (ci (ci (ci (ci (.cons (.sl (ci .nil)) (ci (.cons (.sl (ci .nil)) (ci (ci (.cons (.sl (ci .nil)) (ci (.cons .bool .nil)))))))))))))))))
abbrev fl5 (x0:(Z3))(x1:Z5):D5:=(x0,x1.1,x1.2.1,x1.2.2.1,x1.2.2.2.1,x1.2.2.2.2.1,x1.2.2.2.2.2.1,x1.2.2.2.2.2.2.1,x1.2.2.2.2.2.2.2.1,x1.2.2.2.2.2.2.2.2.1,x1.2.2.2.2.2.2.2.2.2.1,x1.2.2.2.2.2.2.2.2.2.2.1,x1.2.2.2.2.2.2.2.2.2.2.2.1,x1.2.2.2.2.2.2.2.2.2.2.2.2.1,x1.2.2.2.2.2.2.2.2.2.2.2.2.2.1,x1.2.2.2.2.2.2.2.2.2.2.2.2.2.2.1,x1.2.2.2.2.2.2.2.2.2.2.2.2.2.2.2)
abbrev p5_0 (x:D5):(Z3):=x.1
abbrev p5_1 (x:D5):Z5:=x.2
abbrev D6 :Type:=Int×Int×Int×Int×Int×Int×Int×Int×List Int×Int×List Int×Int×Int×List Int×Int×Bool×Int×Int×Int
abbrev A6 :ETy:=(ci (ci (ci (ci (ci (ci (ci (ci (.cons (.sl (ci .nil)) (ci (.cons (.sl (ci .nil)) (ci (ci (.cons (.sl (ci .nil)) (ci (.cons .bool (ci (ci (ci .nil)))))))))))))))))))
abbrev fl6 (x0:Z5)(x1:Int)(x2:Int)(x3:Int):D6:=(x0.1,x0.2.1,x0.2.2.1,x0.2.2.2.1,x0.2.2.2.2.1,x0.2.2.2.2.2.1,x0.2.2.2.2.2.2.1,x0.2.2.2.2.2.2.2.1,x0.2.2.2.2.2.2.2.2.1,x0.2.2.2.2.2.2.2.2.2.1,x0.2.2.2.2.2.2.2.2.2.2.1,x0.2.2.2.2.2.2.2.2.2.2.2.1,x0.2.2.2.2.2.2.2.2.2.2.2.2.1,x0.2.2.2.2.2.2.2.2.2.2.2.2.2.1,x0.2.2.2.2.2.2.2.2.2.2.2.2.2.2.1,x0.2.2.2.2.2.2.2.2.2.2.2.2.2.2.2,x1,x2,x3)
abbrev p6_0 (x:D6):Z5:=(x.1,x.2.1,x.2.2.1,x.2.2.2.1,x.2.2.2.2.1,x.2.2.2.2.2.1,x.2.2.2.2.2.2.1,x.2.2.2.2.2.2.2.1,x.2.2.2.2.2.2.2.2.1,x.2.2.2.2.2.2.2.2.2.1,x.2.2.2.2.2.2.2.2.2.2.1,x.2.2.2.2.2.2.2.2.2.2.2.1,x.2.2.2.2.2.2.2.2.2.2.2.2.1,x.2.2.2.2.2.2.2.2.2.2.2.2.2.1,x.2.2.2.2.2.2.2.2.2.2.2.2.2.2.1,x.2.2.2.2.2.2.2.2.2.2.2.2.2.2.2.1)
abbrev p6_1 (x:D6):Int:=x.2.2.2.2.2.2.2.2.2.2.2.2.2.2.2.2.1
abbrev p6_2 (x:D6):Int:=x.2.2.2.2.2.2.2.2.2.2.2.2.2.2.2.2.2.1
abbrev p6_3 (x:D6):Int:=x.2.2.2.2.2.2.2.2.2.2.2.2.2.2.2.2.2.2
abbrev D7 :Type:=Int×Int×Int×Int×Int×Int×Int×Int×List Int×Int×List Int×Int×Int×List Int×Int×Bool×List Z0×Int×Int
abbrev A7 :ETy:=(ci (ci (ci (ci (ci (ci (ci (ci (.cons (.sl (ci .nil)) (ci (.cons (.sl (ci .nil)) (ci (ci (.cons (.sl (ci .nil)) (ci (.cons .bool (.cons (.sl eEntry) (ci (ci .nil)))))))))))))))))))
abbrev fl7 (x0:Z5)(x1:List Z0)(x2:Int)(x3:Int):D7:=(x0.1,x0.2.1,x0.2.2.1,x0.2.2.2.1,x0.2.2.2.2.1,x0.2.2.2.2.2.1,x0.2.2.2.2.2.2.1,x0.2.2.2.2.2.2.2.1,x0.2.2.2.2.2.2.2.2.1,x0.2.2.2.2.2.2.2.2.2.1,x0.2.2.2.2.2.2.2.2.2.2.1,x0.2.2.2.2.2.2.2.2.2.2.2.1,x0.2.2.2.2.2.2.2.2.2.2.2.2.1,x0.2.2.2.2.2.2.2.2.2.2.2.2.2.1,x0.2.2.2.2.2.2.2.2.2.2.2.2.2.2.1,x0.2.2.2.2.2.2.2.2.2.2.2.2.2.2.2,x1,x2,x3)
abbrev p7_0 (x:D7):Z5:=(x.1,x.2.1,x.2.2.1,x.2.2.2.1,x.2.2.2.2.1,x.2.2.2.2.2.1,x.2.2.2.2.2.2.1,x.2.2.2.2.2.2.2.1,x.2.2.2.2.2.2.2.2.1,x.2.2.2.2.2.2.2.2.2.1,x.2.2.2.2.2.2.2.2.2.2.1,x.2.2.2.2.2.2.2.2.2.2.2.1,x.2.2.2.2.2.2.2.2.2.2.2.2.1,x.2.2.2.2.2.2.2.2.2.2.2.2.2.1,x.2.2.2.2.2.2.2.2.2.2.2.2.2.2.1,x.2.2.2.2.2.2.2.2.2.2.2.2.2.2.2.1)
abbrev p7_1 (x:D7):List Z0:=x.2.2.2.2.2.2.2.2.2.2.2.2.2.2.2.2.1
abbrev p7_2 (x:D7):Int:=x.2.2.2.2.2.2.2.2.2.2.2.2.2.2.2.2.2.1
abbrev p7_3 (x:D7):Int:=x.2.2.2.2.2.2.2.2.2.2.2.2.2.2.2.2.2.2
abbrev D8 :Type:=Int×Int×Int×Int×Int×Int×Int×Int×List Int×Int×List Int×Int×Int×List Int×Int×Bool×Int×Int×Int×Int×Int×Int×Int×Int×List Int×Int×List Int×Int×Int×List Int×Int×Bool×List Int
abbrev A8 :ETy:=(ci (ci (ci (ci (ci (ci (ci (ci (.cons (.sl (ci .nil)) (ci (.cons (.sl (ci .nil)) (ci (ci (.cons (.sl (ci .nil)) (ci (.cons .bool (ci (ci (ci (ci (ci (ci (ci (ci (.cons (.sl (ci .nil)) (ci (.cons (.sl (ci .nil)) (ci (ci (.cons (.sl (ci .nil)) (ci (.cons .bool (.cons (.sl (ci .nil)) .nil)))))))))))))))))))))))))))))))))
abbrev fl8 (x0:Z5)(x1:Z5)(x2:List Int):D8:=(x0.1,x0.2.1,x0.2.2.1,x0.2.2.2.1,x0.2.2.2.2.1,x0.2.2.2.2.2.1,x0.2.2.2.2.2.2.1,x0.2.2.2.2.2.2.2.1,x0.2.2.2.2.2.2.2.2.1,x0.2.2.2.2.2.2.2.2.2.1,x0.2.2.2.2.2.2.2.2.2.2.1,x0.2.2.2.2.2.2.2.2.2.2.2.1,x0.2.2.2.2.2.2.2.2.2.2.2.2.1,x0.2.2.2.2.2.2.2.2.2.2.2.2.2.1,x0.2.2.2.2.2.2.2.2.2.2.2.2.2.2.1,x0.2.2.2.2.2.2.2.2.2.2.2.2.2.2.2,x1.1,x1.2.1,x1.2.2.1,x1.2.2.2.1,x1.2.2.2.2.1,x1.2.2.2.2.2.1,x1.2.2.2.2.2.2.1,x1.2.2.2.2.2.2.2.1,x1.2.2.2.2.2.2.2.2.1,x1.2.2.2.2.2.2.2.2.2.1,x1.2.2.2.2.2.2.2.2.2.2.1,x1.2.2.2.2.2.2.2.2.2.2.2.1,x1.2.2.2.2.2.2.2.2.2.2.2.2.1,x1.2.2.2.2.2.2.2.2.2.2.2.2.2.1,x1.2.2.2.2.2.2.2.2.2.2.2.2.2.2.1,x1.2.2.2.2.2.2.2.2.2.2.2.2.2.2.2,x2)
abbrev p8_0 (x:D8):Z5:=(x.1,x.2.1,x.2.2.1,x.2.2.2.1,x.2.2.2.2.1,x.2.2.2.2.2.1,x.2.2.2.2.2.2.1,x.2.2.2.2.2.2.2.1,x.2.2.2.2.2.2.2.2.1,x.2.2.2.2.2.2.2.2.2.1,x.2.2.2.2.2.2.2.2.2.2.1,x.2.2.2.2.2.2.2.2.2.2.2.1,x.2.2.2.2.2.2.2.2.2.2.2.2.1,x.2.2.2.2.2.2.2.2.2.2.2.2.2.1,x.2.2.2.2.2.2.2.2.2.2.2.2.2.2.1,x.2.2.2.2.2.2.2.2.2.2.2.2.2.2.2.1)
abbrev p8_1 (x:D8):Z5:=(x.2.2.2.2.2.2.2.2.2.2.2.2.2.2.2.2.1,x.2.2.2.2.2.2.2.2.2.2.2.2.2.2.2.2.2.1,x.2.2.2.2.2.2.2.2.2.2.2.2.2.2.2.2.2.2.1,x.2.2.2.2.2.2.2.2.2.2.2.2.2.2.2.2.2.2.2.1,x.2.2.2.2.2.2.2.2.2.2.2.2.2.2.2.2.2.2.2.2.1,x.2.2.2.2.2.2.2.2.2.2.2.2.2.2.2.2.2.2.2.2.2.1,x.2.2.2.2.2.2.2.2.2.2.2.2.2.2.2.2.2.2.2.2.2.2.1,x.2.2.2.2.2.2.2.2.2.2.2.2.2.2.2.2.2.2.2.2.2.2.2.1,x.2.2.2.2.2.2.2.2.2.2.2.2.2.2.2.2.2.2.2.2.2.2.2.2.1,x.2.2.2.2.2.2.2.2.2.2.2.2.2.2.2.2.2.2.2.2.2.2.2.2.2.1,x.2.2.2.2.2.2.2.2.2.2.2.2.2.2.2.2.2.2.2.2.2.2.2.2.2.2.1,x.2.2.2.2.2.2.2.2.2.2.2.2.2.2.2.2.2.2.2.2.2.2.2.2.2.2.2.1,x.2.2.2.2.2.2.2.2.2.2.2.2.2.2.2.2.2.2.2.2.2.2.2.2.2.2.2.2.1,x.2.2.2.2.2.2.2.2.2.2.2.2.2.2.2.2.2.2.2.2.2.2.2.2.2.2.2.2.2.1,x.2.2.2.2.2.2.2.2.2.2.2.2.2.2.2.2.2.2.2.2.2.2.2.2.2.2.2.2.2.2.1,x.2.2.2.2.2.2.2.2.2.2.2.2.2.2.2.2.2.2.2.2.2.2.2.2.2.2.2.2.2.2.2.1)
abbrev p8_2 (x:D8):List Int:=x.2.2.2.2.2.2.2.2.2.2.2.2.2.2.2.2.2.2.2.2.2.2.2.2.2.2.2.2.2.2.2.2
abbrev D9 :Type:=List Z4×Int×Int×Int×Int×Int×Int×Int×Int×List Int×Int×List Int×Int×Int×List Int×Int×Bool×List Z7
abbrev A9 :ETy:=(.cons (.sl eSigned) (ci (ci (ci (ci (ci (ci (ci (ci (.cons (.sl (ci .nil)) (ci (.cons (.sl (ci .nil)) (ci (ci (.cons (.sl (ci .nil)) (ci (.cons .bool (.cons (.sl (ci (ci .nil))) .nil))))))))))))))))))
abbrev fl9 (x0:List Z4)(x1:Z4):D9:=(x0,x1.1,x1.2.1,x1.2.2.1,x1.2.2.2.1,x1.2.2.2.2.1,x1.2.2.2.2.2.1,x1.2.2.2.2.2.2.1,x1.2.2.2.2.2.2.2.1,x1.2.2.2.2.2.2.2.2.1,x1.2.2.2.2.2.2.2.2.2.1,x1.2.2.2.2.2.2.2.2.2.2.1,x1.2.2.2.2.2.2.2.2.2.2.2.1,x1.2.2.2.2.2.2.2.2.2.2.2.2.1,x1.2.2.2.2.2.2.2.2.2.2.2.2.2.1,x1.2.2.2.2.2.2.2.2.2.2.2.2.2.2.1,x1.2.2.2.2.2.2.2.2.2.2.2.2.2.2.2.1,x1.2.2.2.2.2.2.2.2.2.2.2.2.2.2.2.2)
abbrev p9_0 (x:D9):List Z4:=x.1
abbrev p9_1 (x:D9):Z4:=x.2
abbrev D10 :Type:=List Z4×List Z0×List Int×Int×Int×Int×Int×Int×Int×Int×Int×List Int×Int×List Int×Int×Int×List Int×Int×Bool×List Z0
abbrev A10 :ETy:=(.cons (.sl eSigned) (.cons (.sl eEntry) (.cons (.sl (ci .nil)) (ci (ci (ci (ci (ci (ci (ci (ci (.cons (.sl (ci .nil)) (ci (.cons (.sl (ci .nil)) (ci (ci (.cons (.sl (ci .nil)) (ci (.cons .bool (.cons (.sl eEntry) .nil))))))))))))))))))))
abbrev fl10 (x0:Zm)(x1:List Int)(x2:Z5)(x3:List Z0):D10:=(x0.1,x0.2,x1,x2.1,x2.2.1,x2.2.2.1,x2.2.2.2.1,x2.2.2.2.2.1,x2.2.2.2.2.2.1,x2.2.2.2.2.2.2.1,x2.2.2.2.2.2.2.2.1,x2.2.2.2.2.2.2.2.2.1,x2.2.2.2.2.2.2.2.2.2.1,x2.2.2.2.2.2.2.2.2.2.2.1,x2.2.2.2.2.2.2.2.2.2.2.2.1,x2.2.2.2.2.2.2.2.2.2.2.2.2.1,x2.2.2.2.2.2.2.2.2.2.2.2.2.2.1,x2.2.2.2.2.2.2.2.2.2.2.2.2.2.2.1,x2.2.2.2.2.2.2.2.2.2.2.2.2.2.2.2,x3)
abbrev p10_0 (x:D10):Zm:=(x.1,x.2.1)
abbrev p10_1 (x:D10):List Int:=x.2.2.1
abbrev p10_2 (x:D10):Z5:=(x.2.2.2.1,x.2.2.2.2.1,x.2.2.2.2.2.1,x.2.2.2.2.2.2.1,x.2.2.2.2.2.2.2.1,x.2.2.2.2.2.2.2.2.1,x.2.2.2.2.2.2.2.2.2.1,x.2.2.2.2.2.2.2.2.2.2.1,x.2.2.2.2.2.2.2.2.2.2.2.1,x.2.2.2.2.2.2.2.2.2.2.2.2.1,x.2.2.2.2.2.2.2.2.2.2.2.2.2.1,x.2.2.2.2.2.2.2.2.2.2.2.2.2.2.1,x.2.2.2.2.2.2.2.2.2.2.2.2.2.2.2.1,x.2.2.2.2.2.2.2.2.2.2.2.2.2.2.2.2.1,x.2.2.2.2.2.2.2.2.2.2.2.2.2.2.2.2.2.1,x.2.2.2.2.2.2.2.2.2.2.2.2.2.2.2.2.2.2.1)
abbrev p10_3 (x:D10):List Z0:=x.2.2.2.2.2.2.2.2.2.2.2.2.2.2.2.2.2.2.2
abbrev D11 :Type:=Int×Int×Int×Int×Int×Int×Int×Int×List Int×Int×List Int×Int×Int×List Int×Int×Bool×List Z7×List Int×Int
abbrev A11 :ETy:=(ci (ci (ci (ci (ci (ci (ci (ci (.cons (.sl (ci .nil)) (ci (.cons (.sl (ci .nil)) (ci (ci (.cons (.sl (ci .nil)) (ci (.cons .bool (.cons (.sl (ci (ci .nil))) (.cons (.sl (ci .nil)) (ci .nil)))))))))))))))))))
abbrev fl11 (x0:Z4)(x1:Za):D11:=(x0.1,x0.2.1,x0.2.2.1,x0.2.2.2.1,x0.2.2.2.2.1,x0.2.2.2.2.2.1,x0.2.2.2.2.2.2.1,x0.2.2.2.2.2.2.2.1,x0.2.2.2.2.2.2.2.2.1,x0.2.2.2.2.2.2.2.2.2.1,x0.2.2.2.2.2.2.2.2.2.2.1,x0.2.2.2.2.2.2.2.2.2.2.2.1,x0.2.2.2.2.2.2.2.2.2.2.2.2.1,x0.2.2.2.2.2.2.2.2.2.2.2.2.2.1,x0.2.2.2.2.2.2.2.2.2.2.2.2.2.2.1,x0.2.2.2.2.2.2.2.2.2.2.2.2.2.2.2.1,x0.2.2.2.2.2.2.2.2.2.2.2.2.2.2.2.2,x1.1,x1.2)
abbrev p11_0 (x:D11):Z4:=(x.1,x.2.1,x.2.2.1,x.2.2.2.1,x.2.2.2.2.1,x.2.2.2.2.2.1,x.2.2.2.2.2.2.1,x.2.2.2.2.2.2.2.1,x.2.2.2.2.2.2.2.2.1,x.2.2.2.2.2.2.2.2.2.1,x.2.2.2.2.2.2.2.2.2.2.1,x.2.2.2.2.2.2.2.2.2.2.2.1,x.2.2.2.2.2.2.2.2.2.2.2.2.1,x.2.2.2.2.2.2.2.2.2.2.2.2.2.1,x.2.2.2.2.2.2.2.2.2.2.2.2.2.2.1,x.2.2.2.2.2.2.2.2.2.2.2.2.2.2.2.1,x.2.2.2.2.2.2.2.2.2.2.2.2.2.2.2.2.1)
abbrev p11_1 (x:D11):Za:=x.2.2.2.2.2.2.2.2.2.2.2.2.2.2.2.2.2
abbrev D12 :Type:=Int×Int×Int×Int×Int×Int×Int×Int×List Int×Int×List Int×Int×Int×List Int×Int×Bool×List Z7×Int×Int×Int×Int×Int×Int×Int×Int×List Int×Int×List Int×Int×Int×List Int×Int×Bool×List Z7
abbrev A12 :ETy:=(ci (ci (ci (ci (ci (ci (ci (ci (.cons (.sl (ci .nil)) (ci (.cons (.sl (ci .nil)) (ci (ci (.cons (.sl (ci .nil)) (ci (.cons .bool (.cons (.sl (ci (ci .nil))) (ci (ci (ci (ci (ci (ci (ci (ci (.cons (.sl (ci .nil)) (ci (.cons (.sl (ci .nil)) (ci (ci (.cons (.sl (ci .nil)) (ci (.cons .bool (.cons (.sl (ci (ci .nil))) .nil))))))))))))))))))))))))))))))))))
abbrev fl12 (x0:Z4)(x1:Z4):D12:=(x0.1,x0.2.1,x0.2.2.1,x0.2.2.2.1,x0.2.2.2.2.1,x0.2.2.2.2.2.1,x0.2.2.2.2.2.2.1,x0.2.2.2.2.2.2.2.1,x0.2.2.2.2.2.2.2.2.1,x0.2.2.2.2.2.2.2.2.2.1,x0.2.2.2.2.2.2.2.2.2.2.1,x0.2.2.2.2.2.2.2.2.2.2.2.1,x0.2.2.2.2.2.2.2.2.2.2.2.2.1,x0.2.2.2.2.2.2.2.2.2.2.2.2.2.1,x0.2.2.2.2.2.2.2.2.2.2.2.2.2.2.1,x0.2.2.2.2.2.2.2.2.2.2.2.2.2.2.2.1,x0.2.2.2.2.2.2.2.2.2.2.2.2.2.2.2.2,x1.1,x1.2.1,x1.2.2.1,x1.2.2.2.1,x1.2.2.2.2.1,x1.2.2.2.2.2.1,x1.2.2.2.2.2.2.1,x1.2.2.2.2.2.2.2.1,x1.2.2.2.2.2.2.2.2.1,x1.2.2.2.2.2.2.2.2.2.1,x1.2.2.2.2.2.2.2.2.2.2.1,x1.2.2.2.2.2.2.2.2.2.2.2.1,x1.2.2.2.2.2.2.2.2.2.2.2.2.1,x1.2.2.2.2.2.2.2.2.2.2.2.2.2.1,x1.2.2.2.2.2.2.2.2.2.2.2.2.2.2.1,x1.2.2.2.2.2.2.2.2.2.2.2.2.2.2.2.1,x1.2.2.2.2.2.2.2.2.2.2.2.2.2.2.2.2)
abbrev p12_0 (x:D12):Z4:=(x.1,x.2.1,x.2.2.1,x.2.2.2.1,x.2.2.2.2.1,x.2.2.2.2.2.1,x.2.2.2.2.2.2.1,x.2.2.2.2.2.2.2.1,x.2.2.2.2.2.2.2.2.1,x.2.2.2.2.2.2.2.2.2.1,x.2.2.2.2.2.2.2.2.2.2.1,x.2.2.2.2.2.2.2.2.2.2.2.1,x.2.2.2.2.2.2.2.2.2.2.2.2.1,x.2.2.2.2.2.2.2.2.2.2.2.2.2.1,x.2.2.2.2.2.2.2.2.2.2.2.2.2.2.1,x.2.2.2.2.2.2.2.2.2.2.2.2.2.2.2.1,x.2.2.2.2.2.2.2.2.2.2.2.2.2.2.2.2.1)
abbrev p12_1 (x:D12):Z4:=x.2.2.2.2.2.2.2.2.2.2.2.2.2.2.2.2.2
abbrev D13 :Type:=Int×ByteArray×Int×Int×List ByteArray×ByteArray×Int×Int×List ByteArray×Int×List Int×Int×List Int×Int×ByteArray×Int×Int×List ByteArray×ByteArray×Int×Int×List ByteArray×Int×List Int×Int×List Int
abbrev A13 :ETy:=(ci (.cons .str (ci (ci (.cons (.sl (.cons .str .nil)) (.cons .str (ci (ci (.cons (.sl (.cons .str .nil)) (ci (.cons (.sl (ci .nil)) (ci (.cons (.sl (ci .nil)) (ci (.cons .str (ci (ci (.cons (.sl (.cons .str .nil)) (.cons .str (ci (ci (.cons (.sl (.cons .str .nil)) (ci (.cons (.sl (ci .nil)) (ci (.cons (.sl (ci .nil)) .nil))))))))))))))))))))))))))
abbrev fl13 (x0:Zp)(x1:Zp):D13:=(x0.1,x0.2.1,x0.2.2.1,x0.2.2.2.1,x0.2.2.2.2.1,x0.2.2.2.2.2.1,x0.2.2.2.2.2.2.1,x0.2.2.2.2.2.2.2.1,x0.2.2.2.2.2.2.2.2.1,x0.2.2.2.2.2.2.2.2.2.1,x0.2.2.2.2.2.2.2.2.2.2.1,x0.2.2.2.2.2.2.2.2.2.2.2.1,x0.2.2.2.2.2.2.2.2.2.2.2.2,x1.1,x1.2.1,x1.2.2.1,x1.2.2.2.1,x1.2.2.2.2.1,x1.2.2.2.2.2.1,x1.2.2.2.2.2.2.1,x1.2.2.2.2.2.2.2.1,x1.2.2.2.2.2.2.2.2.1,x1.2.2.2.2.2.2.2.2.2.1,x1.2.2.2.2.2.2.2.2.2.2.1,x1.2.2.2.2.2.2.2.2.2.2.2.1,x1.2.2.2.2.2.2.2.2.2.2.2.2)
abbrev p13_0 (x:D13):Zp:=(x.1,x.2.1,x.2.2.1,x.2.2.2.1,x.2.2.2.2.1,x.2.2.2.2.2.1,x.2.2.2.2.2.2.1,x.2.2.2.2.2.2.2.1,x.2.2.2.2.2.2.2.2.1,x.2.2.2.2.2.2.2.2.2.1,x.2.2.2.2.2.2.2.2.2.2.1,x.2.2.2.2.2.2.2.2.2.2.2.1,x.2.2.2.2.2.2.2.2.2.2.2.2.1)
abbrev p13_1 (x:D13):Zp:=x.2.2.2.2.2.2.2.2.2.2.2.2.2
abbrev D14 :Type:=List Z4×Bool×ByteArray×Int×Int×List ByteArray×Int×List Int×Int×ByteArray×Int×Int×List ByteArray×ByteArray×Int×Int×List ByteArray×Int×List Int×Int×List Int×List Z4×Bool×ByteArray×Int×Int×List ByteArray×Int×List Int×Int×ByteArray×Int×Int×List ByteArray×ByteArray×Int×Int×List ByteArray×Int×List Int×Int×List Int
abbrev A14 :ETy:=(.cons (.sl eSigned) (.cons .bool (.cons .str (ci (ci (.cons (.sl (.cons .str .nil)) (ci (.cons (.sl (ci .nil)) (ci (.cons .str (ci (ci (.cons (.sl (.cons .str .nil)) (.cons .str (ci (ci (.cons (.sl (.cons .str .nil)) (ci (.cons (.sl (ci .nil)) (ci (.cons (.sl (ci .nil)) (.cons (.sl eSigned) (.cons .bool (.cons .str (ci (ci (.cons (.sl (.cons .str .nil)) (ci (.cons (.sl (ci .nil)) (ci (.cons .str (ci (ci (.cons (.sl (.cons .str .nil)) (.cons .str (ci (ci (.cons (.sl (.cons .str .nil)) (ci (.cons (.sl (ci .nil)) (ci (.cons (.sl (ci .nil)) .nil))))))))))))))))))))))))))))))))))))))))))
abbrev fl14 (x0:Zi)(x1:Zi):D14:=(x0.1,x0.2.1,x0.2.2.1,x0.2.2.2.1,x0.2.2.2.2.1,x0.2.2.2.2.2.1,x0.2.2.2.2.2.2.1,x0.2.2.2.2.2.2.2.1,x0.2.2.2.2.2.2.2.2.1,x0.2.2.2.2.2.2.2.2.2.1,x0.2.2.2.2.2.2.2.2.2.2.1,x0.2.2.2.2.2.2.2.2.2.2.2.1,x0.2.2.2.2.2.2.2.2.2.2.2.2.1,x0.2.2.2.2.2.2.2.2.2.2.2.2.2.1,x0.2.2.2.2.2.2.2.2.2.2.2.2.2.2.1,x0.2.2.2.2.2.2.2.2.2.2.2.2.2.2.2.1,x0.2.2.2.2.2.2.2.2.2.2.2.2.2.2.2.2.1,x0.2.2.2.2.2.2.2.2.2.2.2.2.2.2.2.2.2.1,x0.2.2.2.2.2.2.2.2.2.2.2.2.2.2.2.2.2.2.1,x0.2.2.2.2.2.2.2.2.2.2.2.2.2.2.2.2.2.2.2.1,x0.2.2.2.2.2.2.2.2.2.2.2.2.2.2.2.2.2.2.2.2,x1.1,x1.2.1,x1.2.2.1,x1.2.2.2.1,x1.2.2.2.2.1,x1.2.2.2.2.2.1,x1.2.2.2.2.2.2.1,x1.2.2.2.2.2.2.2.1,x1.2.2.2.2.2.2.2.2.1,x1.2.2.2.2.2.2.2.2.2.1,x1.2.2.2.2.2.2.2.2.2.2.1,x1.2.2.2.2.2.2.2.2.2.2.2.1,x1.2.2.2.2.2.2.2.2.2.2.2.2.1,x1.2.2.2.2.2.2.2.2.2.2.2.2.2.1,x1.2.2.2.2.2.2.2.2.2.2.2.2.2.2.1,x1.2.2.2.2.2.2.2.2.2.2.2.2.2.2.2.1,x1.2.2.2.2.2.2.2.2.2.2.2.2.2.2.2.2.1,x1.2.2.2.2.2.2.2.2.2.2.2.2.2.2.2.2.2.1,x1.2.2.2.2.2.2.2.2.2.2.2.2.2.2.2.2.2.2.1,x1.2.2.2.2.2.2.2.2.2.2.2.2.2.2.2.2.2.2.2.1,x1.2.2.2.2.2.2.2.2.2.2.2.2.2.2.2.2.2.2.2.2)
abbrev p14_0 (x:D14):Zi:=(x.1,x.2.1,x.2.2.1,x.2.2.2.1,x.2.2.2.2.1,x.2.2.2.2.2.1,x.2.2.2.2.2.2.1,x.2.2.2.2.2.2.2.1,x.2.2.2.2.2.2.2.2.1,x.2.2.2.2.2.2.2.2.2.1,x.2.2.2.2.2.2.2.2.2.2.1,x.2.2.2.2.2.2.2.2.2.2.2.1,x.2.2.2.2.2.2.2.2.2.2.2.2.1,x.2.2.2.2.2.2.2.2.2.2.2.2.2.1,x.2.2.2.2.2.2.2.2.2.2.2.2.2.2.1,x.2.2.2.2.2.2.2.2.2.2.2.2.2.2.2.1,x.2.2.2.2.2.2.2.2.2.2.2.2.2.2.2.2.1,x.2.2.2.2.2.2.2.2.2.2.2.2.2.2.2.2.2.1,x.2.2.2.2.2.2.2.2.2.2.2.2.2.2.2.2.2.2.1,x.2.2.2.2.2.2.2.2.2.2.2.2.2.2.2.2.2.2.2.1,x.2.2.2.2.2.2.2.2.2.2.2.2.2.2.2.2.2.2.2.2.1)
abbrev p14_1 (x:D14):Zi:=x.2.2.2.2.2.2.2.2.2.2.2.2.2.2.2.2.2.2.2.2.2
abbrev D15 :Type:=Int×Int×Int×Int×Int×Int×Int×Int×List Int×Int×List Int×Int×Int×List Int×Int×Bool×Int
abbrev A15 :ETy:=(ci (ci (ci (ci (ci (ci (ci (ci (.cons (.sl (ci .nil)) (ci (.cons (.sl (ci .nil)) (ci (ci (.cons (.sl (ci .nil)) (ci (.cons .bool (ci .nil)))))))))))))))))
abbrev fl15 (x0:Z5)(x1:Int):D15:=(x0.1,x0.2.1,x0.2.2.1,x0.2.2.2.1,x0.2.2.2.2.1,x0.2.2.2.2.2.1,x0.2.2.2.2.2.2.1,x0.2.2.2.2.2.2.2.1,x0.2.2.2.2.2.2.2.2.1,x0.2.2.2.2.2.2.2.2.2.1,x0.2.2.2.2.2.2.2.2.2.2.1,x0.2.2.2.2.2.2.2.2.2.2.2.1,x0.2.2.2.2.2.2.2.2.2.2.2.2.1,x0.2.2.2.2.2.2.2.2.2.2.2.2.2.1,x0.2.2.2.2.2.2.2.2.2.2.2.2.2.2.1,x0.2.2.2.2.2.2.2.2.2.2.2.2.2.2.2,x1)
abbrev p15_0 (x:D15):Z5:=(x.1,x.2.1,x.2.2.1,x.2.2.2.1,x.2.2.2.2.1,x.2.2.2.2.2.1,x.2.2.2.2.2.2.1,x.2.2.2.2.2.2.2.1,x.2.2.2.2.2.2.2.2.1,x.2.2.2.2.2.2.2.2.2.1,x.2.2.2.2.2.2.2.2.2.2.1,x.2.2.2.2.2.2.2.2.2.2.2.1,x.2.2.2.2.2.2.2.2.2.2.2.2.1,x.2.2.2.2.2.2.2.2.2.2.2.2.2.1,x.2.2.2.2.2.2.2.2.2.2.2.2.2.2.1,x.2.2.2.2.2.2.2.2.2.2.2.2.2.2.2.1)
abbrev p15_1 (x:D15):Int:=x.2.2.2.2.2.2.2.2.2.2.2.2.2.2.2.2
abbrev D16 :Type:=Int×Int×ByteArray×Int×ByteArray×Int×Int×List ByteArray×ByteArray×Int×Int×List ByteArray×Int×List Int×Int×List Int
abbrev A16 :ETy:=(ci (ci (.cons .str (ci (.cons .str (ci (ci (.cons (.sl (.cons .str .nil)) (.cons .str (ci (ci (.cons (.sl (.cons .str .nil)) (ci (.cons (.sl (ci .nil)) (ci (.cons (.sl (ci .nil)) .nil))))))))))))))))
abbrev fl16 (x0:Int)(x1:Int)(x2:ByteArray)(x3:Zp):D16:=(x0,x1,x2,x3.1,x3.2.1,x3.2.2.1,x3.2.2.2.1,x3.2.2.2.2.1,x3.2.2.2.2.2.1,x3.2.2.2.2.2.2.1,x3.2.2.2.2.2.2.2.1,x3.2.2.2.2.2.2.2.2.1,x3.2.2.2.2.2.2.2.2.2.1,x3.2.2.2.2.2.2.2.2.2.2.1,x3.2.2.2.2.2.2.2.2.2.2.2.1,x3.2.2.2.2.2.2.2.2.2.2.2.2)
abbrev p16_0 (x:D16):Int:=x.1
abbrev p16_1 (x:D16):Int:=x.2.1
abbrev p16_2 (x:D16):ByteArray:=x.2.2.1
abbrev p16_3 (x:D16):Zp:=x.2.2.2
abbrev D17 :Type:=Int×Int×Int×Int×Int×Int×Int×Int×List Int×Int×List Int×Int×Int×List Int×Int×Bool×ByteArray×List Z4×Bool×ByteArray×Int×Int×List ByteArray×Int×List Int×Int×ByteArray×Int×Int×List ByteArray×ByteArray×Int×Int×List ByteArray×Int×List Int×Int×List Int
abbrev A17 :ETy:=(ci (ci (ci (ci (ci (ci (ci (ci (.cons (.sl (ci .nil)) (ci (.cons (.sl (ci .nil)) (ci (ci (.cons (.sl (ci .nil)) (ci (.cons .bool (.cons .str (.cons (.sl eSigned) (.cons .bool (.cons .str (ci (ci (.cons (.sl (.cons .str .nil)) (ci (.cons (.sl (ci .nil)) (ci (.cons .str (ci (ci (.cons (.sl (.cons .str .nil)) (.cons .str (ci (ci (.cons (.sl (.cons .str .nil)) (ci (.cons (.sl (ci .nil)) (ci (.cons (.sl (ci .nil)) .nil))))))))))))))))))))))))))))))))))))))
abbrev fl17 (x0:Z5)(x1:ByteArray)(x2:Zi):D17:=(x0.1,x0.2.1,x0.2.2.1,x0.2.2.2.1,x0.2.2.2.2.1,x0.2.2.2.2.2.1,x0.2.2.2.2.2.2.1,x0.2.2.2.2.2.2.2.1,x0.2.2.2.2.2.2.2.2.1,x0.2.2.2.2.2.2.2.2.2.1,x0.2.2.2.2.2.2.2.2.2.2.1,x0.2.2.2.2.2.2.2.2.2.2.2.1,x0.2.2.2.2.2.2.2.2.2.2.2.2.1,x0.2.2.2.2.2.2.2.2.2.2.2.2.2.1,x0.2.2.2.2.2.2.2.2.2.2.2.2.2.2.1,x0.2.2.2.2.2.2.2.2.2.2.2.2.2.2.2,x1,x2.1,x2.2.1,x2.2.2.1,x2.2.2.2.1,x2.2.2.2.2.1,x2.2.2.2.2.2.1,x2.2.2.2.2.2.2.1,x2.2.2.2.2.2.2.2.1,x2.2.2.2.2.2.2.2.2.1,x2.2.2.2.2.2.2.2.2.2.1,x2.2.2.2.2.2.2.2.2.2.2.1,x2.2.2.2.2.2.2.2.2.2.2.2.1,x2.2.2.2.2.2.2.2.2.2.2.2.2.1,x2.2.2.2.2.2.2.2.2.2.2.2.2.2.1,x2.2.2.2.2.2.2.2.2.2.2.2.2.2.2.1,x2.2.2.2.2.2.2.2.2.2.2.2.2.2.2.2.1,x2.2.2.2.2.2.2.2.2.2.2.2.2.2.2.2.2.1,x2.2.2.2.2.2.2.2.2.2.2.2.2.2.2.2.2.2.1,x2.2.2.2.2.2.2.2.2.2.2.2.2.2.2.2.2.2.2.1,x2.2.2.2.2.2.2.2.2.2.2.2.2.2.2.2.2.2.2.2.1,x2.2.2.2.2.2.2.2.2.2.2.2.2.2.2.2.2.2.2.2.2)
abbrev p17_0 (x:D17):Z5:=(x.1,x.2.1,x.2.2.1,x.2.2.2.1,x.2.2.2.2.1,x.2.2.2.2.2.1,x.2.2.2.2.2.2.1,x.2.2.2.2.2.2.2.1,x.2.2.2.2.2.2.2.2.1,x.2.2.2.2.2.2.2.2.2.1,x.2.2.2.2.2.2.2.2.2.2.1,x.2.2.2.2.2.2.2.2.2.2.2.1,x.2.2.2.2.2.2.2.2.2.2.2.2.1,x.2.2.2.2.2.2.2.2.2.2.2.2.2.1,x.2.2.2.2.2.2.2.2.2.2.2.2.2.2.1,x.2.2.2.2.2.2.2.2.2.2.2.2.2.2.2.1)
abbrev p17_1 (x:D17):ByteArray:=x.2.2.2.2.2.2.2.2.2.2.2.2.2.2.2.2.1
abbrev p17_2 (x:D17):Zi:=x.2.2.2.2.2.2.2.2.2.2.2.2.2.2.2.2.2
abbrev D18 :Type:=Int×ByteArray×List Z4×Bool×ByteArray×Int×Int×List ByteArray×Int×List Int×Int×ByteArray×Int×Int×List ByteArray×ByteArray×Int×Int×List ByteArray×Int×List Int×Int×List Int×Int
abbrev A18 :ETy:=eRIntStrAnswerInt
abbrev fl18 (x0:Int)(x1:ByteArray)(x2:Zi)(x3:Int):D18:=(x0,x1,x2.1,x2.2.1,x2.2.2.1,x2.2.2.2.1,x2.2.2.2.2.1,x2.2.2.2.2.2.1,x2.2.2.2.2.2.2.1,x2.2.2.2.2.2.2.2.1,x2.2.2.2.2.2.2.2.2.1,x2.2.2.2.2.2.2.2.2.2.1,x2.2.2.2.2.2.2.2.2.2.2.1,x2.2.2.2.2.2.2.2.2.2.2.2.1,x2.2.2.2.2.2.2.2.2.2.2.2.2.1,x2.2.2.2.2.2.2.2.2.2.2.2.2.2.1,x2.2.2.2.2.2.2.2.2.2.2.2.2.2.2.1,x2.2.2.2.2.2.2.2.2.2.2.2.2.2.2.2.1,x2.2.2.2.2.2.2.2.2.2.2.2.2.2.2.2.2.1,x2.2.2.2.2.2.2.2.2.2.2.2.2.2.2.2.2.2.1,x2.2.2.2.2.2.2.2.2.2.2.2.2.2.2.2.2.2.2.1,x2.2.2.2.2.2.2.2.2.2.2.2.2.2.2.2.2.2.2.2.1,x2.2.2.2.2.2.2.2.2.2.2.2.2.2.2.2.2.2.2.2.2,x3)
abbrev p18_0 (x:D18):Int:=x.1
abbrev p18_1 (x:D18):ByteArray:=x.2.1
abbrev p18_2 (x:D18):Zi:=(x.2.2.1,x.2.2.2.1,x.2.2.2.2.1,x.2.2.2.2.2.1,x.2.2.2.2.2.2.1,x.2.2.2.2.2.2.2.1,x.2.2.2.2.2.2.2.2.1,x.2.2.2.2.2.2.2.2.2.1,x.2.2.2.2.2.2.2.2.2.2.1,x.2.2.2.2.2.2.2.2.2.2.2.1,x.2.2.2.2.2.2.2.2.2.2.2.2.1,x.2.2.2.2.2.2.2.2.2.2.2.2.2.1,x.2.2.2.2.2.2.2.2.2.2.2.2.2.2.1,x.2.2.2.2.2.2.2.2.2.2.2.2.2.2.2.1,x.2.2.2.2.2.2.2.2.2.2.2.2.2.2.2.2.1,x.2.2.2.2.2.2.2.2.2.2.2.2.2.2.2.2.2.1,x.2.2.2.2.2.2.2.2.2.2.2.2.2.2.2.2.2.2.1,x.2.2.2.2.2.2.2.2.2.2.2.2.2.2.2.2.2.2.2.1,x.2.2.2.2.2.2.2.2.2.2.2.2.2.2.2.2.2.2.2.2.1,x.2.2.2.2.2.2.2.2.2.2.2.2.2.2.2.2.2.2.2.2.2.1,x.2.2.2.2.2.2.2.2.2.2.2.2.2.2.2.2.2.2.2.2.2.2.1)
abbrev p18_3 (x:D18):Int:=x.2.2.2.2.2.2.2.2.2.2.2.2.2.2.2.2.2.2.2.2.2.2.2
abbrev D19 :Type:=(Z3)×Int×ByteArray×Int×Int×List ByteArray×ByteArray×Int×Int×List ByteArray×Int×List Int×Int×List Int
abbrev A19 :ETy:=(.cons (.ptr (.cons (.sl (.cons (.int .u8) .nil)) (ci (ci .nil)))) (ci (.cons .str (ci (ci (.cons (.sl (.cons .str .nil)) (.cons .str (ci (ci (.cons (.sl (.cons .str .nil)) (ci (.cons (.sl (ci .nil)) (ci (.cons (.sl (ci .nil)) .nil))))))))))))))
abbrev fl19 (x0:(Z3))(x1:Zp):D19:=(x0,x1.1,x1.2.1,x1.2.2.1,x1.2.2.2.1,x1.2.2.2.2.1,x1.2.2.2.2.2.1,x1.2.2.2.2.2.2.1,x1.2.2.2.2.2.2.2.1,x1.2.2.2.2.2.2.2.2.1,x1.2.2.2.2.2.2.2.2.2.1,x1.2.2.2.2.2.2.2.2.2.2.1,x1.2.2.2.2.2.2.2.2.2.2.2.1,x1.2.2.2.2.2.2.2.2.2.2.2.2)
abbrev p19_0 (x:D19):(Z3):=x.1
abbrev p19_1 (x:D19):Zp:=x.2
abbrev D20 :Type:=(Z3)×List Z4×Bool×ByteArray×Int×Int×List ByteArray×Int×List Int×Int×ByteArray×Int×Int×List ByteArray×ByteArray×Int×Int×List ByteArray×Int×List Int×Int×List Int
abbrev A20 :ETy:=(.cons (.ptr (.cons (.sl (.cons (.int .u8) .nil)) (ci (ci .nil)))) (.cons (.sl eSigned) (.cons .bool (.cons .str (ci (ci (.cons (.sl (.cons .str .nil)) (ci (.cons (.sl (ci .nil)) (ci (.cons .str (ci (ci (.cons (.sl (.cons .str .nil)) (.cons .str (ci (ci (.cons (.sl (.cons .str .nil)) (ci (.cons (.sl (ci .nil)) (ci (.cons (.sl (ci .nil)) .nil))))))))))))))))))))))
abbrev fl20 (x0:(Z3))(x1:Zi):D20:=(x0,x1.1,x1.2.1,x1.2.2.1,x1.2.2.2.1,x1.2.2.2.2.1,x1.2.2.2.2.2.1,x1.2.2.2.2.2.2.1,x1.2.2.2.2.2.2.2.1,x1.2.2.2.2.2.2.2.2.1,x1.2.2.2.2.2.2.2.2.2.1,x1.2.2.2.2.2.2.2.2.2.2.1,x1.2.2.2.2.2.2.2.2.2.2.2.1,x1.2.2.2.2.2.2.2.2.2.2.2.2.1,x1.2.2.2.2.2.2.2.2.2.2.2.2.2.1,x1.2.2.2.2.2.2.2.2.2.2.2.2.2.2.1,x1.2.2.2.2.2.2.2.2.2.2.2.2.2.2.2.1,x1.2.2.2.2.2.2.2.2.2.2.2.2.2.2.2.2.1,x1.2.2.2.2.2.2.2.2.2.2.2.2.2.2.2.2.2.1,x1.2.2.2.2.2.2.2.2.2.2.2.2.2.2.2.2.2.2.1,x1.2.2.2.2.2.2.2.2.2.2.2.2.2.2.2.2.2.2.2.1,x1.2.2.2.2.2.2.2.2.2.2.2.2.2.2.2.2.2.2.2.2)
abbrev p20_0 (x:D20):(Z3):=x.1
abbrev p20_1 (x:D20):Zi:=x.2
abbrev lsHead (x:Z5):List Lf:=[.vi (x.1), .vi (x.2.1), .vi (x.2.2.1), .vi (x.2.2.2.1), .vi (x.2.2.2.2.1), .vi (x.2.2.2.2.2.1), .vi (x.2.2.2.2.2.2.1), .vi (x.2.2.2.2.2.2.2.1), .val (.sl (ci .nil) x.2.2.2.2.2.2.2.2.1), .vi (x.2.2.2.2.2.2.2.2.2.1), .val (.sl (ci .nil) x.2.2.2.2.2.2.2.2.2.2.1), .vi (x.2.2.2.2.2.2.2.2.2.2.2.1), .vi (x.2.2.2.2.2.2.2.2.2.2.2.2.1), .val (.sl (ci .nil) x.2.2.2.2.2.2.2.2.2.2.2.2.2.1), .vi (x.2.2.2.2.2.2.2.2.2.2.2.2.2.2.1), .val (.bool x.2.2.2.2.2.2.2.2.2.2.2.2.2.2.2)]
abbrev lsSigned (x:Z4):List Lf:=[.vi (x.1), .vi (x.2.1), .vi (x.2.2.1), .vi (x.2.2.2.1), .vi (x.2.2.2.2.1), .vi (x.2.2.2.2.2.1), .vi (x.2.2.2.2.2.2.1), .vi (x.2.2.2.2.2.2.2.1), .val (.sl (ci .nil) x.2.2.2.2.2.2.2.2.1), .vi (x.2.2.2.2.2.2.2.2.2.1), .val (.sl (ci .nil) x.2.2.2.2.2.2.2.2.2.2.1), .vi (x.2.2.2.2.2.2.2.2.2.2.2.1), .vi (x.2.2.2.2.2.2.2.2.2.2.2.2.1), .val (.sl (ci .nil) x.2.2.2.2.2.2.2.2.2.2.2.2.2.1), .vi (x.2.2.2.2.2.2.2.2.2.2.2.2.2.2.1), .val (.bool x.2.2.2.2.2.2.2.2.2.2.2.2.2.2.2.1), .val (.sl (ci (ci .nil)) x.2.2.2.2.2.2.2.2.2.2.2.2.2.2.2.2)]
abbrev lsGap (x:Zp):List Lf:=[.vi (x.1), .val (.str x.2.1), .vi (x.2.2.1), .vi (x.2.2.2.1), .val (.sl (.cons .str .nil) x.2.2.2.2.1), .val (.str x.2.2.2.2.2.1), .vi (x.2.2.2.2.2.2.1), .vi (x.2.2.2.2.2.2.2.1), .val (.sl (.cons .str .nil) x.2.2.2.2.2.2.2.2.1), .vi (x.2.2.2.2.2.2.2.2.2.1), .val (.sl (ci .nil) x.2.2.2.2.2.2.2.2.2.2.1), .vi (x.2.2.2.2.2.2.2.2.2.2.2.1), .val (.sl (ci .nil) x.2.2.2.2.2.2.2.2.2.2.2.2)]
abbrev lsAnswer (x:Zi):List Lf:=[.val (.sl eSigned x.1), .val (.bool x.2.1), .val (.str x.2.2.1), .vi (x.2.2.2.1), .vi (x.2.2.2.2.1), .val (.sl (.cons .str .nil) x.2.2.2.2.2.1), .vi (x.2.2.2.2.2.2.1), .val (.sl (ci .nil) x.2.2.2.2.2.2.2.1), .vi (x.2.2.2.2.2.2.2.2.1), .val (.str x.2.2.2.2.2.2.2.2.2.1), .vi (x.2.2.2.2.2.2.2.2.2.2.1), .vi (x.2.2.2.2.2.2.2.2.2.2.2.1), .val (.sl (.cons .str .nil) x.2.2.2.2.2.2.2.2.2.2.2.2.1), .val (.str x.2.2.2.2.2.2.2.2.2.2.2.2.2.1), .vi (x.2.2.2.2.2.2.2.2.2.2.2.2.2.2.1), .vi (x.2.2.2.2.2.2.2.2.2.2.2.2.2.2.2.1), .val (.sl (.cons .str .nil) x.2.2.2.2.2.2.2.2.2.2.2.2.2.2.2.2.1), .vi (x.2.2.2.2.2.2.2.2.2.2.2.2.2.2.2.2.2.1), .val (.sl (ci .nil) x.2.2.2.2.2.2.2.2.2.2.2.2.2.2.2.2.2.2.1), .vi (x.2.2.2.2.2.2.2.2.2.2.2.2.2.2.2.2.2.2.2.1), .val (.sl (ci .nil) x.2.2.2.2.2.2.2.2.2.2.2.2.2.2.2.2.2.2.2.2)]
abbrev tys :List (Nat×TI):=[(3,⟨.int .i64,false,[.vi ((0:Int))],8,[],(ci .nil)⟩),
 (4,⟨.bool,false,[.val (.bool false)],1,[],(.cons .bool .nil)⟩),
 (5,⟨.int .u8,false,[.val (.int .u8 (0:Int))],1,[],(.cons (.int .u8) .nil)⟩),
 (9,⟨.str,false,[.val (.str (⟨#[]⟩:ByteArray))],16,[],(.cons .str .nil)⟩),
 (22,⟨.sl 5,false,[.nil0],24,[],(.cons (.sl (.cons (.int .u8) .nil)) .nil)⟩),
 (24,⟨.sl 78,false,[.nil0],24,[],(.cons (.sl V.eSigned) .nil)⟩),
 (25,⟨.sl 32,false,[.nil0],24,[],(.cons (.sl V.eEntry) .nil)⟩),
 (27,⟨.st,false,[.nil0, .nil0],48,[(0,1,false),(1,1,false)],(.cons (.sl V.eSigned) (.cons (.sl V.eEntry) .nil))⟩),
 (30,⟨.sl 9,false,[.nil0],24,[],(.cons (.sl (.cons .str .nil)) .nil)⟩),
 (32,⟨.st,false,[.val (.str (⟨#[]⟩:ByteArray)), .vi ((0:Int)), .vi ((0:Int)), .nil0],56,[(0,1,false),(1,1,false),(2,1,false),(3,1,false)],V.eEntry⟩),
 (33,⟨.sl 3,false,[.nil0],24,[],(.cons (.sl (ci .nil)) .nil)⟩),
 (35,⟨.st,false,[.vi ((0:Int)), .nil0],32,[(0,1,false),(1,1,false)],(ci (.cons (.sl (ci .nil)) .nil))⟩),
 (37,⟨.st,false,[.vi ((0:Int)), .val (.str (⟨#[]⟩:ByteArray)), .vi ((0:Int)), .vi ((0:Int)), .nil0, .val (.str (⟨#[]⟩:ByteArray)), .vi ((0:Int)), .vi ((0:Int)), .nil0, .vi ((0:Int)), .nil0, .vi ((0:Int)), .nil0],184,[(0,1,false),(1,4,true),(5,4,true),(9,2,true),(11,2,true)],V.eGap⟩),
 (39,⟨.st,false,[.nil0, .val (.bool false), .val (.str (⟨#[]⟩:ByteArray)), .vi ((0:Int)), .vi ((0:Int)), .nil0, .vi ((0:Int)), .nil0, .vi ((0:Int)), .val (.str (⟨#[]⟩:ByteArray)), .vi ((0:Int)), .vi ((0:Int)), .nil0, .val (.str (⟨#[]⟩:ByteArray)), .vi ((0:Int)), .vi ((0:Int)), .nil0, .vi ((0:Int)), .nil0, .vi ((0:Int)), .nil0],304,[(0,1,false),(1,1,false),(2,4,true),(6,2,true),(8,13,true)],V.eAnswer⟩),
 (45,⟨.st,false,[.nil0, .vi ((0:Int))],32,[(0,1,false),(1,1,false)],(.cons (.sl (ci .nil)) (ci .nil))⟩),
 (47,⟨.st,false,[.vi ((0:Int)), .vi ((0:Int)), .vi ((0:Int)), .vi ((0:Int)), .vi ((0:Int)), .vi ((0:Int)), .vi ((0:Int)), .vi ((0:Int)), .nil0, .vi ((0:Int)), .nil0, .vi ((0:Int)), .vi ((0:Int)), .nil0, .vi ((0:Int)), .val (.bool false)],176,[(0,1,false),(1,1,false),(2,1,false),(3,1,false),(4,1,false),(5,1,false),(6,1,false),(7,1,false),(8,2,true),(10,2,true),(12,1,false),(13,2,true),(15,1,false)],V.eHead⟩),
 (76,⟨.sl 124,false,[.nil0],24,[],(.cons (.sl (ci (ci .nil))) .nil)⟩),
 (78,⟨.st,false,[.vi ((0:Int)), .vi ((0:Int)), .vi ((0:Int)), .vi ((0:Int)), .vi ((0:Int)), .vi ((0:Int)), .vi ((0:Int)), .vi ((0:Int)), .nil0, .vi ((0:Int)), .nil0, .vi ((0:Int)), .vi ((0:Int)), .nil0, .vi ((0:Int)), .val (.bool false), .nil0],200,[(0,16,true),(16,1,false)],V.eSigned⟩),
 (87,⟨.st,false,[.nil0, .vi ((0:Int)), .vi ((0:Int))],40,[(0,1,false),(1,1,false),(2,1,false)],(.cons (.sl (.cons (.int .u8) .nil)) (ci (ci .nil)))⟩),
 (124,⟨.st,true,[.vi ((0:Int)), .vi ((0:Int))],16,[(0,1,false),(1,1,false)],(ci (ci .nil))⟩),
 (182,⟨.sl 33,false,[.nil0],24,[],(.cons (.sl (.cons (.sl (ci .nil)) .nil)) .nil)⟩)]
theorem Z5F :tyAll prog tys=true:=by kernel_rfl
theorem mixed :prog.follows .mixedOrders=true:=by kernel_rfl
theorem cfl {α:Type}{a b c:α}(e:a=b)(h:a=c):b=c:=e.symm.trans h
theorem fo {g:Nat}{fn:Func}{con:Con}{tab:List (Nat×Con)}{heads:List (Nat×List Nat×Cv)}{pre:List (Nat×Nat)}{shallow:List Nat}{movs flts:List (Nat×List Nat)}(h:TabOk prog tab)(hf:prog.funcs[g]? =some fn)(hq:(!(fn.name== "runtime.NumGoroutine")&&(!fn.body.isNone&&conOk con fn.ntmps))=true)(hev:∀x y,con.f x=some y->evBody (mkE tys tab heads pre shallow movs flts) con fn x=some y):Valid prog g con:=by
 simp only[Bool.and_eq_true,Bool.not_eq_true']at hq
 exact body_ok (env_ok mixed Z5F h) hf hq.1 hq.2.1 hq.2.2 hev
theorem fo2 {g:Nat}{fn:Func}{con:Con}{tab tab2:List (Nat×Con)}{sites:List Nat}{heads:List (Nat×List Nat×Cv)}{pre:List (Nat×Nat)}{shallow:List Nat}{movs flts:List (Nat×List Nat)}(h:TabOk prog tab)(h2:TabOk prog tab2)(hf:prog.funcs[g]? =some fn)(hq:(!(fn.name== "runtime.NumGoroutine")&&(!fn.body.isNone&&conOk con fn.ntmps))=true)(hev:∀x y,con.f x=some y->evBody (mkE2 tys tab sites tab2 heads pre shallow movs flts) con fn x=some y):Valid prog g con:=by
 simp only[Bool.and_eq_true,Bool.not_eq_true']at hq
 exact body_ok (env_ok2 mixed Z5F h h2) hf hq.1 hq.2.1 hq.2.2 hev
abbrev Qm.con :V.Con:=⟨(.cons (.sl (.cons (.int .u8) .nil)) .nil),(.cons .bool .nil),λ(x:List Int)=>Qm x,[],[(false,1)],[(false,1)],[false],[]⟩
abbrev Qm.E :Env:=V.mkE V.tys [] [] [] [] [] []
theorem Qm.eq (x0:List Int):V.evBody Qm.E Qm.con f4 ((x0):List Int)=Qm x0:=by kernel_rfl
theorem Qm.ok :V.Valid prog 4 Qm.con:=
 V.fo tab_nil func4 (by kernel_rfl) (λx y h=>(show V.evBody Qm.E Qm.con f4 x=_ from Qm.eq x).trans (V.cfl (by kernel_rfl) h))
abbrev ZG.con :V.Con:=⟨(.cons (.sl (.cons (.int .u8) .nil)) .nil),(.cons (.ptr (.cons (.sl (.cons (.int .u8) .nil)) (ci (ci .nil)))) .nil),λ(x:List Int)=>ZG x,[],[(false,1)],[(false,1)],[true],[]⟩
abbrev ZG.E :Env:=V.mkE V.tys [] [(6,[0,3,4],[]),(11,[0,3,4],[])] [] [] [] []
abbrev ZG.kt (x0:List Int):Kt ((Z3)):=ktOf ZG.E ZG.con f20 ((x0):List Int)
abbrev ZG.s11 (x0:List Int)(aD:Int)(aA:Int):St:=⟨[(0, .v false [.val (.sl (.cons (.int .u8) .nil) x0)]),(3, .v false [.vi (aD)]),(4, .v false [.vi (aA)])],[]⟩
abbrev ZG.s6 (x0:List Int)(aD:Int)(aA:Int):St:=⟨[(0, .v false [.val (.sl (.cons (.int .u8) .nil) x0)]),(3, .v false [.vi (aD)]),(4, .v false [.vi (aA)])],[]⟩
theorem ZG.r11 (x0:List Int)(aD:Int)(aA:Int)(R6:St->Option ((Z3))):joinF ZG.E f20.ntmps [1,1,0,1,0,0] [R6] (codeOf f20) (ZG.kt x0) (ZG.s11 x0 aD aA)=ZG.g11 x0 aD aA (λaD aA=>R6 (ZG.s6 x0 aD aA)):=by kernel_rfl
theorem ZG.e11 (x0:List Int)(aD:Int)(aA:Int)(R6:St->Option ((Z3))):jn (joinF ZG.E f20.ntmps [1,1,0,1,0,0] [R6] (codeOf f20) (ZG.kt x0)) (ZG.s11 x0 aD aA)=ZG.l11 x0 aD aA (λaD aA=>R6 (ZG.s6 x0 aD aA)):=by
 rw[jn_eq,ZG.r11]
 rfl
theorem ZG.r6 (x0:List Int)(R:St->Option ((Z3)))(aD:Int)(aA:Int):loopF ZG.E f20.ntmps [1,1,0,1,0] [] (codeOf f20) (ZG.kt x0) R (ZG.s6 x0 aD aA)=ZG.g6 x0 (λaD aA=>R (ZG.s6 x0 aD aA)) (jn (joinF ZG.E f20.ntmps [1,1,0,1,0,0] [R] (codeOf f20) (ZG.kt x0)) (ZG.s11 x0 aD aA)) aD aA:=by kernel_rfl
theorem ZG.e6 (x0:List Int):∀(n:Nat) (aD:Int) (aA:Int),loopN (loopF ZG.E f20.ntmps [1,1,0,1,0] [] (codeOf f20) (ZG.kt x0)) n (ZG.s6 x0 aD aA)=ZG.l6 x0 n aD aA:=by
 intro n
 induction n with
 |zero=>intros;rw[loopN_z];rfl
 |succ n ih=>
  intro aD aA
  rw[loopN_s,ZG.r6]
  simp only[ZG.e11,ih]
  first|exact(ZG.u6 ..).symm|rfl
theorem ZG.v (x0:List Int):V.evBody ZG.E ZG.con f20 ((x0):List Int)=ZG.b x0 (λaD aA=>loopN (loopF ZG.E f20.ntmps [1,1,0,1,0] [] (codeOf f20) (ZG.kt x0)) V.KK (ZG.s6 x0 aD aA)):=by kernel_rfl
theorem ZG.eq (x0:List Int):V.evBody ZG.E ZG.con f20 ((x0):List Int)=ZG x0:=by
 rw[ZG.v]
 simp only[ZG.e6]
 rfl
theorem ZG.ok :V.Valid prog 20 ZG.con:=
 V.fo tab_nil func20 (by kernel_rfl) (λx y h=>(show V.evBody ZG.E ZG.con f20 x=_ from ZG.eq x).trans (V.cfl (by kernel_rfl) h))
abbrev Uc.con :V.Con:=⟨(.cons (.ptr (.cons (.sl (.cons (.int .u8) .nil)) (ci (ci .nil)))) .nil),(.cons (.ptr (.cons (.sl (.cons (.int .u8) .nil)) (ci (ci .nil)))) (ci .nil)),λ(x:(Z3))=>Uc x,[(0,false)],[(false,1)],[(false,1)],[false],[]⟩
abbrev Uc.E :Env:=V.mkE V.tys [] [] [(2,10),(3,9),(4,12)] [] [] []
theorem Uc.eq (x0:(Z3)):V.evBody Uc.E Uc.con f91 ((x0):(Z3))=Uc x0:=by kernel_rfl
theorem Uc.ok :V.Valid prog 91 Uc.con:=
 V.fo tab_nil func91 (by kernel_rfl) (λx y h=>(show V.evBody Uc.E Uc.con f91 x=_ from Uc.eq x).trans (V.cfl (by kernel_rfl) h))
abbrev Zb.con :V.Con:=⟨(.cons (.ptr (.cons (.sl (.cons (.int .u8) .nil)) (ci (ci .nil)))) (ci .nil)),(.cons (.ptr (.cons (.sl (.cons (.int .u8) .nil)) (ci (ci .nil)))) (ci .nil)),λ(x:(Z3)×Int)=>Zb x.1 x.2,[(0,false)],[(false,1),(false,1)],[(false,1)],[false],[]⟩
abbrev Zb.E :Env:=V.mkE V.tys [(91,Uc.con)] [] [] [] [] []
theorem Zb.eq (x0:(Z3))(x1:Int):V.evBody Zb.E Zb.con f46 ((x0,x1):(Z3)×Int)=Zb x0 x1:=by kernel_rfl
theorem Zb.ok :V.Valid prog 46 Zb.con:=
 V.fo (tab_cons Uc.ok tab_nil) func46 (by kernel_rfl) (λx y h=>(show V.evBody Zb.E Zb.con f46 x=_ from Zb.eq x.1 x.2).trans (V.cfl (by kernel_rfl) h))
abbrev ZT.con :V.Con:=⟨(.cons (.ptr (.cons (.sl (.cons (.int .u8) .nil)) (ci (ci .nil)))) .nil),(.cons (.ptr (.cons (.sl (.cons (.int .u8) .nil)) (ci (ci .nil)))) (.cons (.sl (ci .nil)) (ci .nil))),λ(x:(Z3))=>ZT x,[(0,false)],[(false,1)],[(true,2)],[true,false],[]⟩
abbrev ZT.E :Env:=V.mkE V.tys [(46,Zb.con)] [(10,[0,2,3,4,5,6],[(64000000000012292096,(ci .nil),true)])] [] [] [] []
abbrev ZT.kt (x0:(Z3)):Kt ((Z3)×List Int×Int):=ktOf ZT.E ZT.con f84 ((x0):(Z3))
abbrev ZT.s10 (x0:(Z3))(aR:Int)(aS:Int)(aY:Int)(cU:Int)(cV:Int)(cQ:List Int):St:=⟨[(0, .v false [.ptr 0 0]),(2, .v false [.ptr 64000 0]),(3, .v false [.vi (aR)]),(4, .v false [.ptr 192064 0]),(5, .v false [.vi (aS)]),(6, .v false [.vi (aY)])],[(0, .box [.val (.sl (.cons (.int .u8) .nil) x0.1), .vi (cU), .vi (cV)]),(64000, .box [.nil0, .vi ((0:Int))]),(192064, .box [.ref 64000000000012292096, .vi ((0:Int))]),(64000000000012292096, .row (ci .nil) true cQ)]⟩
theorem ZT.r10 (x0:(Z3))(R:St->Option ((Z3)×List Int×Int))(aR:Int)(aS:Int)(aY:Int)(cU:Int)(cV:Int)(cQ:List Int):loopF ZT.E f84.ntmps [1,1,1,1,0,1,0] [] (codeOf f84) (ZT.kt x0) R (ZT.s10 x0 aR aS aY cU cV cQ)=ZT.g10 x0 (λaR aS aY cU cV cQ=>R (ZT.s10 x0 aR aS aY cU cV cQ)) aR aS aY cU cV cQ:=by kernel_rfl
theorem ZT.e10 (x0:(Z3)):∀(n:Nat) (aR:Int) (aS:Int) (aY:Int) (cU:Int) (cV:Int) (cQ:List Int),loopN (loopF ZT.E f84.ntmps [1,1,1,1,0,1,0] [] (codeOf f84) (ZT.kt x0)) n (ZT.s10 x0 aR aS aY cU cV cQ)=ZT.l10 x0 n aR aS aY cU cV cQ:=by
 intro n
 induction n with
 |zero=>intros;rw[loopN_z];rfl
 |succ n ih=>
  intro aR aS aY cU cV cQ
  rw[loopN_s,ZT.r10]
  simp only[ih]
  first|exact(ZT.u10 ..).symm|rfl
theorem ZT.v (x0:(Z3)):V.evBody ZT.E ZT.con f84 ((x0):(Z3))=ZT.b x0 (λaR aS aY cU cV cQ=>loopN (loopF ZT.E f84.ntmps [1,1,1,1,0,1,0] [] (codeOf f84) (ZT.kt x0)) V.KK (ZT.s10 x0 aR aS aY cU cV cQ)):=by kernel_rfl
theorem ZT.eq (x0:(Z3)):V.evBody ZT.E ZT.con f84 ((x0):(Z3))=ZT x0:=by
 rw[ZT.v]
 simp only[ZT.e10]
 rfl
theorem ZT.ok :V.Valid prog 84 ZT.con:=
 V.fo (tab_cons Zb.ok tab_nil) func84 (by kernel_rfl) (λx y h=>(show V.evBody ZT.E ZT.con f84 x=_ from ZT.eq x).trans (V.cfl (by kernel_rfl) h))
abbrev WX.con :V.Con:=⟨(.cons (.ptr (.cons (.sl (.cons (.int .u8) .nil)) (ci (ci .nil)))) (.cons (.sl (.cons .str .nil)) .nil)),(.cons (.ptr (.cons (.sl (.cons (.int .u8) .nil)) (ci (ci .nil)))) (.cons .str .nil)),λ(x:(Z3)×List ByteArray)=>WX x.1 x.2,[(0,false)],[(false,1),(false,1)],[(false,1)],[false],[]⟩
abbrev WX.E :Env:=V.mkE V.tys [(46,Zb.con)] [] [] [] [] []
theorem WX.eq (x0:(Z3))(x1:List ByteArray):V.evBody WX.E WX.con f92 ((x0,x1):(Z3)×List ByteArray)=WX x0 x1:=by kernel_rfl
theorem WX.ok :V.Valid prog 92 WX.con:=
 V.fo (tab_cons Zb.ok tab_nil) func92 (by kernel_rfl) (λx y h=>(show V.evBody WX.E WX.con f92 x=_ from WX.eq x.1 x.2).trans (V.cfl (by kernel_rfl) h))
abbrev Wm.con :V.Con:=⟨(.cons (.ptr (.cons (.sl (.cons (.int .u8) .nil)) (ci (ci .nil)))) .nil),(.cons (.ptr (.cons (.sl (.cons (.int .u8) .nil)) (ci (ci .nil)))) (.cons .str .nil)),λ(x:(Z3))=>Wm x,[(0,false)],[(false,1)],[(false,1)],[false],[]⟩
abbrev Wm.E :Env:=V.mkE V.tys [(92,WX.con)] [] [] [] [] []
theorem Wm.eq (x0:(Z3)):V.evBody Wm.E Wm.con f90 ((x0):(Z3))=Wm x0:=by kernel_rfl
theorem Wm.ok :V.Valid prog 90 Wm.con:=
 V.fo (tab_cons WX.ok tab_nil) func90 (by kernel_rfl) (λx y h=>(show V.evBody Wm.E Wm.con f90 x=_ from Wm.eq x).trans (V.cfl (by kernel_rfl) h))
abbrev Qo.con :V.Con:=⟨(.cons .str (ci .nil)),V.eEntry,λ(x:ByteArray×Int)=>Qo x.1 x.2,[],[(false,1),(false,1)],[(true,4)],[false,false,false,true],[]⟩
abbrev Qo.E :Env:=V.mkE V.tys [] [] [] [] [] []
theorem Qo.eq (x0:ByteArray)(x1:Int):V.evBody Qo.E Qo.con f162 ((x0,x1):ByteArray×Int)=Qo x0 x1:=by kernel_rfl
theorem Qo.ok :V.Valid prog 162 Qo.con:=
 V.fo tab_nil func162 (by kernel_rfl) (λx y h=>(show V.evBody Qo.E Qo.con f162 x=_ from Qo.eq x.1 x.2).trans (V.cfl (by kernel_rfl) h))
abbrev YB.con :V.Con:=⟨(.cons (.ptr (.cons (.sl (.cons (.int .u8) .nil)) (ci (ci .nil)))) .nil),(.cons (.ptr (.cons (.sl (.cons (.int .u8) .nil)) (ci (ci .nil)))) (.cons (.sl (.cons .str .nil)) .nil)),λ(x:(Z3))=>YB x,[(0,false)],[(false,1)],[(false,1)],[true],[]⟩
abbrev YB.E :Env:=V.mkE V.tys [(46,Zb.con),(90,Wm.con)] [(6,[0,3,4],[(64000038400192,(.cons .str .nil),true)])] [] [] [] []
abbrev YB.kt (x0:(Z3)):Kt ((Z3)×List ByteArray):=ktOf YB.E YB.con f164 ((x0):(Z3))
abbrev YB.s6 (x0:(Z3))(aI:Int)(aA:Int)(aE:Int)(aK:List ByteArray):St:=⟨[(0, .v false [.ptr 0 0]),(3, .v false [.ref 64000038400192]),(4, .v false [.vi (aI)])],[(0, .box [.val (.sl (.cons (.int .u8) .nil) x0.1), .vi (aA), .vi (aE)]),(64000038400192, .row (.cons .str .nil) true aK)]⟩
theorem YB.r6 (x0:(Z3))(R:St->Option ((Z3)×List ByteArray))(aI:Int)(aA:Int)(aE:Int)(aK:List ByteArray):loopF YB.E f164.ntmps [1,1,0,1,0] [] (codeOf f164) (YB.kt x0) R (YB.s6 x0 aI aA aE aK)=YB.g6 x0 (λaI aA aE aK=>R (YB.s6 x0 aI aA aE aK)) aI aA aE aK:=by kernel_rfl
theorem YB.e6 (x0:(Z3)):∀(n:Nat) (aI:Int) (aA:Int) (aE:Int) (aK:List ByteArray),loopN (loopF YB.E f164.ntmps [1,1,0,1,0] [] (codeOf f164) (YB.kt x0)) n (YB.s6 x0 aI aA aE aK)=YB.l6 x0 n aI aA aE aK:=by
 intro n
 induction n with
 |zero=>intros;rw[loopN_z];rfl
 |succ n ih=>
  intro aI aA aE aK
  rw[loopN_s,YB.r6]
  simp only[ih]
  first|exact(YB.u6 ..).symm|rfl
theorem YB.v (x0:(Z3)):V.evBody YB.E YB.con f164 ((x0):(Z3))=YB.b x0 (λaI aA aE aK=>loopN (loopF YB.E f164.ntmps [1,1,0,1,0] [] (codeOf f164) (YB.kt x0)) V.KK (YB.s6 x0 aI aA aE aK)):=by kernel_rfl
theorem YB.eq (x0:(Z3)):V.evBody YB.E YB.con f164 ((x0):(Z3))=YB x0:=by
 rw[YB.v]
 simp only[YB.e6]
 rfl
theorem YB.ok :V.Valid prog 164 YB.con:=
 V.fo (tab_cons Zb.ok (tab_cons Wm.ok tab_nil)) func164 (by kernel_rfl) (λx y h=>(show V.evBody YB.E YB.con f164 x=_ from YB.eq x).trans (V.cfl (by kernel_rfl) h))
abbrev Ud.con :V.Con:=⟨(.cons (.sl (.cons .str .nil)) .nil),(.cons (.sl (.cons .str .nil)) .nil),λ(x:List ByteArray)=>Ud x,[],[(false,1)],[(false,1)],[true],[]⟩
abbrev Ud.E :Env:=V.mkE V.tys [] [] [] [] [] []
theorem Ud.eq (x0:List ByteArray):V.evBody Ud.E Ud.con f71 ((x0):List ByteArray)=Ud x0:=by kernel_rfl
theorem Ud.ok :V.Valid prog 71 Ud.con:=
 V.fo tab_nil func71 (by kernel_rfl) (λx y h=>(show V.evBody Ud.E Ud.con f71 x=_ from Ud.eq x).trans (V.cfl (by kernel_rfl) h))
abbrev Qn.con :V.Con:=⟨(.cons .str (ci (.cons (.sl (.cons .str .nil)) .nil))),V.eEntry,λ(x:ByteArray×Int×List ByteArray)=>Qn x.1 x.2.1 x.2.2,[],[(false,1),(false,1),(false,1)],[(true,4)],[false,false,false,true],[]⟩
abbrev Qn.E :Env:=V.mkE V.tys [(71,Ud.con)] [] [] [] [] []
theorem Qn.eq (x0:ByteArray)(x1:Int)(x2:List ByteArray):V.evBody Qn.E Qn.con f163 ((x0,x1,x2):ByteArray×Int×List ByteArray)=Qn x0 x1 x2:=by kernel_rfl
theorem Qn.ok :V.Valid prog 163 Qn.con:=
 V.fo (tab_cons Ud.ok tab_nil) func163 (by kernel_rfl) (λx y h=>(show V.evBody Qn.E Qn.con f163 x=_ from Qn.eq x.1 x.2.1 x.2.2).trans (V.cfl (by kernel_rfl) h))
abbrev UE.con :V.Con:=⟨(.cons .str (ci .nil)),V.eEntry,λ(x:ByteArray×Int)=>UE x.1 x.2,[],[(false,1),(false,1)],[(true,4)],[false,false,false,true],[]⟩
abbrev UE.E :Env:=V.mkE V.tys [] [] [] [] [] []
theorem UE.eq (x0:ByteArray)(x1:Int):V.evBody UE.E UE.con f99 ((x0,x1):ByteArray×Int)=UE x0 x1:=by kernel_rfl
theorem UE.ok :V.Valid prog 99 UE.con:=
 V.fo tab_nil func99 (by kernel_rfl) (λx y h=>(show V.evBody UE.E UE.con f99 x=_ from UE.eq x.1 x.2).trans (V.cfl (by kernel_rfl) h))
abbrev Ue.con :V.Con:=⟨(.cons (.ptr (.cons (.sl (.cons (.int .u8) .nil)) (ci (ci .nil)))) .nil),(.cons (.ptr (.cons (.sl (.cons (.int .u8) .nil)) (ci (ci .nil)))) (.cons .str (ci (ci (.cons (.sl (.cons .str .nil)) .nil))))),λ(x:(Z3))=>Ue x,[(0,false)],[(false,1)],[(true,4)],[false,false,false,true],[]⟩
abbrev Ue.E :Env:=V.mkE V.tys [(46,Zb.con),(90,Wm.con),(99,UE.con),(162,Qo.con),(163,Qn.con),(164,YB.con)] [] [] [] [] []
theorem Ue.eq (x0:(Z3)):V.evBody Ue.E Ue.con f126 ((x0):(Z3))=Ue x0:=by kernel_rfl
theorem Ue.ok :V.Valid prog 126 Ue.con:=
 V.fo (tab_cons Zb.ok (tab_cons Wm.ok (tab_cons UE.ok (tab_cons Qo.ok (tab_cons Qn.ok (tab_cons YB.ok tab_nil)))))) func126 (by kernel_rfl) (λx y h=>(show V.evBody Ue.E Ue.con f126 x=_ from Ue.eq x).trans (V.cfl (by kernel_rfl) h))
abbrev Wc.con :V.Con:=⟨(.cons .str (.cons .str .nil)),(ci .nil),λ(x:ByteArray×ByteArray)=>Wc x.1 x.2,[],[(false,1),(false,1)],[(false,1)],[false],[]⟩
abbrev Wc.E :Env:=V.mkE V.tys [] [] [] [] [] []
theorem Wc.eq (x0:ByteArray)(x1:ByteArray):V.evBody Wc.E Wc.con f114 ((x0,x1):ByteArray×ByteArray)=Wc x0 x1:=by kernel_rfl
theorem Wc.ok :V.Valid prog 114 Wc.con:=
 V.fo tab_nil func114 (by kernel_rfl) (λx y h=>(show V.evBody Wc.E Wc.con f114 x=_ from Wc.eq x.1 x.2).trans (V.cfl (by kernel_rfl) h))
abbrev W6.con :V.Con:=⟨V.eEntry,V.eEntry,λ(x:ByteArray×Int×Int×List ByteArray)=>W6 x,[],[(true,4)],[(true,4)],[false,false,false,true],[]⟩
abbrev W6.E :Env:=V.mkE V.tys [(71,Ud.con)] [] [(1,9)] [] [] []
theorem W6.eq (x0:Z0):V.evBody W6.E W6.con f34 ((x0.1,x0.2.1,x0.2.2.1,x0.2.2.2):ByteArray×Int×Int×List ByteArray)=W6 x0:=by kernel_rfl
theorem W6.ok :V.Valid prog 34 W6.con:=
 V.fo (tab_cons Ud.ok tab_nil) func34 (by kernel_rfl) (λx y h=>(show V.evBody W6.E W6.con f34 x=_ from W6.eq x).trans (V.cfl (by kernel_rfl) h))
abbrev ZW.con :V.Con:=⟨(ci (ci (ci .nil))),(.cons .bool .nil),λ(x:Int×Int×Int)=>ZW x.1 x.2.1 x.2.2,[],[(false,1),(false,1),(false,1)],[(false,1)],[false],[]⟩
abbrev ZW.E :Env:=V.mkE V.tys [] [] [] [] [] []
theorem ZW.eq (x0:Int)(x1:Int)(x2:Int):V.evBody ZW.E ZW.con f38 ((x0,x1,x2):Int×Int×Int)=ZW x0 x1 x2:=by kernel_rfl
theorem ZW.ok :V.Valid prog 38 ZW.con:=
 V.fo tab_nil func38 (by kernel_rfl) (λx y h=>(show V.evBody ZW.E ZW.con f38 x=_ from ZW.eq x.1 x.2.1 x.2.2).trans (V.cfl (by kernel_rfl) h))
abbrev Zy.con :V.Con:=⟨(.cons .str .nil),(.cons .bool .nil),λ(x:ByteArray)=>Zy x,[],[(false,1)],[(false,1)],[false],[]⟩
abbrev Zy.E :Env:=V.mkE V.tys [(38,ZW.con)] [(7,[0],[]),(8,[0,3],[])] [] [] [] []
abbrev Zy.kt (x0:ByteArray):Kt Bool:=ktOf Zy.E Zy.con f10 ((x0):ByteArray)
abbrev Zy.s8 (x0:ByteArray)(aH:Int):St:=⟨[(0, .v false [.val (.str x0)]),(3, .v false [.vi (aH)])],[]⟩
abbrev Zy.s7 (x0:ByteArray):St:=⟨[(0, .v false [.val (.str x0)])],[]⟩
theorem Zy.r8 (x0:ByteArray)(R:St->Option Bool)(aH:Int):loopF Zy.E f10.ntmps [1,1,0,1,0] [] (codeOf f10) (Zy.kt x0) R (Zy.s8 x0 aH)=Zy.g8 x0 (λaH=>R (Zy.s8 x0 aH)) aH:=by kernel_rfl
theorem Zy.e8 (x0:ByteArray):∀(n:Nat) (aH:Int),loopN (loopF Zy.E f10.ntmps [1,1,0,1,0] [] (codeOf f10) (Zy.kt x0)) n (Zy.s8 x0 aH)=Zy.l8 x0 n aH:=by
 intro n
 induction n with
 |zero=>intros;rw[loopN_z];rfl
 |succ n ih=>
  intro aH
  rw[loopN_s,Zy.r8]
  simp only[ih]
  first|exact(Zy.u8 ..).symm|rfl
theorem Zy.r7 (x0:ByteArray):joinF Zy.E f10.ntmps [1] [] (codeOf f10) (Zy.kt x0) (Zy.s7 x0)=Zy.g7 x0 (λaH=>loopN (loopF Zy.E f10.ntmps [1,1,0,1,0] [] (codeOf f10) (Zy.kt x0)) V.KK (Zy.s8 x0 aH)):=by kernel_rfl
theorem Zy.e7 (x0:ByteArray):jn (joinF Zy.E f10.ntmps [1] [] (codeOf f10) (Zy.kt x0)) (Zy.s7 x0)=Zy.l7 x0:=by
 rw[jn_eq,Zy.r7]
 simp only[Zy.e8]
 rfl
theorem Zy.v (x0:ByteArray):V.evBody Zy.E Zy.con f10 ((x0):ByteArray)=Zy.b x0 (jn (joinF Zy.E f10.ntmps [1] [] (codeOf f10) (Zy.kt x0)) (Zy.s7 x0)):=by kernel_rfl
theorem Zy.eq (x0:ByteArray):V.evBody Zy.E Zy.con f10 ((x0):ByteArray)=Zy x0:=by
 rw[Zy.v]
 simp only[Zy.e7]
 rfl
theorem Zy.ok :V.Valid prog 10 Zy.con:=
 V.fo (tab_cons ZW.ok tab_nil) func10 (by kernel_rfl) (λx y h=>(show V.evBody Zy.E Zy.con f10 x=_ from Zy.eq x).trans (V.cfl (by kernel_rfl) h))
abbrev YH.con :V.Con:=⟨(.cons (.sl (.cons .str .nil)) .nil),(.cons .bool .nil),λ(x:List ByteArray)=>YH x,[],[(false,1)],[(false,1)],[false],[]⟩
abbrev YH.E :Env:=V.mkE V.tys [(10,Zy.con),(38,ZW.con)] [(4,[0,3],[])] [] [] [] []
abbrev YH.kt (x0:List ByteArray):Kt Bool:=ktOf YH.E YH.con f154 ((x0):List ByteArray)
abbrev YH.s4 (x0:List ByteArray)(aJ:Int):St:=⟨[(0, .v false [.val (.sl (.cons .str .nil) x0)]),(3, .v false [.vi (aJ)])],[]⟩
theorem YH.r4 (x0:List ByteArray)(R:St->Option Bool)(aJ:Int):loopF YH.E f154.ntmps [1,0,1,0] [] (codeOf f154) (YH.kt x0) R (YH.s4 x0 aJ)=YH.g4 x0 (λaJ=>R (YH.s4 x0 aJ)) aJ:=by kernel_rfl
theorem YH.e4 (x0:List ByteArray):∀(n:Nat) (aJ:Int),loopN (loopF YH.E f154.ntmps [1,0,1,0] [] (codeOf f154) (YH.kt x0)) n (YH.s4 x0 aJ)=YH.l4 x0 n aJ:=by
 intro n
 induction n with
 |zero=>intros;rw[loopN_z];rfl
 |succ n ih=>
  intro aJ
  rw[loopN_s,YH.r4]
  simp only[ih]
  first|exact(YH.u4 ..).symm|rfl
theorem YH.v (x0:List ByteArray):V.evBody YH.E YH.con f154 ((x0):List ByteArray)=YH.b x0 (λaJ=>loopN (loopF YH.E f154.ntmps [1,0,1,0] [] (codeOf f154) (YH.kt x0)) V.KK (YH.s4 x0 aJ)):=by kernel_rfl
theorem YH.eq (x0:List ByteArray):V.evBody YH.E YH.con f154 ((x0):List ByteArray)=YH x0:=by
 rw[YH.v]
 simp only[YH.e4]
 rfl
theorem YH.ok :V.Valid prog 154 YH.con:=
 V.fo (tab_cons Zy.ok (tab_cons ZW.ok tab_nil)) func154 (by kernel_rfl) (λx y h=>(show V.evBody YH.E YH.con f154 x=_ from YH.eq x).trans (V.cfl (by kernel_rfl) h))
abbrev U8.con :V.Con:=⟨V.eEntry,(.cons .bool .nil),λ(x:ByteArray×Int×Int×List ByteArray)=>U8 x,[],[(true,4)],[(false,1)],[false],[]⟩
abbrev U8.E :Env:=V.mkE V.tys [(10,Zy.con),(38,ZW.con),(154,YH.con)] [] [] [] [] []
theorem U8.eq (x0:Z0):V.evBody U8.E U8.con f113 ((x0.1,x0.2.1,x0.2.2.1,x0.2.2.2):ByteArray×Int×Int×List ByteArray)=U8 x0:=by kernel_rfl
theorem U8.ok :V.Valid prog 113 U8.con:=
 V.fo (tab_cons Zy.ok (tab_cons ZW.ok (tab_cons YH.ok tab_nil))) func113 (by kernel_rfl) (λx y h=>(show V.evBody U8.E U8.con f113 x=_ from U8.eq x).trans (V.cfl (by kernel_rfl) h))
abbrev Y3.con :V.Con:=⟨(.cons (.sl V.eEntry) .nil),(.cons .bool .nil),λ(x:List Z0)=>Y3 x,[],[(false,1)],[(false,1)],[false],[]⟩
abbrev Y3.E :Env:=V.mkE V.tys [(113,U8.con),(114,Wc.con)] [(4,[0,3],[])] [(4,21)] [] [] []
abbrev Y3.kt (x0:List Z0):Kt Bool:=ktOf Y3.E Y3.con f74 ((x0):List Z0)
abbrev Y3.s4 (x0:List Z0)(aJ:Int):St:=⟨[(0, .v false [.val (.sl V.eEntry x0)]),(3, .v false [.vi (aJ)])],[]⟩
theorem Y3.r4 (x0:List Z0)(R:St->Option Bool)(aJ:Int):loopF Y3.E f74.ntmps [1,0,1,0] [] (codeOf f74) (Y3.kt x0) R (Y3.s4 x0 aJ)=Y3.g4 x0 (λaJ=>R (Y3.s4 x0 aJ)) aJ:=by kernel_rfl
theorem Y3.e4 (x0:List Z0):∀(n:Nat) (aJ:Int),loopN (loopF Y3.E f74.ntmps [1,0,1,0] [] (codeOf f74) (Y3.kt x0)) n (Y3.s4 x0 aJ)=Y3.l4 x0 n aJ:=by
 intro n
 induction n with
 |zero=>intros;rw[loopN_z];rfl
 |succ n ih=>
  intro aJ
  rw[loopN_s,Y3.r4]
  simp only[ih]
  first|exact(Y3.u4 ..).symm|rfl
theorem Y3.v (x0:List Z0):V.evBody Y3.E Y3.con f74 ((x0):List Z0)=Y3.b x0 (λaJ=>loopN (loopF Y3.E f74.ntmps [1,0,1,0] [] (codeOf f74) (Y3.kt x0)) V.KK (Y3.s4 x0 aJ)):=by kernel_rfl
theorem Y3.eq (x0:List Z0):V.evBody Y3.E Y3.con f74 ((x0):List Z0)=Y3 x0:=by
 rw[Y3.v]
 simp only[Y3.e4]
 rfl
theorem Y3.ok :V.Valid prog 74 Y3.con:=
 V.fo (tab_cons U8.ok (tab_cons Wc.ok tab_nil)) func74 (by kernel_rfl) (λx y h=>(show V.evBody Y3.E Y3.con f74 x=_ from Y3.eq x).trans (V.cfl (by kernel_rfl) h))
abbrev Yf.con :V.Con:=⟨(.cons (.sl V.eEntry) .nil),(.cons (.sl V.eEntry) .nil),λ(x:List Z0)=>Yf x,[],[(false,1)],[(false,1)],[true],[]⟩
abbrev Yf.E :Env:=V.mkE V.tys [(34,W6.con)] [(6,[0,3,4],[(64000038400192,V.eEntry,true)])] [] [] [] []
abbrev Yf.kt (x0:List Z0):Kt (List Z0):=ktOf Yf.E Yf.con f125 ((x0):List Z0)
abbrev Yf.s6 (x0:List Z0)(aD:Int)(aA:List Z0):St:=⟨[(0, .v false [.val (.sl V.eEntry x0)]),(3, .v false [.ref 64000038400192]),(4, .v false [.vi (aD)])],[(64000038400192, .row V.eEntry true aA)]⟩
theorem Yf.r6 (x0:List Z0)(R:St->Option (List Z0))(aD:Int)(aA:List Z0):loopF Yf.E f125.ntmps [1,1,0,1,0] [] (codeOf f125) (Yf.kt x0) R (Yf.s6 x0 aD aA)=Yf.g6 x0 (λaD aA=>R (Yf.s6 x0 aD aA)) aD aA:=by kernel_rfl
theorem Yf.e6 (x0:List Z0):∀(n:Nat) (aD:Int) (aA:List Z0),loopN (loopF Yf.E f125.ntmps [1,1,0,1,0] [] (codeOf f125) (Yf.kt x0)) n (Yf.s6 x0 aD aA)=Yf.l6 x0 n aD aA:=by
 intro n
 induction n with
 |zero=>intros;rw[loopN_z];rfl
 |succ n ih=>
  intro aD aA
  rw[loopN_s,Yf.r6]
  simp only[ih]
  first|exact(Yf.u6 ..).symm|rfl
theorem Yf.v (x0:List Z0):V.evBody Yf.E Yf.con f125 ((x0):List Z0)=Yf.b x0 (λaD aA=>loopN (loopF Yf.E f125.ntmps [1,1,0,1,0] [] (codeOf f125) (Yf.kt x0)) V.KK (Yf.s6 x0 aD aA)):=by kernel_rfl
theorem Yf.eq (x0:List Z0):V.evBody Yf.E Yf.con f125 ((x0):List Z0)=Yf x0:=by
 rw[Yf.v]
 simp only[Yf.e6]
 rfl
theorem Yf.ok :V.Valid prog 125 Yf.con:=
 V.fo (tab_cons W6.ok tab_nil) func125 (by kernel_rfl) (λx y h=>(show V.evBody Yf.E Yf.con f125 x=_ from Yf.eq x).trans (V.cfl (by kernel_rfl) h))
abbrev Zg.con :V.Con:=⟨(.cons (.sl V.eEntry) (.cons .str (ci (ci (.cons (.sl (.cons .str .nil)) .nil))))),(.cons (.sl V.eEntry) (.cons .bool .nil)),λ(x:List Z0×ByteArray×Int×Int×List ByteArray)=>Zg x.1 x.2,[],[(false,1),(true,4)],[(false,1),(false,1)],[true,false],[]⟩
abbrev Zg.E :Env:=V.mkE V.tys [(34,W6.con),(74,Y3.con),(114,Wc.con),(125,Yf.con)] [(8,[0,3,6,7,8],[(64000051200384,V.eEntry,true)]),(17,[0,3,6,7,8,9,30],[]),(21,[0,3,6,7,8,9],[]),(29,[0,6],[]),(31,[0,6,60],[])] [(6,7)] [] [] []
abbrev Zg.kt (x0:List Z0)(x1:Z0):Kt (List Z0×Bool):=ktOf Zg.E Zg.con f98 ((x0,x1.1,x1.2.1,x1.2.2.1,x1.2.2.2):List Z0×ByteArray×Int×Int×List ByteArray)
abbrev Zg.s21 (x0:List Z0)(x1:Z0)(aF:Int)(y1:Int)(eC:Bool)(dL:List Z0):St:=⟨[(0, .v false [.val (.sl V.eEntry x0)]),(3, .v false [.ptr 64000 0]),(6, .v false [.ref 64000134400384]),(7, .v false [.val (.bool eC)]),(8, .v false [.vi (aF)]),(9, .v false [.vi (y1)])],[(64000, .box [.val (.str x1.1), .vi (x1.2.1), .vi (x1.2.2.1), .val (.sl (.cons .str .nil) x1.2.2.2)]),(64000134400384, .row V.eEntry true dL)]⟩
abbrev Zg.s17 (x0:List Z0)(x1:Z0)(aH:Bool)(aF:Int)(aZ:List Z0)(y1:Int)(eP:Bool):St:=⟨[(0, .v false [.val (.sl V.eEntry x0)]),(3, .v false [.ptr 64000 0]),(6, .v false [.ref 64000108800384]),(7, .v false [.val (.bool aH)]),(8, .v false [.vi (aF)]),(9, .v false [.vi (y1)]),(30, .v false [.val (.bool eP)])],[(64000, .box [.val (.str x1.1), .vi (x1.2.1), .vi (x1.2.2.1), .val (.sl (.cons .str .nil) x1.2.2.2)]),(64000108800384, .row V.eEntry true aZ)]⟩
abbrev Zg.s31 (x0:List Z0)(cA:List Z0)(cB:Bool):St:=⟨[(0, .v false [.val (.sl V.eEntry x0)]),(6, .v false [.ref 64000198400384]),(60, .v false [.val (.bool cB)])],[(64000198400384, .row V.eEntry true cA)]⟩
abbrev Zg.s29 (x0:List Z0)(cA:List Z0):St:=⟨[(0, .v false [.val (.sl V.eEntry x0)]),(6, .v false [.ref 64000185600384])],[(64000185600384, .row V.eEntry true cA)]⟩
abbrev Zg.s8 (x0:List Z0)(x1:Z0)(aH:Bool)(aF:Int)(aZ:List Z0):St:=⟨[(0, .v false [.val (.sl V.eEntry x0)]),(3, .v false [.ptr 64000 0]),(6, .v false [.ref 64000051200384]),(7, .v false [.val (.bool aH)]),(8, .v false [.vi (aF)])],[(64000, .box [.val (.str x1.1), .vi (x1.2.1), .vi (x1.2.2.1), .val (.sl (.cons .str .nil) x1.2.2.2)]),(64000051200384, .row V.eEntry true aZ)]⟩
theorem Zg.r21 (x0:List Z0)(x1:Z0)(aF:Int)(y1:Int)(R8:St->Option (List Z0×Bool))(eC:Bool)(dL:List Z0):joinF Zg.E f98.ntmps [1,1,1,0,1,0,0,1,0,0,1] [R8] (codeOf f98) (Zg.kt x0 x1) (Zg.s21 x0 x1 aF y1 eC dL)=Zg.g21 x0 x1 aF y1 (λaH aF aZ=>R8 (Zg.s8 x0 x1 aH aF aZ)) eC dL:=by kernel_rfl
theorem Zg.e21 (x0:List Z0)(x1:Z0)(aF:Int)(y1:Int)(R8:St->Option (List Z0×Bool))(eC:Bool)(dL:List Z0):jn (joinF Zg.E f98.ntmps [1,1,1,0,1,0,0,1,0,0,1] [R8] (codeOf f98) (Zg.kt x0 x1)) (Zg.s21 x0 x1 aF y1 eC dL)=Zg.l21 x0 x1 aF y1 (λaH aF aZ=>R8 (Zg.s8 x0 x1 aH aF aZ)) eC dL:=by
 rw[jn_eq,Zg.r21]
 rfl
theorem Zg.r17 (x0:List Z0)(x1:Z0)(aH:Bool)(aF:Int)(aZ:List Z0)(y1:Int)(R8:St->Option (List Z0×Bool))(eP:Bool):joinF Zg.E f98.ntmps [1,1,1,0,1,0,0,1,0,0,1,0] [R8] (codeOf f98) (Zg.kt x0 x1) (Zg.s17 x0 x1 aH aF aZ y1 eP)=Zg.g17 x0 x1 aH aF aZ y1 (λaH aF aZ=>R8 (Zg.s8 x0 x1 aH aF aZ)) (λy1 eC dL=>jn (joinF Zg.E f98.ntmps [1,1,1,0,1,0,0,1,0,0,1] [R8] (codeOf f98) (Zg.kt x0 x1)) (Zg.s21 x0 x1 aF y1 eC dL)) eP:=by kernel_rfl
theorem Zg.e17 (x0:List Z0)(x1:Z0)(aH:Bool)(aF:Int)(aZ:List Z0)(y1:Int)(R8:St->Option (List Z0×Bool))(eP:Bool):jn (joinF Zg.E f98.ntmps [1,1,1,0,1,0,0,1,0,0,1,0] [R8] (codeOf f98) (Zg.kt x0 x1)) (Zg.s17 x0 x1 aH aF aZ y1 eP)=Zg.l17 x0 x1 aH aF aZ y1 (λaH aF aZ=>R8 (Zg.s8 x0 x1 aH aF aZ)) eP:=by
 rw[jn_eq,Zg.r17]
 simp only[Zg.e21]
 rfl
theorem Zg.r31 (x0:List Z0)(x1:Z0)(cA:List Z0)(cB:Bool):joinF Zg.E f98.ntmps [1,1,1,1,1,0] [] (codeOf f98) (Zg.kt x0 x1) (Zg.s31 x0 cA cB)=Zg.g31 x0 cA cB:=by kernel_rfl
theorem Zg.e31 (x0:List Z0)(x1:Z0)(cA:List Z0)(cB:Bool):jn (joinF Zg.E f98.ntmps [1,1,1,1,1,0] [] (codeOf f98) (Zg.kt x0 x1)) (Zg.s31 x0 cA cB)=Zg.l31 x0 cA cB:=by
 rw[jn_eq,Zg.r31]
 rfl
theorem Zg.r29 (x0:List Z0)(x1:Z0)(cA:List Z0):joinF Zg.E f98.ntmps [1,1,1,1] [] (codeOf f98) (Zg.kt x0 x1) (Zg.s29 x0 cA)=Zg.g29 x0 (λcB=>jn (joinF Zg.E f98.ntmps [1,1,1,1,1,0] [] (codeOf f98) (Zg.kt x0 x1)) (Zg.s31 x0 cA cB)) cA:=by kernel_rfl
theorem Zg.e29 (x0:List Z0)(x1:Z0)(cA:List Z0):jn (joinF Zg.E f98.ntmps [1,1,1,1] [] (codeOf f98) (Zg.kt x0 x1)) (Zg.s29 x0 cA)=Zg.l29 x0 cA:=by
 rw[jn_eq,Zg.r29]
 simp only[Zg.e31]
 rfl
theorem Zg.r8 (x0:List Z0)(x1:Z0)(R:St->Option (List Z0×Bool))(aH:Bool)(aF:Int)(aZ:List Z0):loopF Zg.E f98.ntmps [1,1,1,0,1,0] [] (codeOf f98) (Zg.kt x0 x1) R (Zg.s8 x0 x1 aH aF aZ)=Zg.g8 x0 x1 (λaH aF aZ=>R (Zg.s8 x0 x1 aH aF aZ)) (λy1 eP=>jn (joinF Zg.E f98.ntmps [1,1,1,0,1,0,0,1,0,0,1,0] [R] (codeOf f98) (Zg.kt x0 x1)) (Zg.s17 x0 x1 aH aF aZ y1 eP)) (λcA=>jn (joinF Zg.E f98.ntmps [1,1,1,1] [] (codeOf f98) (Zg.kt x0 x1)) (Zg.s29 x0 cA)) aH aF aZ:=by kernel_rfl
theorem Zg.e8 (x0:List Z0)(x1:Z0):∀(n:Nat) (aH:Bool) (aF:Int) (aZ:List Z0),loopN (loopF Zg.E f98.ntmps [1,1,1,0,1,0] [] (codeOf f98) (Zg.kt x0 x1)) n (Zg.s8 x0 x1 aH aF aZ)=Zg.l8 x0 x1 n aH aF aZ:=by
 intro n
 induction n with
 |zero=>intros;rw[loopN_z];rfl
 |succ n ih=>
  intro aH aF aZ
  rw[loopN_s,Zg.r8]
  simp only[Zg.e17,Zg.e29,ih]
  first|exact(Zg.u8 ..).symm|rfl
theorem Zg.v (x0:List Z0)(x1:Z0):V.evBody Zg.E Zg.con f98 ((x0,x1.1,x1.2.1,x1.2.2.1,x1.2.2.2):List Z0×ByteArray×Int×Int×List ByteArray)=Zg.b x0 x1 (λaH aF aZ=>loopN (loopF Zg.E f98.ntmps [1,1,1,0,1,0] [] (codeOf f98) (Zg.kt x0 x1)) V.KK (Zg.s8 x0 x1 aH aF aZ)):=by kernel_rfl
theorem Zg.eq (x0:List Z0)(x1:Z0):V.evBody Zg.E Zg.con f98 ((x0,x1.1,x1.2.1,x1.2.2.1,x1.2.2.2):List Z0×ByteArray×Int×Int×List ByteArray)=Zg x0 x1:=by
 rw[Zg.v]
 simp only[Zg.e8]
 rfl
theorem Zg.ok :V.Valid prog 98 Zg.con:=
 V.fo (tab_cons W6.ok (tab_cons Y3.ok (tab_cons Wc.ok (tab_cons Yf.ok tab_nil)))) func98 (by kernel_rfl) (λx y h=>(show V.evBody Zg.E Zg.con f98 x=_ from Zg.eq x.1 x.2).trans (V.cfl (by kernel_rfl) h))
abbrev ZS.con :V.Con:=⟨(.cons (.ptr (.cons (.sl (.cons (.int .u8) .nil)) (ci (ci .nil)))) .nil),(.cons (.ptr (.cons (.sl (.cons (.int .u8) .nil)) (ci (ci .nil)))) (.cons (.sl V.eEntry) .nil)),λ(x:(Z3))=>ZS x,[(0,false)],[(false,1)],[(false,1)],[true],[]⟩
abbrev ZS.E :Env:=V.mkE V.tys [(46,Zb.con),(98,Zg.con),(126,Ue.con)] [(6,[0,3,4],[(64000038400192,V.eEntry,true)])] [] [] [] []
abbrev ZS.kt (x0:(Z3)):Kt ((Z3)×List Z0):=ktOf ZS.E ZS.con f86 ((x0):(Z3))
abbrev ZS.s6 (x0:(Z3))(aI:Int)(aA:Int)(aE:Int)(aK:List Z0):St:=⟨[(0, .v false [.ptr 0 0]),(3, .v false [.ref 64000038400192]),(4, .v false [.vi (aI)])],[(0, .box [.val (.sl (.cons (.int .u8) .nil) x0.1), .vi (aA), .vi (aE)]),(64000038400192, .row V.eEntry true aK)]⟩
theorem ZS.r6 (x0:(Z3))(R:St->Option ((Z3)×List Z0))(aI:Int)(aA:Int)(aE:Int)(aK:List Z0):loopF ZS.E f86.ntmps [1,1,0,1,0] [] (codeOf f86) (ZS.kt x0) R (ZS.s6 x0 aI aA aE aK)=ZS.g6 x0 (λaI aA aE aK=>R (ZS.s6 x0 aI aA aE aK)) aI aA aE aK:=by kernel_rfl
theorem ZS.e6 (x0:(Z3)):∀(n:Nat) (aI:Int) (aA:Int) (aE:Int) (aK:List Z0),loopN (loopF ZS.E f86.ntmps [1,1,0,1,0] [] (codeOf f86) (ZS.kt x0)) n (ZS.s6 x0 aI aA aE aK)=ZS.l6 x0 n aI aA aE aK:=by
 intro n
 induction n with
 |zero=>intros;rw[loopN_z];rfl
 |succ n ih=>
  intro aI aA aE aK
  rw[loopN_s,ZS.r6]
  simp only[ih]
  first|exact(ZS.u6 ..).symm|rfl
theorem ZS.v (x0:(Z3)):V.evBody ZS.E ZS.con f86 ((x0):(Z3))=ZS.b x0 (λaI aA aE aK=>loopN (loopF ZS.E f86.ntmps [1,1,0,1,0] [] (codeOf f86) (ZS.kt x0)) V.KK (ZS.s6 x0 aI aA aE aK)):=by kernel_rfl
theorem ZS.eq (x0:(Z3)):V.evBody ZS.E ZS.con f86 ((x0):(Z3))=ZS x0:=by
 rw[ZS.v]
 simp only[ZS.e6]
 rfl
theorem ZS.ok :V.Valid prog 86 ZS.con:=
 V.fo (tab_cons Zb.ok (tab_cons Zg.ok (tab_cons Ue.ok tab_nil))) func86 (by kernel_rfl) (λx y h=>(show V.evBody ZS.E ZS.con f86 x=_ from ZS.eq x).trans (V.cfl (by kernel_rfl) h))
abbrev Wt.con :V.Con:=⟨(.cons (.sl (ci .nil)) (ci .nil)),(.cons (.sl (ci .nil)) .nil),λ(x:List Int×Int)=>Wt x,[],[(true,2)],[(false,1)],[true],[]⟩
abbrev Wt.E :Env:=V.mkE V.tys [] [] [] [] [] []
theorem Wt.eq (x0:Za):V.evBody Wt.E Wt.con f175 ((x0.1,x0.2):List Int×Int)=Wt x0:=by kernel_rfl
theorem Wt.ok :V.Valid prog 175 Wt.con:=
 V.fo tab_nil func175 (by kernel_rfl) (λx y h=>(show V.evBody Wt.E Wt.con f175 x=_ from Wt.eq x).trans (V.cfl (by kernel_rfl) h))
abbrev Q5.con :V.Con:=⟨(ci (ci .nil)),(ci .nil),λ(x:Int×Int)=>Q5 x.1 x.2,[],[(false,1),(false,1)],[(false,1)],[false],[]⟩
abbrev Q5.E :Env:=V.mkE V.tys [(38,ZW.con)] [] [] [] [] []
theorem Q5.eq (x0:Int)(x1:Int):V.evBody Q5.E Q5.con f188 ((x0,x1):Int×Int)=Q5 x0 x1:=by kernel_rfl
theorem Q5.ok :V.Valid prog 188 Q5.con:=
 V.fo (tab_cons ZW.ok tab_nil) func188 (by kernel_rfl) (λx y h=>(show V.evBody Q5.E Q5.con f188 x=_ from Q5.eq x.1 x.2).trans (V.cfl (by kernel_rfl) h))
abbrev ZR.con :V.Con:=⟨(.cons (.sl (ci .nil)) .nil),(ci .nil),λ(x:List Int)=>ZR x,[],[(false,1)],[(false,1)],[false],[]⟩
abbrev ZR.E :Env:=V.mkE V.tys [(188,Q5.con)] [(6,[0,3,4],[])] [] [] [] []
abbrev ZR.kt (x0:List Int):Kt Int:=ktOf ZR.E ZR.con f152 ((x0):List Int)
abbrev ZR.s6 (x0:List Int)(aD:Int)(aA:Int):St:=⟨[(0, .v false [.val (.sl (ci .nil) x0)]),(3, .v false [.vi (aD)]),(4, .v false [.vi (aA)])],[]⟩
theorem ZR.r6 (x0:List Int)(R:St->Option Int)(aD:Int)(aA:Int):loopF ZR.E f152.ntmps [1,1,0,1,0] [] (codeOf f152) (ZR.kt x0) R (ZR.s6 x0 aD aA)=ZR.g6 x0 (λaD aA=>R (ZR.s6 x0 aD aA)) aD aA:=by kernel_rfl
theorem ZR.e6 (x0:List Int):∀(n:Nat) (aD:Int) (aA:Int),loopN (loopF ZR.E f152.ntmps [1,1,0,1,0] [] (codeOf f152) (ZR.kt x0)) n (ZR.s6 x0 aD aA)=ZR.l6 x0 n aD aA:=by
 intro n
 induction n with
 |zero=>intros;rw[loopN_z];rfl
 |succ n ih=>
  intro aD aA
  rw[loopN_s,ZR.r6]
  simp only[ih]
  first|exact(ZR.u6 ..).symm|rfl
theorem ZR.v (x0:List Int):V.evBody ZR.E ZR.con f152 ((x0):List Int)=ZR.b x0 (λaD aA=>loopN (loopF ZR.E f152.ntmps [1,1,0,1,0] [] (codeOf f152) (ZR.kt x0)) V.KK (ZR.s6 x0 aD aA)):=by kernel_rfl
theorem ZR.eq (x0:List Int):V.evBody ZR.E ZR.con f152 ((x0):List Int)=ZR x0:=by
 rw[ZR.v]
 simp only[ZR.e6]
 rfl
theorem ZR.ok :V.Valid prog 152 ZR.con:=
 V.fo (tab_cons Q5.ok tab_nil) func152 (by kernel_rfl) (λx y h=>(show V.evBody ZR.E ZR.con f152 x=_ from ZR.eq x).trans (V.cfl (by kernel_rfl) h))
abbrev Ub.con :V.Con:=⟨(.cons (.sl (ci .nil)) (ci (ci .nil))),(ci .nil),λ(x:List Int×Int×Int)=>Ub (x.1,x.2.1) x.2.2,[],[(true,2),(false,1)],[(false,1)],[false],[]⟩
abbrev Ub.E :Env:=V.mkE V.tys [(152,ZR.con),(175,Wt.con)] [] [] [] [] []
theorem Ub.eq (x0:Za)(x1:Int):V.evBody Ub.E Ub.con f156 ((x0.1,x0.2,x1):List Int×Int×Int)=Ub x0 x1:=by kernel_rfl
theorem Ub.ok :V.Valid prog 156 Ub.con:=
 V.fo (tab_cons ZR.ok (tab_cons Wt.ok tab_nil)) func156 (by kernel_rfl) (λx y h=>(show V.evBody Ub.E Ub.con f156 x=_ from Ub.eq (x.1,x.2.1) x.2.2).trans (V.cfl (by kernel_rfl) h))
abbrev YX.con :V.Con:=⟨(.cons (.sl (.cons (.int .u8) .nil)) .nil),(.cons (.sl (ci .nil)) .nil),λ(x:List Int)=>YX x,[],[(false,1)],[(false,1)],[true],[]⟩
abbrev YX.E :Env:=V.mkE V.tys [] [(6,[0,3,4],[])] [] [] [] []
abbrev YX.kt (x0:List Int):Kt (List Int):=ktOf YX.E YX.con f212 ((x0):List Int)
abbrev YX.s6 (x0:List Int)(aD:Int)(aA:List Int):St:=⟨[(0, .v false [.val (.sl (.cons (.int .u8) .nil) x0)]),(3, .v false [.ref 64000038400192]),(4, .v false [.vi (aD)])],[(64000038400192, .row (ci .nil) true aA)]⟩
theorem YX.r6 (x0:List Int)(R:St->Option (List Int))(aD:Int)(aA:List Int):loopF YX.E f212.ntmps [1,1,0,1,0] [] (codeOf f212) (YX.kt x0) R (YX.s6 x0 aD aA)=YX.g6 x0 (λaD aA=>R (YX.s6 x0 aD aA)) aD aA:=by kernel_rfl
theorem YX.e6 (x0:List Int):∀(n:Nat) (aD:Int) (aA:List Int),loopN (loopF YX.E f212.ntmps [1,1,0,1,0] [] (codeOf f212) (YX.kt x0)) n (YX.s6 x0 aD aA)=YX.l6 x0 n aD aA:=by
 intro n
 induction n with
 |zero=>intros;rw[loopN_z];rfl
 |succ n ih=>
  intro aD aA
  rw[loopN_s,YX.r6]
  simp only[ih]
  first|exact(YX.u6 ..).symm|rfl
theorem YX.v (x0:List Int):V.evBody YX.E YX.con f212 ((x0):List Int)=YX.b x0 (λaD aA=>loopN (loopF YX.E f212.ntmps [1,1,0,1,0] [] (codeOf f212) (YX.kt x0)) V.KK (YX.s6 x0 aD aA)):=by kernel_rfl
theorem YX.eq (x0:List Int):V.evBody YX.E YX.con f212 ((x0):List Int)=YX x0:=by
 rw[YX.v]
 simp only[YX.e6]
 rfl
theorem YX.ok :V.Valid prog 212 YX.con:=
 V.fo tab_nil func212 (by kernel_rfl) (λx y h=>(show V.evBody YX.E YX.con f212 x=_ from YX.eq x).trans (V.cfl (by kernel_rfl) h))
abbrev Ut.con :V.Con:=⟨(.cons .str .nil),(.cons (.sl (ci .nil)) .nil),λ(x:ByteArray)=>Ut x,[],[(false,1)],[(false,1)],[true],[]⟩
abbrev Ut.E :Env:=V.mkE V.tys [(212,YX.con)] [] [] [] [] []
theorem Ut.eq (x0:ByteArray):V.evBody Ut.E Ut.con f189 ((x0):ByteArray)=Ut x0:=by kernel_rfl
theorem Ut.ok :V.Valid prog 189 Ut.con:=
 V.fo (tab_cons YX.ok tab_nil) func189 (by kernel_rfl) (λx y h=>(show V.evBody Ut.E Ut.con f189 x=_ from Ut.eq x).trans (V.cfl (by kernel_rfl) h))
abbrev YY.con :V.Con:=⟨V.eEntry,(.cons (.sl (ci .nil)) .nil),λ(x:ByteArray×Int×Int×List ByteArray)=>YY x,[],[(true,4)],[(false,1)],[true],[]⟩
abbrev YY.E :Env:=V.mkE V.tys [(189,Ut.con)] [(6,[1,3,4],[])] [(1,11)] [] [] []
abbrev YY.kt (x0:Z0):Kt (List Int):=ktOf YY.E YY.con f153 ((x0.1,x0.2.1,x0.2.2.1,x0.2.2.2):ByteArray×Int×Int×List ByteArray)
abbrev YY.s6 (x0:Z0)(aI:Int)(bA:List Int):St:=⟨[(1, .v false [.ptr 64000 0]),(3, .v false [.ref 64000038400192]),(4, .v false [.vi (aI)])],[(64000, .box [.val (.str x0.1), .vi (x0.2.1), .vi (x0.2.2.1), .val (.sl (.cons .str .nil) x0.2.2.2)]),(64000038400192, .row (ci .nil) true bA)]⟩
theorem YY.r6 (x0:Z0)(R:St->Option (List Int))(aI:Int)(bA:List Int):loopF YY.E f153.ntmps [1,1,0,1,0] [] (codeOf f153) (YY.kt x0) R (YY.s6 x0 aI bA)=YY.g6 x0 (λaI bA=>R (YY.s6 x0 aI bA)) aI bA:=by kernel_rfl
theorem YY.e6 (x0:Z0):∀(n:Nat) (aI:Int) (bA:List Int),loopN (loopF YY.E f153.ntmps [1,1,0,1,0] [] (codeOf f153) (YY.kt x0)) n (YY.s6 x0 aI bA)=YY.l6 x0 n aI bA:=by
 intro n
 induction n with
 |zero=>intros;rw[loopN_z];rfl
 |succ n ih=>
  intro aI bA
  rw[loopN_s,YY.r6]
  simp only[ih]
  first|exact(YY.u6 ..).symm|rfl
theorem YY.v (x0:Z0):V.evBody YY.E YY.con f153 ((x0.1,x0.2.1,x0.2.2.1,x0.2.2.2):ByteArray×Int×Int×List ByteArray)=YY.b x0 (λaI bA=>loopN (loopF YY.E f153.ntmps [1,1,0,1,0] [] (codeOf f153) (YY.kt x0)) V.KK (YY.s6 x0 aI bA)):=by kernel_rfl
theorem YY.eq (x0:Z0):V.evBody YY.E YY.con f153 ((x0.1,x0.2.1,x0.2.2.1,x0.2.2.2):ByteArray×Int×Int×List ByteArray)=YY x0:=by
 rw[YY.v]
 simp only[YY.e6]
 rfl
theorem YY.ok :V.Valid prog 153 YY.con:=
 V.fo (tab_cons Ut.ok tab_nil) func153 (by kernel_rfl) (λx y h=>(show V.evBody YY.E YY.con f153 x=_ from YY.eq x).trans (V.cfl (by kernel_rfl) h))
abbrev WS.con :V.Con:=⟨V.eEntry,(ci .nil),λ(x:ByteArray×Int×Int×List ByteArray)=>WS x,[],[(true,4)],[(false,1)],[false],[]⟩
abbrev WS.E :Env:=V.mkE V.tys [(152,ZR.con),(153,YY.con)] [] [] [] [] []
theorem WS.eq (x0:Z0):V.evBody WS.E WS.con f112 ((x0.1,x0.2.1,x0.2.2.1,x0.2.2.2):ByteArray×Int×Int×List ByteArray)=WS x0:=by kernel_rfl
theorem WS.ok :V.Valid prog 112 WS.con:=
 V.fo (tab_cons ZR.ok (tab_cons YY.ok tab_nil)) func112 (by kernel_rfl) (λx y h=>(show V.evBody WS.E WS.con f112 x=_ from WS.eq x).trans (V.cfl (by kernel_rfl) h))
abbrev YI.con :V.Con:=⟨(.cons (.sl V.eEntry) .nil),(.cons (.sl (ci .nil)) .nil),λ(x:List Z0)=>YI x,[],[(false,1)],[(false,1)],[true],[]⟩
abbrev YI.E :Env:=V.mkE V.tys [(112,WS.con)] [(6,[0,3,4],[(64000038400192,(ci .nil),true)])] [] [] [] []
abbrev YI.kt (x0:List Z0):Kt (List Int):=ktOf YI.E YI.con f73 ((x0):List Z0)
abbrev YI.s6 (x0:List Z0)(aD:Int)(aA:List Int):St:=⟨[(0, .v false [.val (.sl V.eEntry x0)]),(3, .v false [.ref 64000038400192]),(4, .v false [.vi (aD)])],[(64000038400192, .row (ci .nil) true aA)]⟩
theorem YI.r6 (x0:List Z0)(R:St->Option (List Int))(aD:Int)(aA:List Int):loopF YI.E f73.ntmps [1,1,0,1,0] [] (codeOf f73) (YI.kt x0) R (YI.s6 x0 aD aA)=YI.g6 x0 (λaD aA=>R (YI.s6 x0 aD aA)) aD aA:=by kernel_rfl
theorem YI.e6 (x0:List Z0):∀(n:Nat) (aD:Int) (aA:List Int),loopN (loopF YI.E f73.ntmps [1,1,0,1,0] [] (codeOf f73) (YI.kt x0)) n (YI.s6 x0 aD aA)=YI.l6 x0 n aD aA:=by
 intro n
 induction n with
 |zero=>intros;rw[loopN_z];rfl
 |succ n ih=>
  intro aD aA
  rw[loopN_s,YI.r6]
  simp only[ih]
  first|exact(YI.u6 ..).symm|rfl
theorem YI.v (x0:List Z0):V.evBody YI.E YI.con f73 ((x0):List Z0)=YI.b x0 (λaD aA=>loopN (loopF YI.E f73.ntmps [1,1,0,1,0] [] (codeOf f73) (YI.kt x0)) V.KK (YI.s6 x0 aD aA)):=by kernel_rfl
theorem YI.eq (x0:List Z0):V.evBody YI.E YI.con f73 ((x0):List Z0)=YI x0:=by
 rw[YI.v]
 simp only[YI.e6]
 rfl
theorem YI.ok :V.Valid prog 73 YI.con:=
 V.fo (tab_cons WS.ok tab_nil) func73 (by kernel_rfl) (λx y h=>(show V.evBody YI.E YI.con f73 x=_ from YI.eq x).trans (V.cfl (by kernel_rfl) h))
abbrev WT.con :V.Con:=⟨(ci (ci .nil)),(ci .nil),λ(x:Int×Int)=>WT x.1 x.2,[],[(false,1),(false,1)],[(false,1)],[false],[]⟩
abbrev WT.E :Env:=V.mkE V.tys [(152,ZR.con)] [] [] [] [] []
theorem WT.eq (x0:Int)(x1:Int):V.evBody WT.E WT.con f151 ((x0,x1):Int×Int)=WT x0 x1:=by kernel_rfl
theorem WT.ok :V.Valid prog 151 WT.con:=
 V.fo (tab_cons ZR.ok tab_nil) func151 (by kernel_rfl) (λx y h=>(show V.evBody WT.E WT.con f151 x=_ from WT.eq x.1 x.2).trans (V.cfl (by kernel_rfl) h))
abbrev YA.con :V.Con:=⟨(.cons (.sl (ci .nil)) .nil),(.cons (.sl (ci .nil)) .nil),λ(x:List Int)=>YA x,[],[(false,1)],[(false,1)],[true],[]⟩
abbrev YA.E :Env:=V.mkE V.tys [(151,WT.con)] [(6,[0,3,4],[(64000038400192,(ci .nil),true)])] [(6,12)] [] [] []
abbrev YA.kt (x0:List Int):Kt (List Int):=ktOf YA.E YA.con f111 ((x0):List Int)
abbrev YA.s6 (x0:List Int)(aD:Int)(aA:List Int):St:=⟨[(0, .v false [.val (.sl (ci .nil) x0)]),(3, .v false [.ref 64000038400192]),(4, .v false [.vi (aD)])],[(64000038400192, .row (ci .nil) true aA)]⟩
theorem YA.r6 (x0:List Int)(R:St->Option (List Int))(aD:Int)(aA:List Int):loopF YA.E f111.ntmps [1,1,0,1,0] [] (codeOf f111) (YA.kt x0) R (YA.s6 x0 aD aA)=YA.g6 x0 (λaD aA=>R (YA.s6 x0 aD aA)) aD aA:=by kernel_rfl
theorem YA.e6 (x0:List Int):∀(n:Nat) (aD:Int) (aA:List Int),loopN (loopF YA.E f111.ntmps [1,1,0,1,0] [] (codeOf f111) (YA.kt x0)) n (YA.s6 x0 aD aA)=YA.l6 x0 n aD aA:=by
 intro n
 induction n with
 |zero=>intros;rw[loopN_z];rfl
 |succ n ih=>
  intro aD aA
  rw[loopN_s,YA.r6]
  simp only[ih]
  first|exact(YA.u6 ..).symm|rfl
theorem YA.v (x0:List Int):V.evBody YA.E YA.con f111 ((x0):List Int)=YA.b x0 (λaD aA=>loopN (loopF YA.E f111.ntmps [1,1,0,1,0] [] (codeOf f111) (YA.kt x0)) V.KK (YA.s6 x0 aD aA)):=by kernel_rfl
theorem YA.eq (x0:List Int):V.evBody YA.E YA.con f111 ((x0):List Int)=YA x0:=by
 rw[YA.v]
 simp only[YA.e6]
 rfl
theorem YA.ok :V.Valid prog 111 YA.con:=
 V.fo (tab_cons WT.ok tab_nil) func111 (by kernel_rfl) (λx y h=>(show V.evBody YA.E YA.con f111 x=_ from YA.eq x).trans (V.cfl (by kernel_rfl) h))
abbrev YN.con :V.Con:=⟨(.cons (.sl (ci .nil)) .nil),(ci .nil),λ(x:List Int)=>YN x,[],[(false,1)],[(false,1)],[false],[]⟩
abbrev YN.E :Env:=V.mkE V.tys [(111,YA.con),(152,ZR.con)] [(8,[3],[(3,(ci .nil),false)])] [] [] [] []
abbrev YN.kt (x0:List Int):Kt Int:=ktOf YN.E YN.con f116 ((x0):List Int)
abbrev YN.s8 (aO:List Int):St:=⟨[(3, .v false [.val (.sl (ci .nil) aO)])],[]⟩
theorem YN.r8 (x0:List Int)(R:St->Option Int)(aO:List Int):loopF YN.E f116.ntmps [1,1,1,0,0] [] (codeOf f116) (YN.kt x0) R (YN.s8 aO)=YN.g8 (λaO=>R (YN.s8 aO)) aO:=by kernel_rfl
theorem YN.e8 (x0:List Int):∀(n:Nat) (aO:List Int),loopN (loopF YN.E f116.ntmps [1,1,1,0,0] [] (codeOf f116) (YN.kt x0)) n (YN.s8 aO)=YN.l8 n aO:=by
 intro n
 induction n with
 |zero=>intros;rw[loopN_z];rfl
 |succ n ih=>
  intro aO
  rw[loopN_s,YN.r8]
  simp only[ih]
  first|exact(YN.u8 ..).symm|rfl
theorem YN.v (x0:List Int):V.evBody YN.E YN.con f116 ((x0):List Int)=YN.b x0 (λaO=>loopN (loopF YN.E f116.ntmps [1,1,1,0,0] [] (codeOf f116) (YN.kt x0)) V.KK (YN.s8 aO)):=by kernel_rfl
theorem YN.eq (x0:List Int):V.evBody YN.E YN.con f116 ((x0):List Int)=YN x0:=by
 rw[YN.v]
 simp only[YN.e8]
 rfl
theorem YN.ok :V.Valid prog 116 YN.con:=
 V.fo (tab_cons YA.ok (tab_cons ZR.ok tab_nil)) func116 (by kernel_rfl) (λx y h=>(show V.evBody YN.E YN.con f116 x=_ from YN.eq x).trans (V.cfl (by kernel_rfl) h))
abbrev Uu.con :V.Con:=⟨(ci (ci .nil)),(ci .nil),λ(x:Int×Int)=>Uu x.1 x.2,[],[(false,1),(false,1)],[(false,1)],[false],[]⟩
abbrev Uu.E :Env:=V.mkE V.tys [(152,ZR.con)] [] [] [] [] []
theorem Uu.eq (x0:Int)(x1:Int):V.evBody Uu.E Uu.con f115 ((x0,x1):Int×Int)=Uu x0 x1:=by kernel_rfl
theorem Uu.ok :V.Valid prog 115 Uu.con:=
 V.fo (tab_cons ZR.ok tab_nil) func115 (by kernel_rfl) (λx y h=>(show V.evBody Uu.E Uu.con f115 x=_ from Uu.eq x.1 x.2).trans (V.cfl (by kernel_rfl) h))
abbrev W9.con :V.Con:=⟨(.cons (.sl V.eEntry) .nil),(ci .nil),λ(x:List Z0)=>W9 x,[],[(false,1)],[(false,1)],[false],[]⟩
abbrev W9.E :Env:=V.mkE V.tys [(73,YI.con),(115,Uu.con),(116,YN.con)] [] [] [] [] []
theorem W9.eq (x0:List Z0):V.evBody W9.E W9.con f76 ((x0):List Z0)=W9 x0:=by kernel_rfl
theorem W9.ok :V.Valid prog 76 W9.con:=
 V.fo (tab_cons YI.ok (tab_cons Uu.ok (tab_cons YN.ok tab_nil))) func76 (by kernel_rfl) (λx y h=>(show V.evBody W9.E W9.con f76 x=_ from W9.eq x).trans (V.cfl (by kernel_rfl) h))
abbrev Wu.con :V.Con:=⟨(.cons (.sl (ci .nil)) (ci .nil)),(.cons (.sl (ci .nil)) (ci .nil)),λ(x:List Int×Int)=>Wu x,[],[(true,2)],[(true,2)],[true,false],[]⟩
abbrev Wu.E :Env:=V.mkE V.tys [] [] [(1,6)] [] [] []
theorem Wu.eq (x0:Za):V.evBody Wu.E Wu.con f78 ((x0.1,x0.2):List Int×Int)=Wu x0:=by kernel_rfl
theorem Wu.ok :V.Valid prog 78 Wu.con:=
 V.fo tab_nil func78 (by kernel_rfl) (λx y h=>(show V.evBody Wu.E Wu.con f78 x=_ from Wu.eq x).trans (V.cfl (by kernel_rfl) h))
abbrev Y9.con :V.Con:=⟨(.cons (.sl (ci .nil)) (ci .nil)),(.cons .bool .nil),λ(x:List Int×Int)=>Y9 x,[],[(true,2)],[(false,1)],[false],[]⟩
abbrev Y9.E :Env:=V.mkE V.tys [(38,ZW.con)] [(4,[1,3],[])] [(4,22)] [] [] []
abbrev Y9.kt (x0:Za):Kt Bool:=ktOf Y9.E Y9.con f190 ((x0.1,x0.2):List Int×Int)
abbrev Y9.s4 (x0:Za)(bO:Int):St:=⟨[(1, .v false [.ptr 64000 0]),(3, .v false [.vi (bO)])],[(64000, .box [.val (.sl (ci .nil) x0.1), .vi (x0.2)])]⟩
theorem Y9.r4 (x0:Za)(R:St->Option Bool)(bO:Int):loopF Y9.E f190.ntmps [1,0,1,0] [] (codeOf f190) (Y9.kt x0) R (Y9.s4 x0 bO)=Y9.g4 x0 (λbO=>R (Y9.s4 x0 bO)) bO:=by kernel_rfl
theorem Y9.e4 (x0:Za):∀(n:Nat) (bO:Int),loopN (loopF Y9.E f190.ntmps [1,0,1,0] [] (codeOf f190) (Y9.kt x0)) n (Y9.s4 x0 bO)=Y9.l4 x0 n bO:=by
 intro n
 induction n with
 |zero=>intros;rw[loopN_z];rfl
 |succ n ih=>
  intro bO
  rw[loopN_s,Y9.r4]
  simp only[ih]
  first|exact(Y9.u4 ..).symm|rfl
theorem Y9.v (x0:Za):V.evBody Y9.E Y9.con f190 ((x0.1,x0.2):List Int×Int)=Y9.b x0 (λbO=>loopN (loopF Y9.E f190.ntmps [1,0,1,0] [] (codeOf f190) (Y9.kt x0)) V.KK (Y9.s4 x0 bO)):=by kernel_rfl
theorem Y9.eq (x0:Za):V.evBody Y9.E Y9.con f190 ((x0.1,x0.2):List Int×Int)=Y9 x0:=by
 rw[Y9.v]
 simp only[Y9.e4]
 rfl
theorem Y9.ok :V.Valid prog 190 Y9.con:=
 V.fo (tab_cons ZW.ok tab_nil) func190 (by kernel_rfl) (λx y h=>(show V.evBody Y9.E Y9.con f190 x=_ from Y9.eq x).trans (V.cfl (by kernel_rfl) h))
abbrev WA.con :V.Con:=⟨(.cons (.sl (ci .nil)) (ci .nil)),(.cons .bool .nil),λ(x:List Int×Int)=>WA x,[],[(true,2)],[(false,1)],[false],[]⟩
abbrev WA.E :Env:=V.mkE V.tys [] [] [] [] [] []
theorem WA.eq (x0:Za):V.evBody WA.E WA.con f191 ((x0.1,x0.2):List Int×Int)=WA x0:=by kernel_rfl
theorem WA.ok :V.Valid prog 191 WA.con:=
 V.fo tab_nil func191 (by kernel_rfl) (λx y h=>(show V.evBody WA.E WA.con f191 x=_ from WA.eq x).trans (V.cfl (by kernel_rfl) h))
abbrev Zn.con :V.Con:=⟨V.A0,(.cons .bool .nil),λ(x:V.D0)=>Zn (V.p0_0 x),[],[(true,16)],[(false,1)],[false],[]⟩
abbrev Zn.E :Env:=V.mkE V.tys [(38,ZW.con),(190,Y9.con),(191,WA.con)] [(7,[1],[]),(11,[1],[]),(21,[1],[])] [] [] [] []
abbrev Zn.kt (x0:Z5):Kt Bool:=ktOf Zn.E Zn.con f155 (V.fl0 x0)
abbrev Zn.s21 (x0:Z5):St:=⟨[(1, .v false [.ptr 64000 0])],[(64000, .box (V.lsHead x0))]⟩
abbrev Zn.s11 (x0:Z5):St:=⟨[(1, .v false [.ptr 64000 0])],[(64000, .box (V.lsHead x0))]⟩
abbrev Zn.s7 (x0:Z5):St:=⟨[(1, .v false [.ptr 64000 0])],[(64000, .box (V.lsHead x0))]⟩
theorem Zn.r21 (x0:Z5):joinF Zn.E f155.ntmps [1,1,1] [] (codeOf f155) (Zn.kt x0) (Zn.s21 x0)=Zn.g21 x0:=by kernel_rfl
theorem Zn.e21 (x0:Z5):jn (joinF Zn.E f155.ntmps [1,1,1] [] (codeOf f155) (Zn.kt x0)) (Zn.s21 x0)=Zn.l21 x0:=by
 rw[jn_eq,Zn.r21]
 rfl
theorem Zn.r11 (x0:Z5):joinF Zn.E f155.ntmps [1,1] [] (codeOf f155) (Zn.kt x0) (Zn.s11 x0)=Zn.g11 x0 (jn (joinF Zn.E f155.ntmps [1,1,1] [] (codeOf f155) (Zn.kt x0)) (Zn.s21 x0)):=by kernel_rfl
theorem Zn.e11 (x0:Z5):jn (joinF Zn.E f155.ntmps [1,1] [] (codeOf f155) (Zn.kt x0)) (Zn.s11 x0)=Zn.l11 x0:=by
 rw[jn_eq,Zn.r11]
 simp only[Zn.e21]
 rfl
theorem Zn.r7 (x0:Z5):joinF Zn.E f155.ntmps [1] [] (codeOf f155) (Zn.kt x0) (Zn.s7 x0)=Zn.g7 x0 (jn (joinF Zn.E f155.ntmps [1,1] [] (codeOf f155) (Zn.kt x0)) (Zn.s11 x0)):=by kernel_rfl
theorem Zn.e7 (x0:Z5):jn (joinF Zn.E f155.ntmps [1] [] (codeOf f155) (Zn.kt x0)) (Zn.s7 x0)=Zn.l7 x0:=by
 rw[jn_eq,Zn.r7]
 simp only[Zn.e11]
 rfl
abbrev Zn.s (x0:Z5):St:=⟨[(0, .v true (V.lsHead x0))],[]⟩
theorem Zn.v0 (x0:Z5):V.evBody Zn.E Zn.con f155 (V.fl0 x0)=evC Zn.E f155.ntmps (codeOf f155) (Zn.kt x0) (Zn.s x0):=by kernel_rfl
theorem Zn.v (x0:Z5):evC Zn.E f155.ntmps (codeOf f155) (Zn.kt x0) (Zn.s x0)=Zn.b x0 (jn (joinF Zn.E f155.ntmps [1] [] (codeOf f155) (Zn.kt x0)) (Zn.s7 x0)):=by kernel_rfl
theorem Zn.eq (x0:Z5):V.evBody Zn.E Zn.con f155 (V.fl0 x0)=Zn x0:=by
 rw[Zn.v0,Zn.v]
 simp only[Zn.e7]
 rfl
theorem Zn.ok :V.Valid prog 155 Zn.con:=
 V.fo (tab_cons ZW.ok (tab_cons Y9.ok (tab_cons WA.ok tab_nil))) func155 (by kernel_rfl) (λx y h=>(show V.evBody Zn.E Zn.con f155 x=_ from Zn.eq (V.p0_0 x)).trans (V.cfl (by kernel_rfl) h))
abbrev YM.con :V.Con:=⟨(.cons (.sl (ci .nil)) (ci (ci (.cons (.sl V.eEntry) (ci (ci .nil)))))),V.eRHeadBool,λ(x:List Int×Int×Int×List Z0×Int×Int)=>YM (x.1,x.2.1) x.2.2.1 x.2.2.2.1 x.2.2.2.2.1 x.2.2.2.2.2,[],[(true,2),(false,1),(false,1),(false,1),(false,1)],[(true,16),(false,1)],[false,false,false,false,false,false,false,false,true,false,true,false,false,true,false,false,false],[]⟩
abbrev YM.E :Env:=V.mkE V.tys [(38,ZW.con),(74,Y3.con),(76,W9.con),(78,Wu.con),(155,Zn.con),(156,Ub.con)] [(5,[1,2,3,4,5,10,25],[])] [(3,16)] [] [] []
abbrev YM.kt (x0:Za)(x1:Int)(x2:List Z0)(x3:Int)(x4:Int):Kt ZQ:=ktOf YM.E YM.con f123 ((x0.1,x0.2,x1,x2,x3,x4):List Int×Int×Int×List Z0×Int×Int)
abbrev YM.s5 (x0:Za)(x1:Int)(x2:List Z0)(x3:Int)(x4:Int)(fE:Bool):St:=⟨[(1, .v false [.vi (x1)]),(2, .v false [.val (.sl V.eEntry x2)]),(3, .v false [.vi (x3)]),(4, .v false [.vi (x4)]),(5, .v false [.ptr 64000 0]),(10, .v false [.ptr 64064 0]),(25, .v false [.val (.bool fE)])],[(64000, .box [.val (.sl (ci .nil) x0.1), .vi (x0.2)]),(64064, .box [.vi ((0:Int)), .vi ((0:Int)), .vi ((0:Int)), .vi ((0:Int)), .vi ((0:Int)), .vi ((0:Int)), .vi ((0:Int)), .vi ((0:Int)), .nil0, .vi ((0:Int)), .nil0, .vi ((0:Int)), .vi ((0:Int)), .nil0, .vi ((0:Int)), .val (.bool false)])]⟩
theorem YM.r5 (x0:Za)(x1:Int)(x2:List Z0)(x3:Int)(x4:Int)(fE:Bool):joinF YM.E f123.ntmps [1,0] [] (codeOf f123) (YM.kt x0 x1 x2 x3 x4) (YM.s5 x0 x1 x2 x3 x4 fE)=YM.g5 x0 x1 x2 x3 x4 fE:=by kernel_rfl
theorem YM.e5 (x0:Za)(x1:Int)(x2:List Z0)(x3:Int)(x4:Int)(fE:Bool):jn (joinF YM.E f123.ntmps [1,0] [] (codeOf f123) (YM.kt x0 x1 x2 x3 x4)) (YM.s5 x0 x1 x2 x3 x4 fE)=YM.l5 x0 x1 x2 x3 x4 fE:=by
 rw[jn_eq,YM.r5]
 rfl
theorem YM.v (x0:Za)(x1:Int)(x2:List Z0)(x3:Int)(x4:Int):V.evBody YM.E YM.con f123 ((x0.1,x0.2,x1,x2,x3,x4):List Int×Int×Int×List Z0×Int×Int)=YM.b x0 x1 x2 x3 x4 (λfE=>jn (joinF YM.E f123.ntmps [1,0] [] (codeOf f123) (YM.kt x0 x1 x2 x3 x4)) (YM.s5 x0 x1 x2 x3 x4 fE)):=by kernel_rfl
theorem YM.eq (x0:Za)(x1:Int)(x2:List Z0)(x3:Int)(x4:Int):V.evBody YM.E YM.con f123 ((x0.1,x0.2,x1,x2,x3,x4):List Int×Int×Int×List Z0×Int×Int)=YM x0 x1 x2 x3 x4:=by
 rw[YM.v]
 simp only[YM.e5]
 rfl
theorem YM.ok :V.Valid prog 123 YM.con:=
 V.fo (tab_cons ZW.ok (tab_cons Y3.ok (tab_cons W9.ok (tab_cons Wu.ok (tab_cons Zn.ok (tab_cons Ub.ok tab_nil)))))) func123 (by kernel_rfl) (λx y h=>(show V.evBody YM.E YM.con f123 x=_ from YM.eq (x.1,x.2.1) x.2.2.1 x.2.2.2.1 x.2.2.2.2.1 x.2.2.2.2.2).trans (V.cfl (by kernel_rfl) h))
abbrev Xe.con :V.Con:=⟨V.A0,V.eHead,λ(x:V.D0)=>Xe (V.p0_0 x),[],[(true,16)],[(true,16)],[false,false,false,false,false,false,false,false,true,false,true,false,false,true,false,false],[]⟩
abbrev Xe.E :Env:=V.mkE V.tys [(78,Wu.con)] [] [] [] [] []
abbrev Xe.kt (x0:Z5):Kt Z5:=ktOf Xe.E Xe.con f40 (V.fl0 x0)
abbrev Xe.s (x0:Z5):St:=⟨[(0, .v true (V.lsHead x0))],[]⟩
theorem Xe.v0 (x0:Z5):V.evBody Xe.E Xe.con f40 (V.fl0 x0)=evC Xe.E f40.ntmps (codeOf f40) (Xe.kt x0) (Xe.s x0):=by kernel_rfl
theorem Xe.v (x0:Z5):evC Xe.E f40.ntmps (codeOf f40) (Xe.kt x0) (Xe.s x0)=Xe x0:=by kernel_rfl
theorem Xe.eq (x0:Z5):V.evBody Xe.E Xe.con f40 (V.fl0 x0)=Xe x0:=(Xe.v0 x0).trans (Xe.v x0)
theorem Xe.ok :V.Valid prog 40 Xe.con:=
 V.fo (tab_cons Wu.ok tab_nil) func40 (by kernel_rfl) (λx y h=>(show V.evBody Xe.E Xe.con f40 x=_ from Xe.eq (V.p0_0 x)).trans (V.cfl (by kernel_rfl) h))
abbrev Xg.con :V.Con:=⟨V.A0,(.cons (.sl (ci .nil)) .nil),λ(x:V.D0)=>Xg (V.p0_0 x),[],[(true,16)],[(false,1)],[true],[]⟩
abbrev Xg.E :Env:=V.mkE V.tys [(175,Wt.con)] [] [] [] [] []
abbrev Xg.kt (x0:Z5):Kt (List Int):=ktOf Xg.E Xg.con f139 (V.fl0 x0)
abbrev Xg.s (x0:Z5):St:=⟨[(0, .v true (V.lsHead x0))],[]⟩
theorem Xg.v0 (x0:Z5):V.evBody Xg.E Xg.con f139 (V.fl0 x0)=evC Xg.E f139.ntmps (codeOf f139) (Xg.kt x0) (Xg.s x0):=by kernel_rfl
theorem Xg.v (x0:Z5):evC Xg.E f139.ntmps (codeOf f139) (Xg.kt x0) (Xg.s x0)=Xg x0:=by kernel_rfl
theorem Xg.eq (x0:Z5):V.evBody Xg.E Xg.con f139 (V.fl0 x0)=Xg x0:=(Xg.v0 x0).trans (Xg.v x0)
theorem Xg.ok :V.Valid prog 139 Xg.con:=
 V.fo (tab_cons Wt.ok tab_nil) func139 (by kernel_rfl) (λx y h=>(show V.evBody Xg.E Xg.con f139 x=_ from Xg.eq (V.p0_0 x)).trans (V.cfl (by kernel_rfl) h))
abbrev YJ.con :V.Con:=⟨(.cons (.sl (ci .nil)) (ci .nil)),(.cons .bool .nil),λ(x:List Int×Int)=>YJ x.1 x.2,[],[(false,1),(false,1)],[(false,1)],[false],[]⟩
abbrev YJ.E :Env:=V.mkE V.tys [] [(4,[0,1,5],[])] [] [] [] []
abbrev YJ.kt (x0:List Int)(x1:Int):Kt Bool:=ktOf YJ.E YJ.con f196 ((x0,x1):List Int×Int)
abbrev YJ.s4 (x0:List Int)(x1:Int)(aG:Int):St:=⟨[(0, .v false [.val (.sl (ci .nil) x0)]),(1, .v false [.vi (x1)]),(5, .v false [.vi (aG)])],[]⟩
theorem YJ.r4 (x0:List Int)(x1:Int)(R:St->Option Bool)(aG:Int):loopF YJ.E f196.ntmps [1,0,1,0] [] (codeOf f196) (YJ.kt x0 x1) R (YJ.s4 x0 x1 aG)=YJ.g4 x0 x1 (λaG=>R (YJ.s4 x0 x1 aG)) aG:=by kernel_rfl
theorem YJ.e4 (x0:List Int)(x1:Int):∀(n:Nat) (aG:Int),loopN (loopF YJ.E f196.ntmps [1,0,1,0] [] (codeOf f196) (YJ.kt x0 x1)) n (YJ.s4 x0 x1 aG)=YJ.l4 x0 x1 n aG:=by
 intro n
 induction n with
 |zero=>intros;rw[loopN_z];rfl
 |succ n ih=>
  intro aG
  rw[loopN_s,YJ.r4]
  simp only[ih]
  first|exact(YJ.u4 ..).symm|rfl
theorem YJ.v (x0:List Int)(x1:Int):V.evBody YJ.E YJ.con f196 ((x0,x1):List Int×Int)=YJ.b x0 x1 (λaG=>loopN (loopF YJ.E f196.ntmps [1,0,1,0] [] (codeOf f196) (YJ.kt x0 x1)) V.KK (YJ.s4 x0 x1 aG)):=by kernel_rfl
theorem YJ.eq (x0:List Int)(x1:Int):V.evBody YJ.E YJ.con f196 ((x0,x1):List Int×Int)=YJ x0 x1:=by
 rw[YJ.v]
 simp only[YJ.e4]
 rfl
theorem YJ.ok :V.Valid prog 196 YJ.con:=
 V.fo tab_nil func196 (by kernel_rfl) (λx y h=>(show V.evBody YJ.E YJ.con f196 x=_ from YJ.eq x.1 x.2).trans (V.cfl (by kernel_rfl) h))
abbrev Q4.con :V.Con:=⟨(ci (.cons (.sl (ci .nil)) .nil)),(ci .nil),λ(x:Int×List Int)=>Q4 x.1 x.2,[],[(false,1),(false,1)],[(false,1)],[false],[]⟩
abbrev Q4.E :Env:=V.mkE V.tys [(152,ZR.con)] [] [] [] [] []
theorem Q4.eq (x0:Int)(x1:List Int):V.evBody Q4.E Q4.con f216 ((x0,x1):Int×List Int)=Q4 x0 x1:=by kernel_rfl
theorem Q4.ok :V.Valid prog 216 Q4.con:=
 V.fo (tab_cons ZR.ok tab_nil) func216 (by kernel_rfl) (λx y h=>(show V.evBody Q4.E Q4.con f216 x=_ from Q4.eq x.1 x.2).trans (V.cfl (by kernel_rfl) h))
abbrev Ua.con :V.Con:=⟨(ci (.cons (.sl (ci .nil)) .nil)),(ci .nil),λ(x:Int×List Int)=>Ua x.1 x.2,[],[(false,1),(false,1)],[(false,1)],[false],[]⟩
abbrev Ua.E :Env:=V.mkE V.tys [(216,Q4.con)] [] [] [] [] []
theorem Ua.eq (x0:Int)(x1:List Int):V.evBody Ua.E Ua.con f197 ((x0,x1):Int×List Int)=Ua x0 x1:=by kernel_rfl
theorem Ua.ok :V.Valid prog 197 Ua.con:=
 V.fo (tab_cons Q4.ok tab_nil) func197 (by kernel_rfl) (λx y h=>(show V.evBody Ua.E Ua.con f197 x=_ from Ua.eq x.1 x.2).trans (V.cfl (by kernel_rfl) h))
abbrev Ym.con :V.Con:=⟨(.cons (.sl (ci .nil)) (.cons (.sl (ci .nil)) (ci (.cons (.sl (ci .nil)) .nil)))),(.cons (.sl (ci (ci .nil))) .nil),λ(x:List Int×List Int×Int×List Int)=>Ym x.1 (x.2.1,x.2.2.1) x.2.2.2,[],[(false,1),(true,2),(false,1)],[(false,1)],[true],[]⟩
abbrev Ym.E :Env:=V.mkE V.tys [(196,YJ.con),(197,Ua.con)] [(6,[0,2,4,7,8],[(64000038400448,(ci (ci .nil)),true)])] [(6,15)] [] [] []
abbrev Ym.kt (x0:List Int)(x1:Za)(x2:List Int):Kt (List Z7):=ktOf Ym.E Ym.con f161 ((x0,x1.1,x1.2,x2):List Int×List Int×Int×List Int)
abbrev Ym.s6 (x0:List Int)(x1:Za)(x2:List Int)(aA:Int)(bA:List Z7):St:=⟨[(0, .v false [.val (.sl (ci .nil) x0)]),(2, .v false [.val (.sl (ci .nil) x2)]),(4, .v false [.ptr 64000 0]),(7, .v false [.ref 64000038400448]),(8, .v false [.vi (aA)])],[(64000, .box [.val (.sl (ci .nil) x1.1), .vi (x1.2)]),(64000038400448, .row (ci (ci .nil)) true bA)]⟩
theorem Ym.r6 (x0:List Int)(x1:Za)(x2:List Int)(R:St->Option (List Z7))(aA:Int)(bA:List Z7):loopF Ym.E f161.ntmps [1,1,0,1,0] [] (codeOf f161) (Ym.kt x0 x1 x2) R (Ym.s6 x0 x1 x2 aA bA)=Ym.g6 x0 x1 x2 (λaA bA=>R (Ym.s6 x0 x1 x2 aA bA)) aA bA:=by kernel_rfl
theorem Ym.e6 (x0:List Int)(x1:Za)(x2:List Int):∀(n:Nat) (aA:Int) (bA:List Z7),loopN (loopF Ym.E f161.ntmps [1,1,0,1,0] [] (codeOf f161) (Ym.kt x0 x1 x2)) n (Ym.s6 x0 x1 x2 aA bA)=Ym.l6 x0 x1 x2 n aA bA:=by
 intro n
 induction n with
 |zero=>intros;rw[loopN_z];rfl
 |succ n ih=>
  intro aA bA
  rw[loopN_s,Ym.r6]
  simp only[ih]
  first|exact(Ym.u6 ..).symm|rfl
theorem Ym.v (x0:List Int)(x1:Za)(x2:List Int):V.evBody Ym.E Ym.con f161 ((x0,x1.1,x1.2,x2):List Int×List Int×Int×List Int)=Ym.b x0 x1 x2 (λaA bA=>loopN (loopF Ym.E f161.ntmps [1,1,0,1,0] [] (codeOf f161) (Ym.kt x0 x1 x2)) V.KK (Ym.s6 x0 x1 x2 aA bA)):=by kernel_rfl
theorem Ym.eq (x0:List Int)(x1:Za)(x2:List Int):V.evBody Ym.E Ym.con f161 ((x0,x1.1,x1.2,x2):List Int×List Int×Int×List Int)=Ym x0 x1 x2:=by
 rw[Ym.v]
 simp only[Ym.e6]
 rfl
theorem Ym.ok :V.Valid prog 161 Ym.con:=
 V.fo (tab_cons YJ.ok (tab_cons Ua.ok tab_nil)) func161 (by kernel_rfl) (λx y h=>(show V.evBody Ym.E Ym.con f161 x=_ from Ym.eq x.1 (x.2.1,x.2.2.1) x.2.2.2).trans (V.cfl (by kernel_rfl) h))
abbrev X9.con :V.Con:=⟨V.A1,V.eSigned,λ(x:V.D1)=>X9 (V.p1_0 x) (V.p1_1 x) (V.p1_2 x),[],[(false,1),(true,2),(true,16)],[(true,17)],[false,false,false,false,false,false,false,false,true,false,true,false,false,true,false,false,true],[]⟩
abbrev X9.E :Env:=V.mkE V.tys [(40,Xe.con),(139,Xg.con),(161,Ym.con)] [] [(1,6)] [] [] []
abbrev X9.kt (x0:List Int)(x1:Za)(x2:Z5):Kt Z4:=ktOf X9.E X9.con f124 (V.fl1 x0 x1 x2)
abbrev X9.s (x0:List Int)(x1:Za)(x2:Z5):St:=⟨[(0, .v false [.val (.sl (ci .nil) x0)]),(1, .v true [.val (.sl (ci .nil) x1.1), .vi (x1.2)]),(2, .v true (V.lsHead x2))],[]⟩
theorem X9.v0 (x0:List Int)(x1:Za)(x2:Z5):V.evBody X9.E X9.con f124 (V.fl1 x0 x1 x2)=evC X9.E f124.ntmps (codeOf f124) (X9.kt x0 x1 x2) (X9.s x0 x1 x2):=by kernel_rfl
theorem X9.v (x0:List Int)(x1:Za)(x2:Z5):evC X9.E f124.ntmps (codeOf f124) (X9.kt x0 x1 x2) (X9.s x0 x1 x2)=X9 x0 x1 x2:=by kernel_rfl
theorem X9.eq (x0:List Int)(x1:Za)(x2:Z5):V.evBody X9.E X9.con f124 (V.fl1 x0 x1 x2)=X9 x0 x1 x2:=(X9.v0 x0 x1 x2).trans (X9.v x0 x1 x2)
theorem X9.ok :V.Valid prog 124 X9.con:=
 V.fo (tab_cons Xe.ok (tab_cons Xg.ok (tab_cons Ym.ok tab_nil))) func124 (by kernel_rfl) (λx y h=>(show V.evBody X9.E X9.con f124 x=_ from X9.eq (V.p1_0 x) (V.p1_1 x) (V.p1_2 x)).trans (V.cfl (by kernel_rfl) h))
abbrev Xf.con :V.Con:=⟨(.cons (.sl (ci .nil)) (ci (ci (.cons (.sl V.eEntry) (ci (ci .nil)))))),(.cons (.sl V.eSigned) (.cons (.sl V.eEntry) (.cons .bool .nil))),λ(x:List Int×Int×Int×List Z0×Int×Int)=>Xf (x.1,x.2.1) x.2.2.1 x.2.2.2.1 x.2.2.2.2.1 x.2.2.2.2.2,[],[(true,2),(false,1),(false,1),(false,1),(false,1)],[(true,2),(false,1)],[true,true,false],[]⟩
abbrev Xf.E :Env:=V.mkE V.tys [(123,YM.con),(124,X9.con),(125,Yf.con)] [] [] [] [] []
theorem Xf.eq (x0:Za)(x1:Int)(x2:List Z0)(x3:Int)(x4:Int):V.evBody Xf.E Xf.con f85 ((x0.1,x0.2,x1,x2,x3,x4):List Int×Int×Int×List Z0×Int×Int)=Xf x0 x1 x2 x3 x4:=by kernel_rfl
theorem Xf.ok :V.Valid prog 85 Xf.con:=
 V.fo (tab_cons YM.ok (tab_cons X9.ok (tab_cons Yf.ok tab_nil))) func85 (by kernel_rfl) (λx y h=>(show V.evBody Xf.E Xf.con f85 x=_ from Xf.eq (x.1,x.2.1) x.2.2.1 x.2.2.2.1 x.2.2.2.2.1 x.2.2.2.2.2).trans (V.cfl (by kernel_rfl) h))
abbrev Q3.con :V.Con:=⟨(ci (ci (.cons (.sl (ci .nil)) .nil))),(.cons .bool .nil),λ(x:Int×Int×List Int)=>Q3 (x.1,x.2.1) x.2.2,[],[(true,2),(false,1)],[(false,1)],[false],[]⟩
abbrev Q3.E :Env:=V.mkE V.tys [(38,ZW.con),(197,Ua.con)] [] [(1,10)] [] [] []
theorem Q3.eq (x0:Z7)(x1:List Int):V.evBody Q3.E Q3.con Tryz.f213 ((x0.1,x0.2,x1):Int×Int×List Int)=Q3 x0 x1:=by kernel_rfl
theorem Q3.ok :V.Valid prog 213 Q3.con:=
 V.fo (tab_cons ZW.ok (tab_cons Ua.ok tab_nil)) func213 (by kernel_rfl) (λx y h=>(show V.evBody Q3.E Q3.con Tryz.f213 x=_ from Q3.eq (x.1,x.2.1) x.2.2).trans (V.cfl (by kernel_rfl) h))
abbrev Zl.con :V.Con:=⟨(.cons (.sl (ci .nil)) (ci (.cons (.sl (ci .nil)) (.cons (.sl (ci (ci .nil))) .nil)))),(ci .nil),λ(x:List Int×Int×List Int×List Z7)=>Zl (x.1,x.2.1) x.2.2.1 x.2.2.2,[],[(true,2),(false,1),(false,1)],[(false,1)],[false],[]⟩
abbrev Zl.E :Env:=V.mkE V.tys [(213,Q3.con)] [(6,[1,2,3,7,8],[]),(12,[1,2,3,7,8,9],[]),(19,[1,2,3,7,8,9,41],[])] [(8,17)] [] [] []
abbrev Zl.kt (x0:Za)(x1:List Int)(x2:List Z7):Kt Int:=ktOf Zl.E Zl.con f192 ((x0.1,x0.2,x1,x2):List Int×Int×List Int×List Z7)
abbrev Zl.s19 (x0:Za)(x1:List Int)(x2:List Z7)(aA:Int)(aE:Int)(b8:Int)(eR:Bool):St:=⟨[(1, .v false [.val (.sl (ci .nil) x1)]),(2, .v false [.val (.sl (ci (ci .nil)) x2)]),(3, .v false [.ptr 64000 0]),(7, .v false [.vi (aA)]),(8, .v false [.vi (aE)]),(9, .v false [.vi (b8)]),(41, .v false [.val (.bool eR)])],[(64000, .box [.val (.sl (ci .nil) x0.1), .vi (x0.2)])]⟩
abbrev Zl.s12 (x0:Za)(x1:List Int)(x2:List Z7)(aA:Int)(aE:Int)(b8:Int):St:=⟨[(1, .v false [.val (.sl (ci .nil) x1)]),(2, .v false [.val (.sl (ci (ci .nil)) x2)]),(3, .v false [.ptr 64000 0]),(7, .v false [.vi (aA)]),(8, .v false [.vi (aE)]),(9, .v false [.vi (b8)])],[(64000, .box [.val (.sl (ci .nil) x0.1), .vi (x0.2)])]⟩
abbrev Zl.s6 (x0:Za)(x1:List Int)(x2:List Z7)(aA:Int)(aE:Int):St:=⟨[(1, .v false [.val (.sl (ci .nil) x1)]),(2, .v false [.val (.sl (ci (ci .nil)) x2)]),(3, .v false [.ptr 64000 0]),(7, .v false [.vi (aA)]),(8, .v false [.vi (aE)])],[(64000, .box [.val (.sl (ci .nil) x0.1), .vi (x0.2)])]⟩
theorem Zl.r19 (x0:Za)(x1:List Int)(x2:List Z7)(b8:Int)(aA:Int)(aE:Int)(R6:St->Option Int)(R12:St->Option Int)(eR:Bool):joinF Zl.E f192.ntmps [1,1,0,1,0,0,1,0,0,1,0,0,1,0,0] [R6,R12] (codeOf f192) (Zl.kt x0 x1 x2) (Zl.s19 x0 x1 x2 aA aE b8 eR)=Zl.g19 x0 x1 x2 aA aE b8 (λaA aE=>R6 (Zl.s6 x0 x1 x2 aA aE)) (λb8=>R12 (Zl.s12 x0 x1 x2 aA aE b8)) eR:=by kernel_rfl
theorem Zl.e19 (x0:Za)(x1:List Int)(x2:List Z7)(b8:Int)(aA:Int)(aE:Int)(R6:St->Option Int)(R12:St->Option Int)(eR:Bool):jn (joinF Zl.E f192.ntmps [1,1,0,1,0,0,1,0,0,1,0,0,1,0,0] [R6,R12] (codeOf f192) (Zl.kt x0 x1 x2)) (Zl.s19 x0 x1 x2 aA aE b8 eR)=Zl.l19 x0 x1 x2 aA aE b8 (λaA aE=>R6 (Zl.s6 x0 x1 x2 aA aE)) (λb8=>R12 (Zl.s12 x0 x1 x2 aA aE b8)) eR:=by
 rw[jn_eq,Zl.r19]
 rfl
theorem Zl.r12 (x0:Za)(x1:List Int)(x2:List Z7)(aA:Int)(aE:Int)(R6:St->Option Int)(R:St->Option Int)(b8:Int):loopF Zl.E f192.ntmps [1,1,0,1,0,0,1,0,0,1,0] [R6] (codeOf f192) (Zl.kt x0 x1 x2) R (Zl.s12 x0 x1 x2 aA aE b8)=Zl.g12 x0 x1 x2 aA aE (λaA aE=>R6 (Zl.s6 x0 x1 x2 aA aE)) (λb8=>R (Zl.s12 x0 x1 x2 aA aE b8)) (λeR=>jn (joinF Zl.E f192.ntmps [1,1,0,1,0,0,1,0,0,1,0,0,1,0,0] [R6,R] (codeOf f192) (Zl.kt x0 x1 x2)) (Zl.s19 x0 x1 x2 aA aE b8 eR)) b8:=by kernel_rfl
theorem Zl.e12 (x0:Za)(x1:List Int)(x2:List Z7)(aA:Int)(aE:Int)(R6:St->Option Int):∀(n:Nat) (b8:Int),loopN (loopF Zl.E f192.ntmps [1,1,0,1,0,0,1,0,0,1,0] [R6] (codeOf f192) (Zl.kt x0 x1 x2)) n (Zl.s12 x0 x1 x2 aA aE b8)=Zl.l12 x0 x1 x2 aA aE (λaA aE=>R6 (Zl.s6 x0 x1 x2 aA aE)) n b8:=by
 intro n
 induction n with
 |zero=>intros;rw[loopN_z];rfl
 |succ n ih=>
  intro b8
  rw[loopN_s,Zl.r12]
  simp only[Zl.e19,ih]
  first|exact(Zl.u12 ..).symm|rfl
theorem Zl.r6 (x0:Za)(x1:List Int)(x2:List Z7)(R:St->Option Int)(aA:Int)(aE:Int):loopF Zl.E f192.ntmps [1,1,0,1,0] [] (codeOf f192) (Zl.kt x0 x1 x2) R (Zl.s6 x0 x1 x2 aA aE)=Zl.g6 x0 x1 x2 (λaA aE=>R (Zl.s6 x0 x1 x2 aA aE)) (λb8=>loopN (loopF Zl.E f192.ntmps [1,1,0,1,0,0,1,0,0,1,0] [R] (codeOf f192) (Zl.kt x0 x1 x2)) V.KK (Zl.s12 x0 x1 x2 aA aE b8)) aA aE:=by kernel_rfl
theorem Zl.e6 (x0:Za)(x1:List Int)(x2:List Z7):∀(n:Nat) (aA:Int) (aE:Int),loopN (loopF Zl.E f192.ntmps [1,1,0,1,0] [] (codeOf f192) (Zl.kt x0 x1 x2)) n (Zl.s6 x0 x1 x2 aA aE)=Zl.l6 x0 x1 x2 n aA aE:=by
 intro n
 induction n with
 |zero=>intros;rw[loopN_z];rfl
 |succ n ih=>
  intro aA aE
  rw[loopN_s,Zl.r6]
  simp only[Zl.e12,ih]
  first|exact(Zl.u6 ..).symm|rfl
theorem Zl.v (x0:Za)(x1:List Int)(x2:List Z7):V.evBody Zl.E Zl.con f192 ((x0.1,x0.2,x1,x2):List Int×Int×List Int×List Z7)=Zl.b x0 x1 x2 (λaA aE=>loopN (loopF Zl.E f192.ntmps [1,1,0,1,0] [] (codeOf f192) (Zl.kt x0 x1 x2)) V.KK (Zl.s6 x0 x1 x2 aA aE)):=by kernel_rfl
theorem Zl.eq (x0:Za)(x1:List Int)(x2:List Z7):V.evBody Zl.E Zl.con f192 ((x0.1,x0.2,x1,x2):List Int×Int×List Int×List Z7)=Zl x0 x1 x2:=by
 rw[Zl.v]
 simp only[Zl.e6]
 rfl
theorem Zl.ok :V.Valid prog 192 Zl.con:=
 V.fo (tab_cons Q3.ok tab_nil) func192 (by kernel_rfl) (λx y h=>(show V.evBody Zl.E Zl.con f192 x=_ from Zl.eq (x.1,x.2.1) x.2.2.1 x.2.2.2).trans (V.cfl (by kernel_rfl) h))
abbrev U9.con :V.Con:=⟨(.cons (.sl (ci .nil)) (ci (.cons (.sl (ci .nil)) (.cons (.sl (ci (ci .nil))) .nil)))),(.cons .bool .nil),λ(x:List Int×Int×List Int×List Z7)=>U9 (x.1,x.2.1) x.2.2.1 x.2.2.2,[],[(true,2),(false,1),(false,1)],[(false,1)],[false],[]⟩
abbrev U9.E :Env:=V.mkE V.tys [(190,Y9.con),(192,Zl.con)] [] [(1,9)] [] [] []
theorem U9.eq (x0:Za)(x1:List Int)(x2:List Z7):V.evBody U9.E U9.con f157 ((x0.1,x0.2,x1,x2):List Int×Int×List Int×List Z7)=U9 x0 x1 x2:=by kernel_rfl
theorem U9.ok :V.Valid prog 157 U9.con:=
 V.fo (tab_cons Y9.ok (tab_cons Zl.ok tab_nil)) func157 (by kernel_rfl) (λx y h=>(show V.evBody U9.E U9.con f157 x=_ from U9.eq (x.1,x.2.1) x.2.2.1 x.2.2.2).trans (V.cfl (by kernel_rfl) h))
abbrev XO.con :V.Con:=⟨V.A2,(.cons .bool .nil),λ(x:V.D2)=>XO (V.p2_0 x),[],[(true,17)],[(false,1)],[false],[]⟩
abbrev XO.E :Env:=V.mkE V.tys [(139,Xg.con),(155,Zn.con),(156,Ub.con),(157,U9.con)] [] [(2,34)] [] [] []
abbrev XO.kt (x0:Z4):Kt Bool:=ktOf XO.E XO.con f117 (V.fl2 x0)
abbrev XO.s (x0:Z4):St:=⟨[(0, .v true (V.lsSigned x0))],[]⟩
theorem XO.v0 (x0:Z4):V.evBody XO.E XO.con f117 (V.fl2 x0)=evC XO.E f117.ntmps (codeOf f117) (XO.kt x0) (XO.s x0):=by kernel_rfl
theorem XO.v (x0:Z4):evC XO.E f117.ntmps (codeOf f117) (XO.kt x0) (XO.s x0)=XO x0:=by kernel_rfl
theorem XO.eq (x0:Z4):V.evBody XO.E XO.con f117 (V.fl2 x0)=XO x0:=(XO.v0 x0).trans (XO.v x0)
theorem XO.ok :V.Valid prog 117 XO.con:=
 V.fo (tab_cons Xg.ok (tab_cons Zn.ok (tab_cons Ub.ok (tab_cons U9.ok tab_nil)))) func117 (by kernel_rfl) (λx y h=>(show V.evBody XO.E XO.con f117 x=_ from XO.eq (V.p2_0 x)).trans (V.cfl (by kernel_rfl) h))
abbrev Xn.con :V.Con:=⟨V.A0,(ci .nil),λ(x:V.D0)=>Xn (V.p0_0 x),[],[(true,16)],[(false,1)],[false],[]⟩
abbrev Xn.E :Env:=V.mkE V.tys [(139,Xg.con),(152,ZR.con)] [] [] [] [] []
abbrev Xn.kt (x0:Z5):Kt Int:=ktOf Xn.E Xn.con f165 (V.fl0 x0)
abbrev Xn.s (x0:Z5):St:=⟨[(0, .v true (V.lsHead x0))],[]⟩
theorem Xn.v0 (x0:Z5):V.evBody Xn.E Xn.con f165 (V.fl0 x0)=evC Xn.E f165.ntmps (codeOf f165) (Xn.kt x0) (Xn.s x0):=by kernel_rfl
theorem Xn.v (x0:Z5):evC Xn.E f165.ntmps (codeOf f165) (Xn.kt x0) (Xn.s x0)=Xn x0:=by kernel_rfl
theorem Xn.eq (x0:Z5):V.evBody Xn.E Xn.con f165 (V.fl0 x0)=Xn x0:=(Xn.v0 x0).trans (Xn.v x0)
theorem Xn.ok :V.Valid prog 165 Xn.con:=
 V.fo (tab_cons Xg.ok (tab_cons ZR.ok tab_nil)) func165 (by kernel_rfl) (λx y h=>(show V.evBody Xn.E Xn.con f165 x=_ from Xn.eq (V.p0_0 x)).trans (V.cfl (by kernel_rfl) h))
abbrev XT.con :V.Con:=⟨V.A3,(ci .nil),λ(x:V.D3)=>XT (V.p3_0 x) (V.p3_1 x),[],[(true,16),(true,16)],[(false,1)],[false],[]⟩
abbrev XT.E :Env:=V.mkE V.tys [] [] [] [] [] []
abbrev XT.kt (x0:Z5)(x1:Z5):Kt Int:=ktOf XT.E XT.con f193 (V.fl3 x0 x1)
abbrev XT.s (x0:Z5)(x1:Z5):St:=⟨[(0, .v true (V.lsHead x0)),(1, .v true (V.lsHead x1))],[]⟩
theorem XT.v0 (x0:Z5)(x1:Z5):V.evBody XT.E XT.con f193 (V.fl3 x0 x1)=evC XT.E f193.ntmps (codeOf f193) (XT.kt x0 x1) (XT.s x0 x1):=by kernel_rfl
theorem XT.v (x0:Z5)(x1:Z5):evC XT.E f193.ntmps (codeOf f193) (XT.kt x0 x1) (XT.s x0 x1)=XT x0 x1:=by kernel_rfl
theorem XT.eq (x0:Z5)(x1:Z5):V.evBody XT.E XT.con f193 (V.fl3 x0 x1)=XT x0 x1:=(XT.v0 x0 x1).trans (XT.v x0 x1)
theorem XT.ok :V.Valid prog 193 XT.con:=
 V.fo tab_nil func193 (by kernel_rfl) (λx y h=>(show V.evBody XT.E XT.con f193 x=_ from XT.eq (V.p3_0 x) (V.p3_1 x)).trans (V.cfl (by kernel_rfl) h))
abbrev Ye.con :V.Con:=⟨(.cons (.sl (ci .nil)) (.cons (.sl (ci .nil)) .nil)),(.cons .bool .nil),λ(x:List Int×List Int)=>Ye x.1 x.2,[],[(false,1),(false,1)],[(false,1)],[false],[]⟩
abbrev Ye.E :Env:=V.mkE V.tys [] [(8,[0,1,5],[])] [(6,8)] [] [] []
abbrev Ye.kt (x0:List Int)(x1:List Int):Kt Bool:=ktOf Ye.E Ye.con f171 ((x0,x1):List Int×List Int)
abbrev Ye.s8 (x0:List Int)(x1:List Int)(aF:Int):St:=⟨[(0, .v false [.val (.sl (ci .nil) x0)]),(1, .v false [.val (.sl (ci .nil) x1)]),(5, .v false [.vi (aF)])],[]⟩
theorem Ye.r8 (x0:List Int)(x1:List Int)(R:St->Option Bool)(aF:Int):loopF Ye.E f171.ntmps [1,1,0,1,0] [] (codeOf f171) (Ye.kt x0 x1) R (Ye.s8 x0 x1 aF)=Ye.g8 x0 x1 (λaF=>R (Ye.s8 x0 x1 aF)) aF:=by kernel_rfl
theorem Ye.e8 (x0:List Int)(x1:List Int):∀(n:Nat) (aF:Int),loopN (loopF Ye.E f171.ntmps [1,1,0,1,0] [] (codeOf f171) (Ye.kt x0 x1)) n (Ye.s8 x0 x1 aF)=Ye.l8 x0 x1 n aF:=by
 intro n
 induction n with
 |zero=>intros;rw[loopN_z];rfl
 |succ n ih=>
  intro aF
  rw[loopN_s,Ye.r8]
  simp only[ih]
  first|exact(Ye.u8 ..).symm|rfl
theorem Ye.v (x0:List Int)(x1:List Int):V.evBody Ye.E Ye.con f171 ((x0,x1):List Int×List Int)=Ye.b x0 x1 (λaF=>loopN (loopF Ye.E f171.ntmps [1,1,0,1,0] [] (codeOf f171) (Ye.kt x0 x1)) V.KK (Ye.s8 x0 x1 aF)):=by kernel_rfl
theorem Ye.eq (x0:List Int)(x1:List Int):V.evBody Ye.E Ye.con f171 ((x0,x1):List Int×List Int)=Ye x0 x1:=by
 rw[Ye.v]
 simp only[Ye.e8]
 rfl
theorem Ye.ok :V.Valid prog 171 Ye.con:=
 V.fo tab_nil func171 (by kernel_rfl) (λx y h=>(show V.evBody Ye.E Ye.con f171 x=_ from Ye.eq x.1 x.2).trans (V.cfl (by kernel_rfl) h))
abbrev WI.con :V.Con:=⟨(.cons (.sl (ci .nil)) (ci (.cons (.sl (ci .nil)) (ci .nil)))),(.cons .bool .nil),λ(x:List Int×Int×List Int×Int)=>WI (x.1,x.2.1) x.2.2,[],[(true,2),(true,2)],[(false,1)],[false],[]⟩
abbrev WI.E :Env:=V.mkE V.tys [(171,Ye.con)] [] [] [] [] []
theorem WI.eq (x0:Za)(x1:Za):V.evBody WI.E WI.con f214 ((x0.1,x0.2,x1.1,x1.2):List Int×Int×List Int×Int)=WI x0 x1:=by kernel_rfl
theorem WI.ok :V.Valid prog 214 WI.con:=
 V.fo (tab_cons Ye.ok tab_nil) func214 (by kernel_rfl) (λx y h=>(show V.evBody WI.E WI.con f214 x=_ from WI.eq (x.1,x.2.1) x.2.2).trans (V.cfl (by kernel_rfl) h))
abbrev XB.con :V.Con:=⟨V.A3,(.cons .bool .nil),λ(x:V.D3)=>XB (V.p3_0 x) (V.p3_1 x),[],[(true,16),(true,16)],[(false,1)],[false],[]⟩
abbrev XB.E :Env:=V.mkE V.tys [] [] [] [] [] []
abbrev XB.kt (x0:Z5)(x1:Z5):Kt Bool:=ktOf XB.E XB.con f215 (V.fl3 x0 x1)
abbrev XB.s (x0:Z5)(x1:Z5):St:=⟨[(0, .v true (V.lsHead x0)),(1, .v true (V.lsHead x1))],[]⟩
theorem XB.v0 (x0:Z5)(x1:Z5):V.evBody XB.E XB.con f215 (V.fl3 x0 x1)=evC XB.E f215.ntmps (codeOf f215) (XB.kt x0 x1) (XB.s x0 x1):=by kernel_rfl
theorem XB.v (x0:Z5)(x1:Z5):evC XB.E f215.ntmps (codeOf f215) (XB.kt x0 x1) (XB.s x0 x1)=XB x0 x1:=by kernel_rfl
theorem XB.eq (x0:Z5)(x1:Z5):V.evBody XB.E XB.con f215 (V.fl3 x0 x1)=XB x0 x1:=(XB.v0 x0 x1).trans (XB.v x0 x1)
theorem XB.ok :V.Valid prog 215 XB.con:=
 V.fo tab_nil func215 (by kernel_rfl) (λx y h=>(show V.evBody XB.E XB.con f215 x=_ from XB.eq (V.p3_0 x) (V.p3_1 x)).trans (V.cfl (by kernel_rfl) h))
abbrev Ys.con :V.Con:=⟨V.A3,(ci .nil),λ(x:V.D3)=>Ys (V.p3_0 x) (V.p3_1 x),[],[(true,16),(true,16)],[(false,1)],[false],[]⟩
abbrev Ys.E :Env:=V.mkE V.tys [(191,WA.con),(214,WI.con),(215,XB.con)] [(9,[2,3,8],[])] [] [] [] []
abbrev Ys.kt (x0:Z5)(x1:Z5):Kt Int:=ktOf Ys.E Ys.con f194 (V.fl3 x0 x1)
abbrev Ys.s9 (x0:Z5)(x1:Z5)(bN:Bool):St:=⟨[(2, .v false [.ptr 64000 0]),(3, .v false [.ptr 64064 0]),(8, .v false [.val (.bool bN)])],[(64000, .box (V.lsHead x0)),(64064, .box (V.lsHead x1))]⟩
theorem Ys.r9 (x0:Z5)(x1:Z5)(bN:Bool):joinF Ys.E f194.ntmps [1,0,0,1,1] [] (codeOf f194) (Ys.kt x0 x1) (Ys.s9 x0 x1 bN)=Ys.g9 x0 x1 bN:=by kernel_rfl
theorem Ys.e9 (x0:Z5)(x1:Z5)(bN:Bool):jn (joinF Ys.E f194.ntmps [1,0,0,1,1] [] (codeOf f194) (Ys.kt x0 x1)) (Ys.s9 x0 x1 bN)=Ys.l9 x0 x1 bN:=by
 rw[jn_eq,Ys.r9]
 rfl
abbrev Ys.s (x0:Z5)(x1:Z5):St:=⟨[(0, .v true (V.lsHead x0)),(1, .v true (V.lsHead x1))],[]⟩
theorem Ys.v0 (x0:Z5)(x1:Z5):V.evBody Ys.E Ys.con f194 (V.fl3 x0 x1)=evC Ys.E f194.ntmps (codeOf f194) (Ys.kt x0 x1) (Ys.s x0 x1):=by kernel_rfl
theorem Ys.v (x0:Z5)(x1:Z5):evC Ys.E f194.ntmps (codeOf f194) (Ys.kt x0 x1) (Ys.s x0 x1)=Ys.b x0 x1 (λbN=>jn (joinF Ys.E f194.ntmps [1,0,0,1,1] [] (codeOf f194) (Ys.kt x0 x1)) (Ys.s9 x0 x1 bN)):=by kernel_rfl
theorem Ys.eq (x0:Z5)(x1:Z5):V.evBody Ys.E Ys.con f194 (V.fl3 x0 x1)=Ys x0 x1:=by
 rw[Ys.v0,Ys.v]
 simp only[Ys.e9]
 rfl
theorem Ys.ok :V.Valid prog 194 Ys.con:=
 V.fo (tab_cons WA.ok (tab_cons WI.ok (tab_cons XB.ok tab_nil))) func194 (by kernel_rfl) (λx y h=>(show V.evBody Ys.E Ys.con f194 x=_ from Ys.eq (V.p3_0 x) (V.p3_1 x)).trans (V.cfl (by kernel_rfl) h))
abbrev Yt.con :V.Con:=⟨V.A3,(ci .nil),λ(x:V.D3)=>Yt (V.p3_0 x) (V.p3_1 x),[],[(true,16),(true,16)],[(false,1)],[false],[]⟩
abbrev Yt.E :Env:=V.mkE V.tys [(191,WA.con),(214,WI.con),(215,XB.con)] [(9,[2,3,9],[])] [] [] [] []
abbrev Yt.kt (x0:Z5)(x1:Z5):Kt Int:=ktOf Yt.E Yt.con f195 (V.fl3 x0 x1)
abbrev Yt.s9 (x0:Z5)(x1:Z5)(bN:Bool):St:=⟨[(2, .v false [.ptr 64000 0]),(3, .v false [.ptr 64064 0]),(9, .v false [.val (.bool bN)])],[(64000, .box (V.lsHead x0)),(64064, .box (V.lsHead x1))]⟩
theorem Yt.r9 (x0:Z5)(x1:Z5)(bN:Bool):joinF Yt.E f195.ntmps [1,0,0,1,1] [] (codeOf f195) (Yt.kt x0 x1) (Yt.s9 x0 x1 bN)=Yt.g9 x0 x1 bN:=by kernel_rfl
theorem Yt.e9 (x0:Z5)(x1:Z5)(bN:Bool):jn (joinF Yt.E f195.ntmps [1,0,0,1,1] [] (codeOf f195) (Yt.kt x0 x1)) (Yt.s9 x0 x1 bN)=Yt.l9 x0 x1 bN:=by
 rw[jn_eq,Yt.r9]
 rfl
abbrev Yt.s (x0:Z5)(x1:Z5):St:=⟨[(0, .v true (V.lsHead x0)),(1, .v true (V.lsHead x1))],[]⟩
theorem Yt.v0 (x0:Z5)(x1:Z5):V.evBody Yt.E Yt.con f195 (V.fl3 x0 x1)=evC Yt.E f195.ntmps (codeOf f195) (Yt.kt x0 x1) (Yt.s x0 x1):=by kernel_rfl
theorem Yt.v (x0:Z5)(x1:Z5):evC Yt.E f195.ntmps (codeOf f195) (Yt.kt x0 x1) (Yt.s x0 x1)=Yt.b x0 x1 (λbN=>jn (joinF Yt.E f195.ntmps [1,0,0,1,1] [] (codeOf f195) (Yt.kt x0 x1)) (Yt.s9 x0 x1 bN)):=by kernel_rfl
theorem Yt.eq (x0:Z5)(x1:Z5):V.evBody Yt.E Yt.con f195 (V.fl3 x0 x1)=Yt x0 x1:=by
 rw[Yt.v0,Yt.v]
 simp only[Yt.e9]
 rfl
theorem Yt.ok :V.Valid prog 195 Yt.con:=
 V.fo (tab_cons WA.ok (tab_cons WI.ok (tab_cons XB.ok tab_nil))) func195 (by kernel_rfl) (λx y h=>(show V.evBody Yt.E Yt.con f195 x=_ from Yt.eq (V.p3_0 x) (V.p3_1 x)).trans (V.cfl (by kernel_rfl) h))
abbrev Zo.con :V.Con:=⟨V.A4,(ci .nil),λ(x:V.D4)=>Zo (V.p4_0 x) (V.p4_1 x),[],[(true,16),(true,17)],[(false,1)],[false],[]⟩
abbrev Zo.E :Env:=V.mkE V.tys [(139,Xg.con),(155,Zn.con),(157,U9.con),(165,Xn.con),(193,XT.con),(194,Ys.con),(195,Yt.con)] [(9,[2,3,5],[]),(13,[2,3,5],[]),(31,[3,5,6,7],[])] [(4,25),(15,8)] [] [] []
abbrev Zo.kt (x0:Z5)(x1:Z4):Kt Int:=ktOf Zo.E Zo.con f158 (V.fl4 x0 x1)
abbrev Zo.s31 (x1:Z4)(bP:Int)(fA:List Int)(fB:Int):St:=⟨[(3, .v false [.ptr 64064 0]),(5, .v false [.ptr 128128 0]),(6, .v false [.vi (bP)]),(7, .v false [.ptr 512128 0])],[(64064, .box (V.lsSigned x1)),(128128, .box [.vi (x1.1), .vi (x1.2.1), .vi (x1.2.2.1), .vi (x1.2.2.2.1), .vi (x1.2.2.2.2.1), .vi (x1.2.2.2.2.2.1), .vi (x1.2.2.2.2.2.2.1), .vi (x1.2.2.2.2.2.2.2.1), .val (.sl (ci .nil) x1.2.2.2.2.2.2.2.2.1), .vi (x1.2.2.2.2.2.2.2.2.2.1), .val (.sl (ci .nil) x1.2.2.2.2.2.2.2.2.2.2.1), .vi (x1.2.2.2.2.2.2.2.2.2.2.2.1), .vi (x1.2.2.2.2.2.2.2.2.2.2.2.2.1), .val (.sl (ci .nil) x1.2.2.2.2.2.2.2.2.2.2.2.2.2.1), .vi (x1.2.2.2.2.2.2.2.2.2.2.2.2.2.2.1), .val (.bool x1.2.2.2.2.2.2.2.2.2.2.2.2.2.2.2.1)]),(512128, .box [.val (.sl (ci .nil) fA), .vi (fB)])]⟩
abbrev Zo.s13 (x0:Z5)(x1:Z4):St:=⟨[(2, .v false [.ptr 64000 0]),(3, .v false [.ptr 64064 0]),(5, .v false [.ptr 128128 0])],[(64000, .box (V.lsHead x0)),(64064, .box (V.lsSigned x1)),(128128, .box [.vi (x1.1), .vi (x1.2.1), .vi (x1.2.2.1), .vi (x1.2.2.2.1), .vi (x1.2.2.2.2.1), .vi (x1.2.2.2.2.2.1), .vi (x1.2.2.2.2.2.2.1), .vi (x1.2.2.2.2.2.2.2.1), .val (.sl (ci .nil) x1.2.2.2.2.2.2.2.2.1), .vi (x1.2.2.2.2.2.2.2.2.2.1), .val (.sl (ci .nil) x1.2.2.2.2.2.2.2.2.2.2.1), .vi (x1.2.2.2.2.2.2.2.2.2.2.2.1), .vi (x1.2.2.2.2.2.2.2.2.2.2.2.2.1), .val (.sl (ci .nil) x1.2.2.2.2.2.2.2.2.2.2.2.2.2.1), .vi (x1.2.2.2.2.2.2.2.2.2.2.2.2.2.2.1), .val (.bool x1.2.2.2.2.2.2.2.2.2.2.2.2.2.2.2.1)])]⟩
abbrev Zo.s9 (x0:Z5)(x1:Z4):St:=⟨[(2, .v false [.ptr 64000 0]),(3, .v false [.ptr 64064 0]),(5, .v false [.ptr 128128 0])],[(64000, .box (V.lsHead x0)),(64064, .box (V.lsSigned x1)),(128128, .box [.vi (x1.1), .vi (x1.2.1), .vi (x1.2.2.1), .vi (x1.2.2.2.1), .vi (x1.2.2.2.2.1), .vi (x1.2.2.2.2.2.1), .vi (x1.2.2.2.2.2.2.1), .vi (x1.2.2.2.2.2.2.2.1), .val (.sl (ci .nil) x1.2.2.2.2.2.2.2.2.1), .vi (x1.2.2.2.2.2.2.2.2.2.1), .val (.sl (ci .nil) x1.2.2.2.2.2.2.2.2.2.2.1), .vi (x1.2.2.2.2.2.2.2.2.2.2.2.1), .vi (x1.2.2.2.2.2.2.2.2.2.2.2.2.1), .val (.sl (ci .nil) x1.2.2.2.2.2.2.2.2.2.2.2.2.2.1), .vi (x1.2.2.2.2.2.2.2.2.2.2.2.2.2.2.1), .val (.bool x1.2.2.2.2.2.2.2.2.2.2.2.2.2.2.2.1)])]⟩
theorem Zo.r31 (x0:Z5)(x1:Z4)(bP:Int)(fA:List Int)(fB:Int):joinF Zo.E f158.ntmps [1,1,1,1,1,1] [] (codeOf f158) (Zo.kt x0 x1) (Zo.s31 x1 bP fA fB)=Zo.g31 x1 bP fA fB:=by kernel_rfl
theorem Zo.e31 (x0:Z5)(x1:Z4)(bP:Int)(fA:List Int)(fB:Int):jn (joinF Zo.E f158.ntmps [1,1,1,1,1,1] [] (codeOf f158) (Zo.kt x0 x1)) (Zo.s31 x1 bP fA fB)=Zo.l31 x1 bP fA fB:=by
 rw[jn_eq,Zo.r31]
 rfl
theorem Zo.r13 (x0:Z5)(x1:Z4):joinF Zo.E f158.ntmps [1,1,1] [] (codeOf f158) (Zo.kt x0 x1) (Zo.s13 x0 x1)=Zo.g13 x0 x1 (λbP fA fB=>jn (joinF Zo.E f158.ntmps [1,1,1,1,1,1] [] (codeOf f158) (Zo.kt x0 x1)) (Zo.s31 x1 bP fA fB)):=by kernel_rfl
theorem Zo.e13 (x0:Z5)(x1:Z4):jn (joinF Zo.E f158.ntmps [1,1,1] [] (codeOf f158) (Zo.kt x0 x1)) (Zo.s13 x0 x1)=Zo.l13 x0 x1:=by
 rw[jn_eq,Zo.r13]
 simp only[Zo.e31]
 rfl
theorem Zo.r9 (x0:Z5)(x1:Z4):joinF Zo.E f158.ntmps [1,1] [] (codeOf f158) (Zo.kt x0 x1) (Zo.s9 x0 x1)=Zo.g9 x0 x1 (jn (joinF Zo.E f158.ntmps [1,1,1] [] (codeOf f158) (Zo.kt x0 x1)) (Zo.s13 x0 x1)):=by kernel_rfl
theorem Zo.e9 (x0:Z5)(x1:Z4):jn (joinF Zo.E f158.ntmps [1,1] [] (codeOf f158) (Zo.kt x0 x1)) (Zo.s9 x0 x1)=Zo.l9 x0 x1:=by
 rw[jn_eq,Zo.r9]
 simp only[Zo.e13]
 rfl
abbrev Zo.s (x0:Z5)(x1:Z4):St:=⟨[(0, .v true (V.lsHead x0)),(1, .v true (V.lsSigned x1))],[]⟩
theorem Zo.v0 (x0:Z5)(x1:Z4):V.evBody Zo.E Zo.con f158 (V.fl4 x0 x1)=evC Zo.E f158.ntmps (codeOf f158) (Zo.kt x0 x1) (Zo.s x0 x1):=by kernel_rfl
theorem Zo.v (x0:Z5)(x1:Z4):evC Zo.E f158.ntmps (codeOf f158) (Zo.kt x0 x1) (Zo.s x0 x1)=Zo.b x0 x1 (jn (joinF Zo.E f158.ntmps [1,1] [] (codeOf f158) (Zo.kt x0 x1)) (Zo.s9 x0 x1)):=by kernel_rfl
theorem Zo.eq (x0:Z5)(x1:Z4):V.evBody Zo.E Zo.con f158 (V.fl4 x0 x1)=Zo x0 x1:=by
 rw[Zo.v0,Zo.v]
 simp only[Zo.e9]
 rfl
theorem Zo.ok :V.Valid prog 158 Zo.con:=
 V.fo (tab_cons Xg.ok (tab_cons Zn.ok (tab_cons U9.ok (tab_cons Xn.ok (tab_cons XT.ok (tab_cons Ys.ok (tab_cons Yt.ok tab_nil))))))) func158 (by kernel_rfl) (λx y h=>(show V.evBody Zo.E Zo.con f158 x=_ from Zo.eq (V.p4_0 x) (V.p4_1 x)).trans (V.cfl (by kernel_rfl) h))
abbrev XP.con :V.Con:=⟨V.A4,(.cons .bool .nil),λ(x:V.D4)=>XP (V.p4_0 x) (V.p4_1 x),[],[(true,16),(true,17)],[(false,1)],[false],[]⟩
abbrev XP.E :Env:=V.mkE V.tys [(158,Zo.con)] [] [] [] [] []
abbrev XP.kt (x0:Z5)(x1:Z4):Kt Bool:=ktOf XP.E XP.con f118 (V.fl4 x0 x1)
abbrev XP.s (x0:Z5)(x1:Z4):St:=⟨[(0, .v true (V.lsHead x0)),(1, .v true (V.lsSigned x1))],[]⟩
theorem XP.v0 (x0:Z5)(x1:Z4):V.evBody XP.E XP.con f118 (V.fl4 x0 x1)=evC XP.E f118.ntmps (codeOf f118) (XP.kt x0 x1) (XP.s x0 x1):=by kernel_rfl
theorem XP.v (x0:Z5)(x1:Z4):evC XP.E f118.ntmps (codeOf f118) (XP.kt x0 x1) (XP.s x0 x1)=XP x0 x1:=by kernel_rfl
theorem XP.eq (x0:Z5)(x1:Z4):V.evBody XP.E XP.con f118 (V.fl4 x0 x1)=XP x0 x1:=(XP.v0 x0 x1).trans (XP.v x0 x1)
theorem XP.ok :V.Valid prog 118 XP.con:=
 V.fo (tab_cons Zo.ok tab_nil) func118 (by kernel_rfl) (λx y h=>(show V.evBody XP.E XP.con f118 x=_ from XP.eq (V.p4_0 x) (V.p4_1 x)).trans (V.cfl (by kernel_rfl) h))
abbrev Yy.con :V.Con:=⟨(.cons (.sl V.eSigned) .nil),(ci .nil),λ(x:List Z4)=>Yy x,[],[(false,1)],[(false,1)],[false],[]⟩
abbrev Yy.E :Env:=V.mkE V.tys [(117,XO.con),(118,XP.con)] [(4,[0,3],[])] [(4,23)] [] [] []
abbrev Yy.kt (x0:List Z4):Kt Int:=ktOf Yy.E Yy.con f77 ((x0):List Z4)
abbrev Yy.s4 (x0:List Z4)(aJ:Int):St:=⟨[(0, .v false [.val (.sl V.eSigned x0)]),(3, .v false [.vi (aJ)])],[]⟩
theorem Yy.r4 (x0:List Z4)(R:St->Option Int)(aJ:Int):loopF Yy.E f77.ntmps [1,0,1,0] [] (codeOf f77) (Yy.kt x0) R (Yy.s4 x0 aJ)=Yy.g4 x0 (λaJ=>R (Yy.s4 x0 aJ)) aJ:=by kernel_rfl
theorem Yy.e4 (x0:List Z4):∀(n:Nat) (aJ:Int),loopN (loopF Yy.E f77.ntmps [1,0,1,0] [] (codeOf f77) (Yy.kt x0)) n (Yy.s4 x0 aJ)=Yy.l4 x0 n aJ:=by
 intro n
 induction n with
 |zero=>intros;rw[loopN_z];rfl
 |succ n ih=>
  intro aJ
  rw[loopN_s,Yy.r4]
  simp only[ih]
  first|exact(Yy.u4 ..).symm|rfl
theorem Yy.v (x0:List Z4):V.evBody Yy.E Yy.con f77 ((x0):List Z4)=Yy.b x0 (λaJ=>loopN (loopF Yy.E f77.ntmps [1,0,1,0] [] (codeOf f77) (Yy.kt x0)) V.KK (Yy.s4 x0 aJ)):=by kernel_rfl
theorem Yy.eq (x0:List Z4):V.evBody Yy.E Yy.con f77 ((x0):List Z4)=Yy x0:=by
 rw[Yy.v]
 simp only[Yy.e4]
 rfl
theorem Yy.ok :V.Valid prog 77 Yy.con:=
 V.fo (tab_cons XO.ok (tab_cons XP.ok tab_nil)) func77 (by kernel_rfl) (λx y h=>(show V.evBody Yy.E Yy.con f77 x=_ from Yy.eq x).trans (V.cfl (by kernel_rfl) h))
abbrev Q2.con :V.Con:=⟨(.cons (.sl V.eSigned) .nil),(.cons .bool .nil),λ(x:List Z4)=>Q2 x,[],[(false,1)],[(false,1)],[false],[]⟩
abbrev Q2.E :Env:=V.mkE V.tys [(38,ZW.con),(77,Yy.con)] [] [] [] [] []
theorem Q2.eq (x0:List Z4):V.evBody Q2.E Q2.con f39 ((x0):List Z4)=Q2 x0:=by kernel_rfl
theorem Q2.ok :V.Valid prog 39 Q2.con:=
 V.fo (tab_cons ZW.ok (tab_cons Yy.ok tab_nil)) func39 (by kernel_rfl) (λx y h=>(show V.evBody Q2.E Q2.con f39 x=_ from Q2.eq x).trans (V.cfl (by kernel_rfl) h))
abbrev Xs.con :V.Con:=⟨(.cons (.sl V.eSigned) .nil),V.eRHeadBool,λ(x:List Z4)=>Xs x,[],[(false,1)],[(true,16),(false,1)],[false,false,false,false,false,false,false,false,true,false,true,false,false,true,false,false,false],[]⟩
abbrev Xs.E :Env:=V.mkE V.tys [(39,Q2.con),(40,Xe.con)] [] [] [] [] []
theorem Xs.eq (x0:List Z4):V.evBody Xs.E Xs.con f11 ((x0):List Z4)=Xs x0:=by kernel_rfl
theorem Xs.ok :V.Valid prog 11 Xs.con:=
 V.fo (tab_cons Q2.ok (tab_cons Xe.ok tab_nil)) func11 (by kernel_rfl) (λx y h=>(show V.evBody Xs.E Xs.con f11 x=_ from Xs.eq x).trans (V.cfl (by kernel_rfl) h))
abbrev W5.con :V.Con:=⟨(.cons (.ptr (.cons (.sl (.cons (.int .u8) .nil)) (ci (ci .nil)))) (ci .nil)),(.cons (.ptr (.cons (.sl (.cons (.int .u8) .nil)) (ci (ci .nil)))) (.cons .bool .nil)),λ(x:(Z3)×Int)=>W5 x.1 x.2,[(0,false)],[(false,1),(false,1)],[(false,1)],[false],[]⟩
abbrev W5.E :Env:=V.mkE V.tys [(46,Zb.con)] [] [] [] [] []
theorem W5.eq (x0:(Z3))(x1:Int):V.evBody W5.E W5.con f54 ((x0,x1):(Z3)×Int)=W5 x0 x1:=by kernel_rfl
theorem W5.ok :V.Valid prog 54 W5.con:=
 V.fo (tab_cons Zb.ok tab_nil) func54 (by kernel_rfl) (λx y h=>(show V.evBody W5.E W5.con f54 x=_ from W5.eq x.1 x.2).trans (V.cfl (by kernel_rfl) h))
abbrev Zc.con :V.Con:=⟨V.A5,(.cons (.ptr (.cons (.sl (.cons (.int .u8) .nil)) (ci (ci .nil)))) (ci (ci (ci (ci (ci (ci (ci (ci (.cons (.sl (ci .nil)) (ci (.cons (.sl (ci .nil)) (ci (ci (.cons (.sl (ci .nil)) (ci (.cons .bool (.cons (.sl (ci (ci .nil))) .nil)))))))))))))))))),λ(x:V.D5)=>Zc (V.p5_0 x) (V.p5_1 x),[(0,false)],[(false,1),(true,16)],[(true,17)],[false,false,false,false,false,false,false,false,true,false,true,false,false,true,false,false,true],[]⟩
abbrev Zc.E :Env:=V.mkE V.tys [(40,Xe.con),(46,Zb.con),(54,W5.con),(76,W9.con),(78,Wu.con),(84,ZT.con),(86,ZS.con),(124,X9.con),(165,Xn.con)] [(11,[0,3,4,5],[]),(13,[0,3,4,5],[]),(25,[0,3,4,5,6],[]),(27,[0,3,4,5,6],[]),(41,[0,4,5,6,73],[]),(63,[0,4,5,6],[])] [] [] [] [(4,[1000]),(5,[1000]),(11,[1000]),(12,[1000])]
abbrev Zc.kt (x0:(Z3))(x1:Z5):Kt ((Z3)×Int×Int×Int×Int×Int×Int×Int×Int×List Int×Int×List Int×Int×Int×List Int×Int×Bool×List Z7):=ktOf Zc.E Zc.con f127 (V.fl5 x0 x1)
abbrev Zc.s63 (x0:(Z3))(aP:Int)(y1:Z5)(y2:Int)(d4:Int)(d7:Int)(d5:Int)(d6:Int)(d8:Int)(d9:Int)(dA:Int)(dB:Int)(dC:Int)(dD:Int)(dE:Int)(dF:Bool)(dG:List Int)(dH:List Int)(dI:List Int)(d3:List Int)(dJ:Int):St:=⟨[(0, .v false [.ptr 0 0]),(4, .v false [.ptr 64064 0]),(5, .v false [.ptr 128128 0]),(6, .v false [.ptr 512128 0])],[(0, .box [.val (.sl (.cons (.int .u8) .nil) x0.1), .vi (d4), .vi (d7)]),(64064, .box [.vi ((0:Int)), .vi ((0:Int)), .vi ((0:Int)), .vi ((0:Int)), .vi ((0:Int)), .vi ((0:Int)), .vi ((0:Int)), .vi ((0:Int)), .nil0, .vi ((0:Int)), .nil0, .vi ((0:Int)), .vi ((0:Int)), .nil0, .vi ((0:Int)), .val (.bool false), .nil0]),(128128, .box [.vi (y1.1), .vi (aP), .vi (d5), .vi (d6), .vi (d8), .vi (d9), .vi (dA), .vi (y2), .ref 64000000000008200200, .vi (dB), .ref 64000000000008200202, .vi (dC), .vi (dD), .ref 64000000000008200205, .vi (dE), .val (.bool dF)]),(64000000000008200200, .row (ci .nil) true dG),(64000000000008200202, .row (ci .nil) true dH),(64000000000008200205, .row (ci .nil) true dI),(512128, .box [.val (.sl (ci .nil) d3), .vi (dJ)])]⟩
abbrev Zc.s27 (x0:(Z3))(x1:Z5)(aP:Int)(aU:Int)(y1:Z5)(y2:Int)(eU:Int)(eV:Int)(eY:Int):St:=⟨[(0, .v false [.ptr 0 0]),(3, .v false [.ptr 64000 0]),(4, .v false [.ptr 64064 0]),(5, .v false [.ptr 128128 0]),(6, .v false [.ptr 512128 0])],[(0, .box [.val (.sl (.cons (.int .u8) .nil) x0.1), .vi (eU), .vi (eV)]),(64000, .box (V.lsHead x1)),(64064, .box [.vi ((0:Int)), .vi ((0:Int)), .vi ((0:Int)), .vi ((0:Int)), .vi ((0:Int)), .vi ((0:Int)), .vi ((0:Int)), .vi ((0:Int)), .nil0, .vi ((0:Int)), .nil0, .vi ((0:Int)), .vi ((0:Int)), .nil0, .vi ((0:Int)), .val (.bool false), .nil0]),(128128, .box [.vi (y1.1), .vi (aP), .vi ((2:Int)), .vi (aU), .vi (eY), .vi (y1.2.2.2.2.2.1), .vi (y1.2.2.2.2.2.2.1), .vi (y2), .ref 64000000000008200200, .vi (y1.2.2.2.2.2.2.2.2.2.1), .ref 64000000000008200202, .vi (y1.2.2.2.2.2.2.2.2.2.2.2.1), .vi (y1.2.2.2.2.2.2.2.2.2.2.2.2.1), .ref 64000000000008200205, .vi (y1.2.2.2.2.2.2.2.2.2.2.2.2.2.2.1), .val (.bool y1.2.2.2.2.2.2.2.2.2.2.2.2.2.2.2)]),(64000000000008200200, .row (ci .nil) true y1.2.2.2.2.2.2.2.2.1),(64000000000008200202, .row (ci .nil) true y1.2.2.2.2.2.2.2.2.2.2.1),(64000000000008200205, .row (ci .nil) true y1.2.2.2.2.2.2.2.2.2.2.2.2.2.1),(512128, .box [.val (.sl (ci .nil) x1.2.2.2.2.2.2.2.2.1), .vi (x1.2.2.2.2.2.2.2.2.2.1)])]⟩
abbrev Zc.s25 (x0:(Z3))(x1:Z5)(aP:Int)(b9:Int)(y1:Z5)(y2:Int)(c9:Int)(aT:Int)(aU:Int):St:=⟨[(0, .v false [.ptr 0 0]),(3, .v false [.ptr 64000 0]),(4, .v false [.ptr 64064 0]),(5, .v false [.ptr 128128 0]),(6, .v false [.ptr 512128 0])],[(0, .box [.val (.sl (.cons (.int .u8) .nil) x0.1), .vi (c9), .vi (aT)]),(64000, .box (V.lsHead x1)),(64064, .box [.vi ((0:Int)), .vi ((0:Int)), .vi ((0:Int)), .vi ((0:Int)), .vi ((0:Int)), .vi ((0:Int)), .vi ((0:Int)), .vi ((0:Int)), .nil0, .vi ((0:Int)), .nil0, .vi ((0:Int)), .vi ((0:Int)), .nil0, .vi ((0:Int)), .val (.bool false), .nil0]),(128128, .box [.vi (y1.1), .vi (aP), .vi ((2:Int)), .vi (aU), .vi (b9), .vi (y1.2.2.2.2.2.1), .vi (y1.2.2.2.2.2.2.1), .vi (y2), .ref 64000000000008200200, .vi (y1.2.2.2.2.2.2.2.2.2.1), .ref 64000000000008200202, .vi (y1.2.2.2.2.2.2.2.2.2.2.2.1), .vi (y1.2.2.2.2.2.2.2.2.2.2.2.2.1), .ref 64000000000008200205, .vi (y1.2.2.2.2.2.2.2.2.2.2.2.2.2.2.1), .val (.bool y1.2.2.2.2.2.2.2.2.2.2.2.2.2.2.2)]),(64000000000008200200, .row (ci .nil) true y1.2.2.2.2.2.2.2.2.1),(64000000000008200202, .row (ci .nil) true y1.2.2.2.2.2.2.2.2.2.2.1),(64000000000008200205, .row (ci .nil) true y1.2.2.2.2.2.2.2.2.2.2.2.2.2.1),(512128, .box [.val (.sl (ci .nil) x1.2.2.2.2.2.2.2.2.1), .vi (x1.2.2.2.2.2.2.2.2.2.1)])]⟩
abbrev Zc.s41 (x0:(Z3))(x1:Z5)(aP:Int)(b7:Int)(b9:Int)(y1:Z5)(y2:Int)(fC:Bool)(eD:Int)(eF:Int)(eE:Bool):St:=⟨[(0, .v false [.ptr 0 0]),(4, .v false [.ptr 64064 0]),(5, .v false [.ptr 128128 0]),(6, .v false [.ptr 512128 0]),(73, .v false [.val (.bool fC)])],[(0, .box [.val (.sl (.cons (.int .u8) .nil) x0.1), .vi (eD), .vi (eF)]),(64064, .box [.vi ((0:Int)), .vi ((0:Int)), .vi ((0:Int)), .vi ((0:Int)), .vi ((0:Int)), .vi ((0:Int)), .vi ((0:Int)), .vi ((0:Int)), .nil0, .vi ((0:Int)), .nil0, .vi ((0:Int)), .vi ((0:Int)), .nil0, .vi ((0:Int)), .val (.bool false), .nil0]),(128128, .box [.vi (y1.1), .vi (aP), .vi ((3:Int)), .vi (b7), .vi (b9), .vi (y1.2.2.2.2.2.1), .vi (y1.2.2.2.2.2.2.1), .vi (y2), .ref 64000000000008200200, .vi (y1.2.2.2.2.2.2.2.2.2.1), .ref 64000000000008200202, .vi (y1.2.2.2.2.2.2.2.2.2.2.2.1), .vi (y1.2.2.2.2.2.2.2.2.2.2.2.2.1), .ref 64000000000008200205, .vi (y1.2.2.2.2.2.2.2.2.2.2.2.2.2.2.1), .val (.bool eE)]),(64000000000008200200, .row (ci .nil) true y1.2.2.2.2.2.2.2.2.1),(64000000000008200202, .row (ci .nil) true y1.2.2.2.2.2.2.2.2.2.2.1),(64000000000008200205, .row (ci .nil) true y1.2.2.2.2.2.2.2.2.2.2.2.2.2.1),(512128, .box [.val (.sl (ci .nil) x1.2.2.2.2.2.2.2.2.2.2.2.2.2.1), .vi (x1.2.2.2.2.2.2.2.2.2.2.2.2.2.2.1)])]⟩
abbrev Zc.s13 (x0:(Z3))(x1:Z5)(aP:Int)(b7:Int)(y1:Z5)(y2:Int)(bH:Int)(bI:Int)(b9:Int):St:=⟨[(0, .v false [.ptr 0 0]),(3, .v false [.ptr 64000 0]),(4, .v false [.ptr 64064 0]),(5, .v false [.ptr 128128 0])],[(0, .box [.val (.sl (.cons (.int .u8) .nil) x0.1), .vi (bH), .vi (bI)]),(64000, .box (V.lsHead x1)),(64064, .box [.vi ((0:Int)), .vi ((0:Int)), .vi ((0:Int)), .vi ((0:Int)), .vi ((0:Int)), .vi ((0:Int)), .vi ((0:Int)), .vi ((0:Int)), .nil0, .vi ((0:Int)), .nil0, .vi ((0:Int)), .vi ((0:Int)), .nil0, .vi ((0:Int)), .val (.bool false), .nil0]),(128128, .box [.vi (y1.1), .vi (aP), .vi (y1.2.2.1), .vi (b7), .vi (b9), .vi (y1.2.2.2.2.2.1), .vi (y1.2.2.2.2.2.2.1), .vi (y2), .ref 64000000000008200200, .vi (y1.2.2.2.2.2.2.2.2.2.1), .ref 64000000000008200202, .vi (y1.2.2.2.2.2.2.2.2.2.2.2.1), .vi (y1.2.2.2.2.2.2.2.2.2.2.2.2.1), .ref 64000000000008200205, .vi (y1.2.2.2.2.2.2.2.2.2.2.2.2.2.2.1), .val (.bool y1.2.2.2.2.2.2.2.2.2.2.2.2.2.2.2)]),(64000000000008200200, .row (ci .nil) true y1.2.2.2.2.2.2.2.2.1),(64000000000008200202, .row (ci .nil) true y1.2.2.2.2.2.2.2.2.2.2.1),(64000000000008200205, .row (ci .nil) true y1.2.2.2.2.2.2.2.2.2.2.2.2.2.1)]⟩
abbrev Zc.s11 (x0:(Z3))(x1:Z5)(y1:Z5)(y2:Int)(eH:Int)(eI:Int)(aP:Int)(b7:Int):St:=⟨[(0, .v false [.ptr 0 0]),(3, .v false [.ptr 64000 0]),(4, .v false [.ptr 64064 0]),(5, .v false [.ptr 128128 0])],[(0, .box [.val (.sl (.cons (.int .u8) .nil) x0.1), .vi (eH), .vi (eI)]),(64000, .box (V.lsHead x1)),(64064, .box [.vi ((0:Int)), .vi ((0:Int)), .vi ((0:Int)), .vi ((0:Int)), .vi ((0:Int)), .vi ((0:Int)), .vi ((0:Int)), .vi ((0:Int)), .nil0, .vi ((0:Int)), .nil0, .vi ((0:Int)), .vi ((0:Int)), .nil0, .vi ((0:Int)), .val (.bool false), .nil0]),(128128, .box [.vi (y1.1), .vi (aP), .vi (y1.2.2.1), .vi (b7), .vi (y1.2.2.2.2.1), .vi (y1.2.2.2.2.2.1), .vi (y1.2.2.2.2.2.2.1), .vi (y2), .ref 64000000000008200200, .vi (y1.2.2.2.2.2.2.2.2.2.1), .ref 64000000000008200202, .vi (y1.2.2.2.2.2.2.2.2.2.2.2.1), .vi (y1.2.2.2.2.2.2.2.2.2.2.2.2.1), .ref 64000000000008200205, .vi (y1.2.2.2.2.2.2.2.2.2.2.2.2.2.2.1), .val (.bool y1.2.2.2.2.2.2.2.2.2.2.2.2.2.2.2)]),(64000000000008200200, .row (ci .nil) true y1.2.2.2.2.2.2.2.2.1),(64000000000008200202, .row (ci .nil) true y1.2.2.2.2.2.2.2.2.2.2.1),(64000000000008200205, .row (ci .nil) true y1.2.2.2.2.2.2.2.2.2.2.2.2.2.1)]⟩
theorem Zc.r63 (x0:(Z3))(x1:Z5)(aP:Int)(y1:Z5)(y2:Int)(d4:Int)(d7:Int)(d5:Int)(d6:Int)(d8:Int)(d9:Int)(dA:Int)(dB:Int)(dC:Int)(dD:Int)(dE:Int)(dF:Bool)(dG:List Int)(dH:List Int)(dI:List Int)(d3:List Int)(dJ:Int):joinF Zc.E f127.ntmps [1,1,1,1,1,1,1,1] [] (codeOf f127) (Zc.kt x0 x1) (Zc.s63 x0 aP y1 y2 d4 d7 d5 d6 d8 d9 dA dB dC dD dE dF dG dH dI d3 dJ)=Zc.g63 x0 aP y1 y2 d4 d7 d5 d6 d8 d9 dA dB dC dD dE dF dG dH dI d3 dJ:=by kernel_rfl
theorem Zc.e63 (x0:(Z3))(x1:Z5)(aP:Int)(y1:Z5)(y2:Int)(d4:Int)(d7:Int)(d5:Int)(d6:Int)(d8:Int)(d9:Int)(dA:Int)(dB:Int)(dC:Int)(dD:Int)(dE:Int)(dF:Bool)(dG:List Int)(dH:List Int)(dI:List Int)(d3:List Int)(dJ:Int):jn (joinF Zc.E f127.ntmps [1,1,1,1,1,1,1,1] [] (codeOf f127) (Zc.kt x0 x1)) (Zc.s63 x0 aP y1 y2 d4 d7 d5 d6 d8 d9 dA dB dC dD dE dF dG dH dI d3 dJ)=Zc.l63 x0 aP y1 y2 d4 d7 d5 d6 d8 d9 dA dB dC dD dE dF dG dH dI d3 dJ:=by
 rw[jn_eq,Zc.r63]
 rfl
theorem Zc.r27 (x0:(Z3))(x1:Z5)(aP:Int)(aU:Int)(y1:Z5)(y2:Int)(eU:Int)(eV:Int)(eY:Int):joinF Zc.E f127.ntmps [1,1,1,1,1,1,1,1,0,1,0,1,0,1,1] [] (codeOf f127) (Zc.kt x0 x1) (Zc.s27 x0 x1 aP aU y1 y2 eU eV eY)=Zc.g27 x0 x1 aP aU y1 y2 (λy1 y2 d4 d7 d5 d6 d8 d9 dA dB dC dD dE dF dG dH dI d3 dJ=>jn (joinF Zc.E f127.ntmps [1,1,1,1,1,1,1,1] [] (codeOf f127) (Zc.kt x0 x1)) (Zc.s63 x0 aP y1 y2 d4 d7 d5 d6 d8 d9 dA dB dC dD dE dF dG dH dI d3 dJ)) eU eV eY:=by kernel_rfl
theorem Zc.e27 (x0:(Z3))(x1:Z5)(aP:Int)(aU:Int)(y1:Z5)(y2:Int)(eU:Int)(eV:Int)(eY:Int):jn (joinF Zc.E f127.ntmps [1,1,1,1,1,1,1,1,0,1,0,1,0,1,1] [] (codeOf f127) (Zc.kt x0 x1)) (Zc.s27 x0 x1 aP aU y1 y2 eU eV eY)=Zc.l27 x0 x1 aP aU y1 y2 eU eV eY:=by
 rw[jn_eq,Zc.r27]
 simp only[Zc.e63]
 rfl
theorem Zc.r25 (x0:(Z3))(x1:Z5)(aP:Int)(b9:Int)(y1:Z5)(y2:Int)(c9:Int)(aT:Int)(aU:Int):joinF Zc.E f127.ntmps [1,1,1,1,1,1,1,1,0,1,0,1,0,1] [] (codeOf f127) (Zc.kt x0 x1) (Zc.s25 x0 x1 aP b9 y1 y2 c9 aT aU)=Zc.g25 x0 x1 aP b9 y1 y2 (λy1 y2 eU eV eY=>jn (joinF Zc.E f127.ntmps [1,1,1,1,1,1,1,1,0,1,0,1,0,1,1] [] (codeOf f127) (Zc.kt x0 x1)) (Zc.s27 x0 x1 aP aU y1 y2 eU eV eY)) c9 aT aU:=by kernel_rfl
theorem Zc.e25 (x0:(Z3))(x1:Z5)(aP:Int)(b9:Int)(y1:Z5)(y2:Int)(c9:Int)(aT:Int)(aU:Int):jn (joinF Zc.E f127.ntmps [1,1,1,1,1,1,1,1,0,1,0,1,0,1] [] (codeOf f127) (Zc.kt x0 x1)) (Zc.s25 x0 x1 aP b9 y1 y2 c9 aT aU)=Zc.l25 x0 x1 aP b9 y1 y2 c9 aT aU:=by
 rw[jn_eq,Zc.r25]
 simp only[Zc.e27]
 rfl
theorem Zc.r41 (x0:(Z3))(x1:Z5)(aP:Int)(b7:Int)(b9:Int)(y1:Z5)(y2:Int)(fC:Bool)(eD:Int)(eF:Int)(eE:Bool):joinF Zc.E f127.ntmps [1,1,1,1,1,1,1,1,0,1,0,1,1,1,0,1,1,1] [] (codeOf f127) (Zc.kt x0 x1) (Zc.s41 x0 x1 aP b7 b9 y1 y2 fC eD eF eE)=Zc.g41 x0 x1 aP b7 b9 y1 y2 (λy1 y2 d4 d7 d5 d6 d8 d9 dA dB dC dD dE dF dG dH dI d3 dJ=>jn (joinF Zc.E f127.ntmps [1,1,1,1,1,1,1,1] [] (codeOf f127) (Zc.kt x0 x1)) (Zc.s63 x0 aP y1 y2 d4 d7 d5 d6 d8 d9 dA dB dC dD dE dF dG dH dI d3 dJ)) fC eD eF eE:=by kernel_rfl
theorem Zc.e41 (x0:(Z3))(x1:Z5)(aP:Int)(b7:Int)(b9:Int)(y1:Z5)(y2:Int)(fC:Bool)(eD:Int)(eF:Int)(eE:Bool):jn (joinF Zc.E f127.ntmps [1,1,1,1,1,1,1,1,0,1,0,1,1,1,0,1,1,1] [] (codeOf f127) (Zc.kt x0 x1)) (Zc.s41 x0 x1 aP b7 b9 y1 y2 fC eD eF eE)=Zc.l41 x0 x1 aP b7 b9 y1 y2 fC eD eF eE:=by
 rw[jn_eq,Zc.r41]
 simp only[Zc.e63]
 rfl
theorem Zc.r13 (x0:(Z3))(x1:Z5)(aP:Int)(b7:Int)(y1:Z5)(y2:Int)(bH:Int)(bI:Int)(b9:Int):joinF Zc.E f127.ntmps [1,1,1,1,1] [] (codeOf f127) (Zc.kt x0 x1) (Zc.s13 x0 x1 aP b7 y1 y2 bH bI b9)=Zc.g13 x0 x1 aP b7 y1 y2 (λy1 y2 c9 aT aU=>jn (joinF Zc.E f127.ntmps [1,1,1,1,1,1,1,1,0,1,0,1,0,1] [] (codeOf f127) (Zc.kt x0 x1)) (Zc.s25 x0 x1 aP b9 y1 y2 c9 aT aU)) (λy1 y2 fC eD eF eE=>jn (joinF Zc.E f127.ntmps [1,1,1,1,1,1,1,1,0,1,0,1,1,1,0,1,1,1] [] (codeOf f127) (Zc.kt x0 x1)) (Zc.s41 x0 x1 aP b7 b9 y1 y2 fC eD eF eE)) (λy1 y2 d4 d7 d5 d6 d8 d9 dA dB dC dD dE dF dG dH dI d3 dJ=>jn (joinF Zc.E f127.ntmps [1,1,1,1,1,1,1,1] [] (codeOf f127) (Zc.kt x0 x1)) (Zc.s63 x0 aP y1 y2 d4 d7 d5 d6 d8 d9 dA dB dC dD dE dF dG dH dI d3 dJ)) bH bI b9:=by kernel_rfl
theorem Zc.e13 (x0:(Z3))(x1:Z5)(aP:Int)(b7:Int)(y1:Z5)(y2:Int)(bH:Int)(bI:Int)(b9:Int):jn (joinF Zc.E f127.ntmps [1,1,1,1,1] [] (codeOf f127) (Zc.kt x0 x1)) (Zc.s13 x0 x1 aP b7 y1 y2 bH bI b9)=Zc.l13 x0 x1 aP b7 y1 y2 bH bI b9:=by
 rw[jn_eq,Zc.r13]
 simp only[Zc.e25,Zc.e41,Zc.e63]
 rfl
theorem Zc.r11 (x0:(Z3))(x1:Z5)(y1:Z5)(y2:Int)(eH:Int)(eI:Int)(aP:Int)(b7:Int):joinF Zc.E f127.ntmps [1,1,1,1] [] (codeOf f127) (Zc.kt x0 x1) (Zc.s11 x0 x1 y1 y2 eH eI aP b7)=Zc.g11 x0 x1 y1 y2 (λy1 y2 bH bI b9=>jn (joinF Zc.E f127.ntmps [1,1,1,1,1] [] (codeOf f127) (Zc.kt x0 x1)) (Zc.s13 x0 x1 aP b7 y1 y2 bH bI b9)) eH eI aP b7:=by kernel_rfl
theorem Zc.e11 (x0:(Z3))(x1:Z5)(y1:Z5)(y2:Int)(eH:Int)(eI:Int)(aP:Int)(b7:Int):jn (joinF Zc.E f127.ntmps [1,1,1,1] [] (codeOf f127) (Zc.kt x0 x1)) (Zc.s11 x0 x1 y1 y2 eH eI aP b7)=Zc.l11 x0 x1 y1 y2 eH eI aP b7:=by
 rw[jn_eq,Zc.r11]
 simp only[Zc.e13]
 rfl
abbrev Zc.s (x0:(Z3))(x1:Z5):St:=⟨[(0, .v false [.ptr 0 0]),(1, .v true (V.lsHead x1))],[(0, .box [.val (.sl (.cons (.int .u8) .nil) x0.1), .vi (x0.2.1), .vi (x0.2.2)])]⟩
theorem Zc.v0 (x0:(Z3))(x1:Z5):V.evBody Zc.E Zc.con f127 (V.fl5 x0 x1)=evC Zc.E f127.ntmps (codeOf f127) (Zc.kt x0 x1) (Zc.s x0 x1):=by kernel_rfl
theorem Zc.v (x0:(Z3))(x1:Z5):evC Zc.E f127.ntmps (codeOf f127) (Zc.kt x0 x1) (Zc.s x0 x1)=Zc.b x0 x1 (λy1 y2 eH eI aP b7=>jn (joinF Zc.E f127.ntmps [1,1,1,1] [] (codeOf f127) (Zc.kt x0 x1)) (Zc.s11 x0 x1 y1 y2 eH eI aP b7)):=by kernel_rfl
theorem Zc.eq (x0:(Z3))(x1:Z5):V.evBody Zc.E Zc.con f127 (V.fl5 x0 x1)=Zc x0 x1:=by
 rw[Zc.v0,Zc.v]
 simp only[Zc.e11]
 rfl
theorem Zc.ok :V.Valid prog 127 Zc.con:=
 V.fo (tab_cons Xe.ok (tab_cons Zb.ok (tab_cons W5.ok (tab_cons W9.ok (tab_cons Wu.ok (tab_cons ZT.ok (tab_cons ZS.ok (tab_cons X9.ok (tab_cons Xn.ok tab_nil))))))))) func127 (by kernel_rfl) (λx y h=>(show V.evBody Zc.E Zc.con f127 x=_ from Zc.eq (V.p5_0 x) (V.p5_1 x)).trans (V.cfl (by kernel_rfl) h))
abbrev Xu.con :V.Con:=⟨V.A0,V.eRHeadBool,λ(x:V.D0)=>Xu (V.p0_0 x),[],[(true,16)],[(true,16),(false,1)],[false,false,false,false,false,false,false,false,false,false,false,false,false,false,false,false,false],[]⟩
abbrev Xu.E :Env:=V.mkE V.tys [(155,Zn.con)] [] [] [] [] []
abbrev Xu.kt (x0:Z5):Kt ZQ:=ktOf Xu.E Xu.con f167 (V.fl0 x0)
abbrev Xu.s (x0:Z5):St:=⟨[(0, .v true (V.lsHead x0))],[]⟩
theorem Xu.v0 (x0:Z5):V.evBody Xu.E Xu.con f167 (V.fl0 x0)=evC Xu.E f167.ntmps (codeOf f167) (Xu.kt x0) (Xu.s x0):=by kernel_rfl
theorem Xu.v (x0:Z5):evC Xu.E f167.ntmps (codeOf f167) (Xu.kt x0) (Xu.s x0)=Xu x0:=by kernel_rfl
theorem Xu.eq (x0:Z5):V.evBody Xu.E Xu.con f167 (V.fl0 x0)=Xu x0:=(Xu.v0 x0).trans (Xu.v x0)
theorem Xu.ok :V.Valid prog 167 Xu.con:=
 V.fo (tab_cons Zn.ok tab_nil) func167 (by kernel_rfl) (λx y h=>(show V.evBody Xu.E Xu.con f167 x=_ from Xu.eq (V.p0_0 x)).trans (V.cfl (by kernel_rfl) h))
abbrev Yz.con :V.Con:=⟨V.A6,V.eRHeadBool,λ(x:V.D6)=>Yz (V.p6_0 x) (V.p6_1 x) (V.p6_2 x) (V.p6_3 x),[],[(true,16),(false,1),(false,1),(false,1)],[(true,16),(false,1)],[false,false,false,false,false,false,false,false,false,false,false,false,false,false,false,false,false],[]⟩
abbrev Yz.E :Env:=V.mkE V.tys [(38,ZW.con),(40,Xe.con),(155,Zn.con),(165,Xn.con),(167,Xu.con)] [(5,[1,2,3,4,8,25],[])] [] [] [] []
abbrev Yz.kt (x0:Z5)(x1:Int)(x2:Int)(x3:Int):Kt ZQ:=ktOf Yz.E Yz.con f166 (V.fl6 x0 x1 x2 x3)
abbrev Yz.s5 (x0:Z5)(x1:Int)(x2:Int)(x3:Int)(aX:Bool):St:=⟨[(1, .v false [.vi (x1)]),(2, .v false [.vi (x2)]),(3, .v false [.vi (x3)]),(4, .v false [.ptr 64000 0]),(8, .v false [.ptr 64064 0]),(25, .v false [.val (.bool aX)])],[(64000, .box (V.lsHead x0)),(64064, .box [.vi ((0:Int)), .vi ((0:Int)), .vi ((0:Int)), .vi ((0:Int)), .vi ((0:Int)), .vi ((0:Int)), .vi ((0:Int)), .vi ((0:Int)), .nil0, .vi ((0:Int)), .nil0, .vi ((0:Int)), .vi ((0:Int)), .nil0, .vi ((0:Int)), .val (.bool false)])]⟩
theorem Yz.r5 (x0:Z5)(x1:Int)(x2:Int)(x3:Int)(aX:Bool):joinF Yz.E f166.ntmps [1,0] [] (codeOf f166) (Yz.kt x0 x1 x2 x3) (Yz.s5 x0 x1 x2 x3 aX)=Yz.g5 x0 x1 x2 x3 aX:=by kernel_rfl
theorem Yz.e5 (x0:Z5)(x1:Int)(x2:Int)(x3:Int)(aX:Bool):jn (joinF Yz.E f166.ntmps [1,0] [] (codeOf f166) (Yz.kt x0 x1 x2 x3)) (Yz.s5 x0 x1 x2 x3 aX)=Yz.l5 x0 x1 x2 x3 aX:=by
 rw[jn_eq,Yz.r5]
 rfl
abbrev Yz.s (x0:Z5)(x1:Int)(x2:Int)(x3:Int):St:=⟨[(0, .v true (V.lsHead x0)),(1, .v false [.vi (x1)]),(2, .v false [.vi (x2)]),(3, .v false [.vi (x3)])],[]⟩
theorem Yz.v0 (x0:Z5)(x1:Int)(x2:Int)(x3:Int):V.evBody Yz.E Yz.con f166 (V.fl6 x0 x1 x2 x3)=evC Yz.E f166.ntmps (codeOf f166) (Yz.kt x0 x1 x2 x3) (Yz.s x0 x1 x2 x3):=by kernel_rfl
theorem Yz.v (x0:Z5)(x1:Int)(x2:Int)(x3:Int):evC Yz.E f166.ntmps (codeOf f166) (Yz.kt x0 x1 x2 x3) (Yz.s x0 x1 x2 x3)=Yz.b x0 x1 x2 x3 (λaX=>jn (joinF Yz.E f166.ntmps [1,0] [] (codeOf f166) (Yz.kt x0 x1 x2 x3)) (Yz.s5 x0 x1 x2 x3 aX)):=by kernel_rfl
theorem Yz.eq (x0:Z5)(x1:Int)(x2:Int)(x3:Int):V.evBody Yz.E Yz.con f166 (V.fl6 x0 x1 x2 x3)=Yz x0 x1 x2 x3:=by
 rw[Yz.v0,Yz.v]
 simp only[Yz.e5]
 rfl
theorem Yz.ok :V.Valid prog 166 Yz.con:=
 V.fo (tab_cons ZW.ok (tab_cons Xe.ok (tab_cons Zn.ok (tab_cons Xn.ok (tab_cons Xu.ok tab_nil))))) func166 (by kernel_rfl) (λx y h=>(show V.evBody Yz.E Yz.con f166 x=_ from Yz.eq (V.p6_0 x) (V.p6_1 x) (V.p6_2 x) (V.p6_3 x)).trans (V.cfl (by kernel_rfl) h))
abbrev Y7.con :V.Con:=⟨V.A7,V.eRHeadBool,λ(x:V.D7)=>Y7 (V.p7_0 x) (V.p7_1 x) (V.p7_2 x) (V.p7_3 x),[],[(true,16),(false,1),(false,1),(false,1)],[(true,16),(false,1)],[false,false,false,false,false,false,false,false,false,false,false,false,false,false,false,false,false],[]⟩
abbrev Y7.E :Env:=V.mkE V.tys [(74,Y3.con),(76,W9.con),(166,Yz.con),(167,Xu.con)] [(7,[1,8,10,25],[])] [] [] [] []
abbrev Y7.kt (x0:Z5)(x1:List Z0)(x2:Int)(x3:Int):Kt ZQ:=ktOf Y7.E Y7.con f128 (V.fl7 x0 x1 x2 x3)
abbrev Y7.s7 (x1:List Z0)(y1:ZQ)(aW:Bool):St:=⟨[(1, .v false [.val (.sl V.eEntry x1)]),(8, .v false [.ptr 64064 0]),(10, .v false [.ptr 128448 0]),(25, .v false [.val (.bool aW)])],[(64064, .box [.vi ((0:Int)), .vi ((0:Int)), .vi ((0:Int)), .vi ((0:Int)), .vi ((0:Int)), .vi ((0:Int)), .vi ((0:Int)), .vi ((0:Int)), .nil0, .vi ((0:Int)), .nil0, .vi ((0:Int)), .vi ((0:Int)), .nil0, .vi ((0:Int)), .val (.bool false)]),(128448, .box [.vi (y1.1), .vi (y1.2.1), .vi (y1.2.2.1), .vi (y1.2.2.2.1), .vi (y1.2.2.2.2.1), .vi (y1.2.2.2.2.2.1), .vi (y1.2.2.2.2.2.2.1), .vi (y1.2.2.2.2.2.2.2.1), .val (.sl (ci .nil) y1.2.2.2.2.2.2.2.2.1), .vi (y1.2.2.2.2.2.2.2.2.2.1), .val (.sl (ci .nil) y1.2.2.2.2.2.2.2.2.2.2.1), .vi (y1.2.2.2.2.2.2.2.2.2.2.2.1), .vi (y1.2.2.2.2.2.2.2.2.2.2.2.2.1), .val (.sl (ci .nil) y1.2.2.2.2.2.2.2.2.2.2.2.2.2.1), .vi (y1.2.2.2.2.2.2.2.2.2.2.2.2.2.2.1), .val (.bool y1.2.2.2.2.2.2.2.2.2.2.2.2.2.2.2.1)])]⟩
theorem Y7.r7 (x0:Z5)(x1:List Z0)(x2:Int)(x3:Int)(y1:ZQ)(aW:Bool):joinF Y7.E f128.ntmps [1,1,0] [] (codeOf f128) (Y7.kt x0 x1 x2 x3) (Y7.s7 x1 y1 aW)=Y7.g7 x1 y1 aW:=by kernel_rfl
theorem Y7.e7 (x0:Z5)(x1:List Z0)(x2:Int)(x3:Int)(y1:ZQ)(aW:Bool):jn (joinF Y7.E f128.ntmps [1,1,0] [] (codeOf f128) (Y7.kt x0 x1 x2 x3)) (Y7.s7 x1 y1 aW)=Y7.l7 x1 y1 aW:=by
 rw[jn_eq,Y7.r7]
 rfl
abbrev Y7.s (x0:Z5)(x1:List Z0)(x2:Int)(x3:Int):St:=⟨[(0, .v true (V.lsHead x0)),(1, .v false [.val (.sl V.eEntry x1)]),(2, .v false [.vi (x2)]),(3, .v false [.vi (x3)])],[]⟩
theorem Y7.v0 (x0:Z5)(x1:List Z0)(x2:Int)(x3:Int):V.evBody Y7.E Y7.con f128 (V.fl7 x0 x1 x2 x3)=evC Y7.E f128.ntmps (codeOf f128) (Y7.kt x0 x1 x2 x3) (Y7.s x0 x1 x2 x3):=by kernel_rfl
theorem Y7.v (x0:Z5)(x1:List Z0)(x2:Int)(x3:Int):evC Y7.E f128.ntmps (codeOf f128) (Y7.kt x0 x1 x2 x3) (Y7.s x0 x1 x2 x3)=Y7.b x0 x1 x2 x3 (λy1 aW=>jn (joinF Y7.E f128.ntmps [1,1,0] [] (codeOf f128) (Y7.kt x0 x1 x2 x3)) (Y7.s7 x1 y1 aW)):=by kernel_rfl
theorem Y7.eq (x0:Z5)(x1:List Z0)(x2:Int)(x3:Int):V.evBody Y7.E Y7.con f128 (V.fl7 x0 x1 x2 x3)=Y7 x0 x1 x2 x3:=by
 rw[Y7.v0,Y7.v]
 simp only[Y7.e7]
 rfl
theorem Y7.ok :V.Valid prog 128 Y7.con:=
 V.fo (tab_cons Y3.ok (tab_cons W9.ok (tab_cons Yz.ok (tab_cons Xu.ok tab_nil)))) func128 (by kernel_rfl) (λx y h=>(show V.evBody Y7.E Y7.con f128 x=_ from Y7.eq (V.p7_0 x) (V.p7_1 x) (V.p7_2 x) (V.p7_3 x)).trans (V.cfl (by kernel_rfl) h))
abbrev Q0.con :V.Con:=⟨(ci (.cons (.sl V.eEntry) .nil)),(.cons .bool .nil),λ(x:Int×List Z0)=>Q0 x.1 x.2,[],[(false,1),(false,1)],[(false,1)],[false],[]⟩
abbrev Q0.E :Env:=V.mkE V.tys [(74,Y3.con),(76,W9.con)] [] [] [] [] []
theorem Q0.eq (x0:Int)(x1:List Z0):V.evBody Q0.E Q0.con f37 ((x0,x1):Int×List Z0)=Q0 x0 x1:=by kernel_rfl
theorem Q0.ok :V.Valid prog 37 Q0.con:=
 V.fo (tab_cons Y3.ok (tab_cons W9.ok tab_nil)) func37 (by kernel_rfl) (λx y h=>(show V.evBody Q0.E Q0.con f37 x=_ from Q0.eq x.1 x.2).trans (V.cfl (by kernel_rfl) h))
abbrev Wi.con :V.Con:=⟨(.cons (.sl V.eSigned) (.cons (.sl V.eEntry) .nil)),(.cons .bool .nil),λ(x:List Z4×List Z0)=>Wi x,[],[(true,2)],[(false,1)],[false],[]⟩
abbrev Wi.E :Env:=V.mkE V.tys [(11,Xs.con),(37,Q0.con)] [] [] [] [] []
theorem Wi.eq (x0:Zm):V.evBody Wi.E Wi.con f9 ((x0.1,x0.2):List Z4×List Z0)=Wi x0:=by kernel_rfl
theorem Wi.ok :V.Valid prog 9 Wi.con:=
 V.fo (tab_cons Xs.ok (tab_cons Q0.ok tab_nil)) func9 (by kernel_rfl) (λx y h=>(show V.evBody Wi.E Wi.con f9 x=_ from Wi.eq x).trans (V.cfl (by kernel_rfl) h))
abbrev Xt.con :V.Con:=⟨V.A2,V.eSigned,λ(x:V.D2)=>Xt (V.p2_0 x),[],[(true,17)],[(true,17)],[false,false,false,false,false,false,false,false,true,false,true,false,false,true,false,false,true],[]⟩
abbrev Xt.E :Env:=V.mkE V.tys [(40,Xe.con)] [] [(1,6)] [] [] []
abbrev Xt.kt (x0:Z4):Kt Z4:=ktOf Xt.E Xt.con f70 (V.fl2 x0)
abbrev Xt.s (x0:Z4):St:=⟨[(0, .v true (V.lsSigned x0))],[]⟩
theorem Xt.v0 (x0:Z4):V.evBody Xt.E Xt.con f70 (V.fl2 x0)=evC Xt.E f70.ntmps (codeOf f70) (Xt.kt x0) (Xt.s x0):=by kernel_rfl
theorem Xt.v (x0:Z4):evC Xt.E f70.ntmps (codeOf f70) (Xt.kt x0) (Xt.s x0)=Xt x0:=by kernel_rfl
theorem Xt.eq (x0:Z4):V.evBody Xt.E Xt.con f70 (V.fl2 x0)=Xt x0:=(Xt.v0 x0).trans (Xt.v x0)
theorem Xt.ok :V.Valid prog 70 Xt.con:=
 V.fo (tab_cons Xe.ok tab_nil) func70 (by kernel_rfl) (λx y h=>(show V.evBody Xt.E Xt.con f70 x=_ from Xt.eq (V.p2_0 x)).trans (V.cfl (by kernel_rfl) h))
abbrev Yh.con :V.Con:=⟨(.cons (.sl V.eSigned) .nil),(.cons (.sl V.eSigned) .nil),λ(x:List Z4)=>Yh x,[],[(false,1)],[(false,1)],[true],[]⟩
abbrev Yh.E :Env:=V.mkE V.tys [(70,Xt.con)] [(6,[0,3,4],[(64000038400192,V.eSigned,true)])] [] [] [] []
abbrev Yh.kt (x0:List Z4):Kt (List Z4):=ktOf Yh.E Yh.con f33 ((x0):List Z4)
abbrev Yh.s6 (x0:List Z4)(aD:Int)(aA:List Z4):St:=⟨[(0, .v false [.val (.sl V.eSigned x0)]),(3, .v false [.ref 64000038400192]),(4, .v false [.vi (aD)])],[(64000038400192, .row V.eSigned true aA)]⟩
theorem Yh.r6 (x0:List Z4)(R:St->Option (List Z4))(aD:Int)(aA:List Z4):loopF Yh.E f33.ntmps [1,1,0,1,0] [] (codeOf f33) (Yh.kt x0) R (Yh.s6 x0 aD aA)=Yh.g6 x0 (λaD aA=>R (Yh.s6 x0 aD aA)) aD aA:=by kernel_rfl
theorem Yh.e6 (x0:List Z4):∀(n:Nat) (aD:Int) (aA:List Z4),loopN (loopF Yh.E f33.ntmps [1,1,0,1,0] [] (codeOf f33) (Yh.kt x0)) n (Yh.s6 x0 aD aA)=Yh.l6 x0 n aD aA:=by
 intro n
 induction n with
 |zero=>intros;rw[loopN_z];rfl
 |succ n ih=>
  intro aD aA
  rw[loopN_s,Yh.r6]
  simp only[ih]
  first|exact(Yh.u6 ..).symm|rfl
theorem Yh.v (x0:List Z4):V.evBody Yh.E Yh.con f33 ((x0):List Z4)=Yh.b x0 (λaD aA=>loopN (loopF Yh.E f33.ntmps [1,1,0,1,0] [] (codeOf f33) (Yh.kt x0)) V.KK (Yh.s6 x0 aD aA)):=by kernel_rfl
theorem Yh.eq (x0:List Z4):V.evBody Yh.E Yh.con f33 ((x0):List Z4)=Yh x0:=by
 rw[Yh.v]
 simp only[Yh.e6]
 rfl
theorem Yh.ok :V.Valid prog 33 Yh.con:=
 V.fo (tab_cons Xt.ok tab_nil) func33 (by kernel_rfl) (λx y h=>(show V.evBody Yh.E Yh.con f33 x=_ from Yh.eq x).trans (V.cfl (by kernel_rfl) h))
abbrev Uv.con :V.Con:=⟨(.cons (.sl V.eSigned) (.cons (.sl V.eEntry) .nil)),(.cons (.sl V.eSigned) (.cons (.sl V.eEntry) .nil)),λ(x:List Z4×List Z0)=>Uv x,[],[(true,2)],[(true,2)],[true,true],[]⟩
abbrev Uv.E :Env:=V.mkE V.tys [(33,Yh.con),(125,Yf.con)] [] [(1,5)] [] [] []
theorem Uv.eq (x0:Zm):V.evBody Uv.E Uv.con f168 ((x0.1,x0.2):List Z4×List Z0)=Uv x0:=by kernel_rfl
theorem Uv.ok :V.Valid prog 168 Uv.con:=
 V.fo (tab_cons Yh.ok (tab_cons Yf.ok tab_nil)) func168 (by kernel_rfl) (λx y h=>(show V.evBody Uv.E Uv.con f168 x=_ from Uv.eq x).trans (V.cfl (by kernel_rfl) h))
abbrev XR.con :V.Con:=⟨V.A8,V.eSigned,λ(x:V.D8)=>XR (V.p8_0 x) (V.p8_1 x) (V.p8_2 x),[],[(true,16),(true,16),(false,1)],[(true,17)],[false,false,false,false,false,false,false,false,true,false,true,false,false,true,false,false,true],[]⟩
abbrev XR.E :Env:=V.mkE V.tys [(124,X9.con)] [] [] [] [] []
abbrev XR.kt (x0:Z5)(x1:Z5)(x2:List Int):Kt Z4:=ktOf XR.E XR.con f169 (V.fl8 x0 x1 x2)
abbrev XR.s (x0:Z5)(x1:Z5)(x2:List Int):St:=⟨[(0, .v true (V.lsHead x0)),(1, .v true (V.lsHead x1)),(2, .v false [.val (.sl (ci .nil) x2)])],[]⟩
theorem XR.v0 (x0:Z5)(x1:Z5)(x2:List Int):V.evBody XR.E XR.con f169 (V.fl8 x0 x1 x2)=evC XR.E f169.ntmps (codeOf f169) (XR.kt x0 x1 x2) (XR.s x0 x1 x2):=by kernel_rfl
theorem XR.v (x0:Z5)(x1:Z5)(x2:List Int):evC XR.E f169.ntmps (codeOf f169) (XR.kt x0 x1 x2) (XR.s x0 x1 x2)=XR x0 x1 x2:=by kernel_rfl
theorem XR.eq (x0:Z5)(x1:Z5)(x2:List Int):V.evBody XR.E XR.con f169 (V.fl8 x0 x1 x2)=XR x0 x1 x2:=(XR.v0 x0 x1 x2).trans (XR.v x0 x1 x2)
theorem XR.ok :V.Valid prog 169 XR.con:=
 V.fo (tab_cons X9.ok tab_nil) func169 (by kernel_rfl) (λx y h=>(show V.evBody XR.E XR.con f169 x=_ from XR.eq (V.p8_0 x) (V.p8_1 x) (V.p8_2 x)).trans (V.cfl (by kernel_rfl) h))
abbrev Yr.con :V.Con:=⟨V.A9,(.cons (.sl V.eSigned) (ci .nil)),λ(x:V.D9)=>Yr (V.p9_0 x) (V.p9_1 x),[],[(false,1),(true,17)],[(false,1),(false,1)],[true,false],[]⟩
abbrev Yr.E :Env:=V.mkE V.tys [(11,Xs.con),(33,Yh.con),(70,Xt.con),(158,Zo.con)] [(7,[0,3,6,20],[])] [(7,3)] [] [] []
abbrev Yr.kt (x0:List Z4)(x1:Z4):Kt (List Z4×Int):=ktOf Yr.E Yr.con f136 (V.fl9 x0 x1)
abbrev Yr.s7 (x0:List Z4)(x1:Z4)(y1:ZQ)(aW:Bool):St:=⟨[(0, .v false [.val (.sl V.eSigned x0)]),(3, .v false [.ptr 64000 0]),(6, .v false [.ptr 128320 0]),(20, .v false [.val (.bool aW)])],[(64000, .box (V.lsSigned x1)),(128320, .box [.vi (y1.1), .vi (y1.2.1), .vi (y1.2.2.1), .vi (y1.2.2.2.1), .vi (y1.2.2.2.2.1), .vi (y1.2.2.2.2.2.1), .vi (y1.2.2.2.2.2.2.1), .vi (y1.2.2.2.2.2.2.2.1), .ref 64000000000008212488, .vi (y1.2.2.2.2.2.2.2.2.2.1), .ref 64000000000008212490, .vi (y1.2.2.2.2.2.2.2.2.2.2.2.1), .vi (y1.2.2.2.2.2.2.2.2.2.2.2.2.1), .ref 64000000000008212493, .vi (y1.2.2.2.2.2.2.2.2.2.2.2.2.2.2.1), .val (.bool y1.2.2.2.2.2.2.2.2.2.2.2.2.2.2.2.1)]),(64000000000008212488, .row (ci .nil) true y1.2.2.2.2.2.2.2.2.1),(64000000000008212490, .row (ci .nil) true y1.2.2.2.2.2.2.2.2.2.2.1),(64000000000008212493, .row (ci .nil) true y1.2.2.2.2.2.2.2.2.2.2.2.2.2.1)]⟩
theorem Yr.r7 (x0:List Z4)(x1:Z4)(y1:ZQ)(aW:Bool):joinF Yr.E f136.ntmps [1,1,0] [] (codeOf f136) (Yr.kt x0 x1) (Yr.s7 x0 x1 y1 aW)=Yr.g7 x0 x1 y1 aW:=by kernel_rfl
theorem Yr.e7 (x0:List Z4)(x1:Z4)(y1:ZQ)(aW:Bool):jn (joinF Yr.E f136.ntmps [1,1,0] [] (codeOf f136) (Yr.kt x0 x1)) (Yr.s7 x0 x1 y1 aW)=Yr.l7 x0 x1 y1 aW:=by
 rw[jn_eq,Yr.r7]
 rfl
abbrev Yr.s (x0:List Z4)(x1:Z4):St:=⟨[(0, .v false [.val (.sl V.eSigned x0)]),(1, .v true (V.lsSigned x1))],[]⟩
theorem Yr.v0 (x0:List Z4)(x1:Z4):V.evBody Yr.E Yr.con f136 (V.fl9 x0 x1)=evC Yr.E f136.ntmps (codeOf f136) (Yr.kt x0 x1) (Yr.s x0 x1):=by kernel_rfl
theorem Yr.v (x0:List Z4)(x1:Z4):evC Yr.E f136.ntmps (codeOf f136) (Yr.kt x0 x1) (Yr.s x0 x1)=Yr.b x0 x1 (λy1 aW=>jn (joinF Yr.E f136.ntmps [1,1,0] [] (codeOf f136) (Yr.kt x0 x1)) (Yr.s7 x0 x1 y1 aW)):=by kernel_rfl
theorem Yr.eq (x0:List Z4)(x1:Z4):V.evBody Yr.E Yr.con f136 (V.fl9 x0 x1)=Yr x0 x1:=by
 rw[Yr.v0,Yr.v]
 simp only[Yr.e7]
 rfl
theorem Yr.ok :V.Valid prog 136 Yr.con:=
 V.fo (tab_cons Xs.ok (tab_cons Yh.ok (tab_cons Xt.ok (tab_cons Zo.ok tab_nil)))) func136 (by kernel_rfl) (λx y h=>(show V.evBody Yr.E Yr.con f136 x=_ from Yr.eq (V.p9_0 x) (V.p9_1 x)).trans (V.cfl (by kernel_rfl) h))
abbrev XQ.con :V.Con:=⟨V.A10,(.cons (.sl V.eSigned) (.cons (.sl V.eEntry) (ci .nil))),λ(x:V.D10)=>XQ (V.p10_0 x) (V.p10_1 x) (V.p10_2 x) (V.p10_3 x),[],[(true,2),(false,1),(true,16),(false,1)],[(true,2),(false,1)],[true,true,false],[]⟩
abbrev XQ.E :Env:=V.mkE V.tys [(9,Wi.con),(11,Xs.con),(125,Yf.con),(136,Yr.con),(168,Uv.con),(169,XR.con)] [] [(4,10)] [] [] []
abbrev XQ.kt (x0:Zm)(x1:List Int)(x2:Z5)(x3:List Z0):Kt Z0f:=ktOf XQ.E XQ.con f129 (V.fl10 x0 x1 x2 x3)
abbrev XQ.s (x0:Zm)(x1:List Int)(x2:Z5)(x3:List Z0):St:=⟨[(0, .v true [.val (.sl V.eSigned x0.1), .val (.sl V.eEntry x0.2)]),(1, .v false [.val (.sl (ci .nil) x1)]),(2, .v true (V.lsHead x2)),(3, .v false [.val (.sl V.eEntry x3)])],[]⟩
theorem XQ.v0 (x0:Zm)(x1:List Int)(x2:Z5)(x3:List Z0):V.evBody XQ.E XQ.con f129 (V.fl10 x0 x1 x2 x3)=evC XQ.E f129.ntmps (codeOf f129) (XQ.kt x0 x1 x2 x3) (XQ.s x0 x1 x2 x3):=by kernel_rfl
theorem XQ.v (x0:Zm)(x1:List Int)(x2:Z5)(x3:List Z0):evC XQ.E f129.ntmps (codeOf f129) (XQ.kt x0 x1 x2 x3) (XQ.s x0 x1 x2 x3)=XQ x0 x1 x2 x3:=by kernel_rfl
theorem XQ.eq (x0:Zm)(x1:List Int)(x2:Z5)(x3:List Z0):V.evBody XQ.E XQ.con f129 (V.fl10 x0 x1 x2 x3)=XQ x0 x1 x2 x3:=(XQ.v0 x0 x1 x2 x3).trans (XQ.v x0 x1 x2 x3)
theorem XQ.ok :V.Valid prog 129 XQ.con:=
 V.fo (tab_cons Wi.ok (tab_cons Xs.ok (tab_cons Yf.ok (tab_cons Yr.ok (tab_cons Uv.ok (tab_cons XR.ok tab_nil)))))) func129 (by kernel_rfl) (λx y h=>(show V.evBody XQ.E XQ.con f129 x=_ from XQ.eq (V.p10_0 x) (V.p10_1 x) (V.p10_2 x) (V.p10_3 x)).trans (V.cfl (by kernel_rfl) h))
abbrev Zw.con :V.Con:=⟨(.cons (.ptr (.cons (.sl (.cons (.int .u8) .nil)) (ci (ci .nil)))) (.cons (.sl V.eSigned) (.cons (.sl V.eEntry) .nil))),(.cons (.ptr (.cons (.sl (.cons (.int .u8) .nil)) (ci (ci .nil)))) (.cons (.sl V.eSigned) (.cons (.sl V.eEntry) .nil))),λ(x:(Z3)×List Z4×List Z0)=>Zw x.1 x.2,[(0,false)],[(false,1),(true,2)],[(true,2)],[false,false],[]⟩
abbrev Zw.E :Env:=V.mkE V.tys [(11,Xs.con),(46,Zb.con),(54,W5.con),(86,ZS.con),(127,Zc.con),(128,Y7.con),(129,XQ.con)] [(19,[0,3,4,5,8,9],[(9,V.eEntry,false)]),(25,[0,3,4,5,8,9],[(8,(.cons .bool .nil),false)]),(27,[0,3,4,8,9,10],[])] [] [128128] [] [(9,[1000]),(12,[1000])]
abbrev Zw.kt (x0:(Z3))(x1:Zm):Kt ((Z3)×List Z4×List Z0):=ktOf Zw.E Zw.con f87 ((x0,x1.1,x1.2):(Z3)×List Z4×List Z0)
abbrev Zw.s27 (x0:(Z3))(x1:Zm)(bB:List Z0)(aT:Int)(bW:Int)(bR:Int)(bS:Int)(bT:Int)(bU:Int)(bV:Int)(bC:Int)(bD:Int)(bE:Int)(bX:List Int)(bY:Int)(bF:List Int)(bG:Int)(bZ:Int)(aU:List Int)(c7:Int)(c8:Bool)(eW:List Int):St:=⟨[(0, .v false [.ptr 0 0]),(3, .v false [.ptr 64000 0]),(4, .v false [.ptr 64064 0]),(8, .v false [.ptr 384128 0]),(9, .v false [.val (.sl V.eEntry bB)]),(10, .v false [.ref 64000172800640])],[(0, .box [.val (.sl (.cons (.int .u8) .nil) x0.1), .vi (aT), .vi (bW)]),(64000, .box [.val (.sl V.eSigned x1.1), .val (.sl V.eEntry x1.2)]),(64064, .box [.nil0, .nil0]),(384128, .box [.vi (bR), .vi (bS), .vi (bT), .vi (bU), .vi (bV), .vi (bC), .vi (bD), .vi (bE), .val (.sl (ci .nil) bX), .vi (bY), .val (.sl (ci .nil) bF), .vi (bG), .vi (bZ), .val (.sl (ci .nil) aU), .vi (c7), .val (.bool c8)]),(64000172800640, .row (ci .nil) true eW)]⟩
abbrev Zw.s25 (x0:(Z3))(x1:Zm)(y1:ZQ)(bB:List Z0)(aT:Int)(bW:Int)(bR:Int)(bS:Int)(bT:Int)(bU:Int)(bV:Int)(bC:Int)(bD:Int)(bE:Int)(bX:List Int)(bY:Int)(bF:List Int)(bG:Int)(bZ:Int)(aU:List Int)(c7:Int)(c8:Bool):St:=⟨[(0, .v false [.ptr 0 0]),(3, .v false [.ptr 64000 0]),(4, .v false [.ptr 64064 0]),(5, .v false [.ptr 128384 0]),(8, .v false [.ptr 384128 0]),(9, .v false [.val (.sl V.eEntry bB)])],[(0, .box [.val (.sl (.cons (.int .u8) .nil) x0.1), .vi (aT), .vi (bW)]),(64000, .box [.val (.sl V.eSigned x1.1), .val (.sl V.eEntry x1.2)]),(64064, .box [.nil0, .nil0]),(128384, .box [.vi (y1.1), .vi (y1.2.1), .vi (y1.2.2.1), .vi (y1.2.2.2.1), .vi (y1.2.2.2.2.1), .vi (y1.2.2.2.2.2.1), .vi (y1.2.2.2.2.2.2.1), .vi (y1.2.2.2.2.2.2.2.1), .val (.sl (ci .nil) y1.2.2.2.2.2.2.2.2.1), .vi (y1.2.2.2.2.2.2.2.2.2.1), .val (.sl (ci .nil) y1.2.2.2.2.2.2.2.2.2.2.1), .vi (y1.2.2.2.2.2.2.2.2.2.2.2.1), .vi (y1.2.2.2.2.2.2.2.2.2.2.2.2.1), .val (.sl (ci .nil) y1.2.2.2.2.2.2.2.2.2.2.2.2.2.1), .vi (y1.2.2.2.2.2.2.2.2.2.2.2.2.2.2.1), .val (.bool y1.2.2.2.2.2.2.2.2.2.2.2.2.2.2.2.1)]),(384128, .box [.vi (bR), .vi (bS), .vi (bT), .vi (bU), .vi (bV), .vi (bC), .vi (bD), .vi (bE), .val (.sl (ci .nil) bX), .vi (bY), .val (.sl (ci .nil) bF), .vi (bG), .vi (bZ), .val (.sl (ci .nil) aU), .vi (c7), .val (.bool c8)])]⟩
abbrev Zw.s19 (x0:(Z3))(x1:Zm)(y1:ZQ)(y2:(Z3)×Int×Int×Int×Int×Int×Int×Int×Int×List Int×Int×List Int×Int×Int×List Int×Int×Bool×List Z7)(y4:(Z3)×List Z0):St:=⟨[(0, .v false [.ptr 0 0]),(3, .v false [.ptr 64000 0]),(4, .v false [.ptr 64064 0]),(5, .v false [.ptr 128384 0]),(8, .v false [.ptr 384128 0]),(9, .v false [.val (.sl V.eEntry y4.2)])],[(0, .box [.val (.sl (.cons (.int .u8) .nil) x0.1), .vi (y4.1.2.1), .vi (y4.1.2.2)]),(64000, .box [.val (.sl V.eSigned x1.1), .val (.sl V.eEntry x1.2)]),(64064, .box [.nil0, .nil0]),(128384, .box [.vi (y1.1), .vi (y1.2.1), .vi (y1.2.2.1), .vi (y1.2.2.2.1), .vi (y1.2.2.2.2.1), .vi (y1.2.2.2.2.2.1), .vi (y1.2.2.2.2.2.2.1), .vi (y1.2.2.2.2.2.2.2.1), .val (.sl (ci .nil) y1.2.2.2.2.2.2.2.2.1), .vi (y1.2.2.2.2.2.2.2.2.2.1), .val (.sl (ci .nil) y1.2.2.2.2.2.2.2.2.2.2.1), .vi (y1.2.2.2.2.2.2.2.2.2.2.2.1), .vi (y1.2.2.2.2.2.2.2.2.2.2.2.2.1), .val (.sl (ci .nil) y1.2.2.2.2.2.2.2.2.2.2.2.2.2.1), .vi (y1.2.2.2.2.2.2.2.2.2.2.2.2.2.2.1), .val (.bool y1.2.2.2.2.2.2.2.2.2.2.2.2.2.2.2.1)]),(384128, .box [.vi (y2.2.1), .vi (y2.2.2.1), .vi (y2.2.2.2.1), .vi (y2.2.2.2.2.1), .vi (y2.2.2.2.2.2.1), .vi (y2.2.2.2.2.2.2.1), .vi (y2.2.2.2.2.2.2.2.1), .vi (y2.2.2.2.2.2.2.2.2.1), .ref 64000000000024584200, .vi (y2.2.2.2.2.2.2.2.2.2.2.1), .ref 64000000000024584202, .vi (y2.2.2.2.2.2.2.2.2.2.2.2.2.1), .vi (y2.2.2.2.2.2.2.2.2.2.2.2.2.2.1), .ref 64000000000024584205, .vi (y2.2.2.2.2.2.2.2.2.2.2.2.2.2.2.2.1), .val (.bool y2.2.2.2.2.2.2.2.2.2.2.2.2.2.2.2.2.1)]),(64000000000024584200, .row (ci .nil) true y2.2.2.2.2.2.2.2.2.2.1),(64000000000024584202, .row (ci .nil) true y2.2.2.2.2.2.2.2.2.2.2.2.1),(64000000000024584205, .row (ci .nil) true y2.2.2.2.2.2.2.2.2.2.2.2.2.2.2.1)]⟩
theorem Zw.r27 (x0:(Z3))(x1:Zm)(bB:List Z0)(aT:Int)(bR:Int)(bS:Int)(bT:Int)(bU:Int)(bV:Int)(bC:Int)(bD:Int)(bE:Int)(bW:Int)(bX:List Int)(bY:Int)(bF:List Int)(bG:Int)(bZ:Int)(aU:List Int)(c7:Int)(c8:Bool)(eW:List Int):joinF Zw.E f87.ntmps [1,1,1,1,1,1,1] [] (codeOf f87) (Zw.kt x0 x1) (Zw.s27 x0 x1 bB aT bW bR bS bT bU bV bC bD bE bX bY bF bG bZ aU c7 c8 eW)=Zw.g27 x0 x1 bB aT bW bR bS bT bU bV bC bD bE bX bY bF bG bZ aU c7 c8 eW:=by kernel_rfl
theorem Zw.e27 (x0:(Z3))(x1:Zm)(bB:List Z0)(aT:Int)(bR:Int)(bS:Int)(bT:Int)(bU:Int)(bV:Int)(bC:Int)(bD:Int)(bE:Int)(bW:Int)(bX:List Int)(bY:Int)(bF:List Int)(bG:Int)(bZ:Int)(aU:List Int)(c7:Int)(c8:Bool)(eW:List Int):jn (joinF Zw.E f87.ntmps [1,1,1,1,1,1,1] [] (codeOf f87) (Zw.kt x0 x1)) (Zw.s27 x0 x1 bB aT bW bR bS bT bU bV bC bD bE bX bY bF bG bZ aU c7 c8 eW)=Zw.l27 x0 x1 bB aT bW bR bS bT bU bV bC bD bE bX bY bF bG bZ aU c7 c8 eW:=by
 rw[jn_eq,Zw.r27]
 rfl
theorem Zw.r25 (x0:(Z3))(x1:Zm)(y1:ZQ)(bB:List Z0)(aT:Int)(bW:Int)(bR:Int)(bS:Int)(bT:Int)(bU:Int)(bV:Int)(bC:Int)(bD:Int)(bE:Int)(bX:List Int)(bY:Int)(bF:List Int)(bG:Int)(bZ:Int)(aU:List Int)(c7:Int)(c8:Bool):joinF Zw.E f87.ntmps [1,1,1,1,1,1] [] (codeOf f87) (Zw.kt x0 x1) (Zw.s25 x0 x1 y1 bB aT bW bR bS bT bU bV bC bD bE bX bY bF bG bZ aU c7 c8)=Zw.g25 x0 x1 y1 (λeW=>jn (joinF Zw.E f87.ntmps [1,1,1,1,1,1,1] [] (codeOf f87) (Zw.kt x0 x1)) (Zw.s27 x0 x1 bB aT bW bR bS bT bU bV bC bD bE bX bY bF bG bZ aU c7 c8 eW)) bB aT bW bR bS bT bU bV bC bD bE bX bY bF bG bZ aU c7 c8:=by kernel_rfl
theorem Zw.e25 (x0:(Z3))(x1:Zm)(y1:ZQ)(bB:List Z0)(aT:Int)(bW:Int)(bR:Int)(bS:Int)(bT:Int)(bU:Int)(bV:Int)(bC:Int)(bD:Int)(bE:Int)(bX:List Int)(bY:Int)(bF:List Int)(bG:Int)(bZ:Int)(aU:List Int)(c7:Int)(c8:Bool):jn (joinF Zw.E f87.ntmps [1,1,1,1,1,1] [] (codeOf f87) (Zw.kt x0 x1)) (Zw.s25 x0 x1 y1 bB aT bW bR bS bT bU bV bC bD bE bX bY bF bG bZ aU c7 c8)=Zw.l25 x0 x1 y1 bB aT bW bR bS bT bU bV bC bD bE bX bY bF bG bZ aU c7 c8:=by
 rw[jn_eq,Zw.r25]
 simp only[Zw.e27]
 rfl
theorem Zw.r19 (x0:(Z3))(x1:Zm)(y1:ZQ)(y2:(Z3)×Int×Int×Int×Int×Int×Int×Int×Int×List Int×Int×List Int×Int×Int×List Int×Int×Bool×List Z7)(y4:(Z3)×List Z0):joinF Zw.E f87.ntmps [1,1,1,1,1,1,0,1,0] [] (codeOf f87) (Zw.kt x0 x1) (Zw.s19 x0 x1 y1 y2 y4)=Zw.g19 x0 x1 y1 y2 y4 (λy1 bB aT bW bR bS bT bU bV bC bD bE bX bY bF bG bZ aU c7 c8=>jn (joinF Zw.E f87.ntmps [1,1,1,1,1,1] [] (codeOf f87) (Zw.kt x0 x1)) (Zw.s25 x0 x1 y1 bB aT bW bR bS bT bU bV bC bD bE bX bY bF bG bZ aU c7 c8)):=by kernel_rfl
theorem Zw.e19 (x0:(Z3))(x1:Zm)(y1:ZQ)(y2:(Z3)×Int×Int×Int×Int×Int×Int×Int×Int×List Int×Int×List Int×Int×Int×List Int×Int×Bool×List Z7)(y4:(Z3)×List Z0):jn (joinF Zw.E f87.ntmps [1,1,1,1,1,1,0,1,0] [] (codeOf f87) (Zw.kt x0 x1)) (Zw.s19 x0 x1 y1 y2 y4)=Zw.l19 x0 x1 y1 y2 y4:=by
 rw[jn_eq,Zw.r19]
 simp only[Zw.e25]
 rfl
theorem Zw.v (x0:(Z3))(x1:Zm):V.evBody Zw.E Zw.con f87 ((x0,x1.1,x1.2):(Z3)×List Z4×List Z0)=Zw.b x0 x1 (λy1 y2 y4=>jn (joinF Zw.E f87.ntmps [1,1,1,1,1,1,0,1,0] [] (codeOf f87) (Zw.kt x0 x1)) (Zw.s19 x0 x1 y1 y2 y4)) (λy1 bB aT bW bR bS bT bU bV bC bD bE bX bY bF bG bZ aU c7 c8=>jn (joinF Zw.E f87.ntmps [1,1,1,1,1,1] [] (codeOf f87) (Zw.kt x0 x1)) (Zw.s25 x0 x1 y1 bB aT bW bR bS bT bU bV bC bD bE bX bY bF bG bZ aU c7 c8)):=by kernel_rfl
theorem Zw.eq (x0:(Z3))(x1:Zm):V.evBody Zw.E Zw.con f87 ((x0,x1.1,x1.2):(Z3)×List Z4×List Z0)=Zw x0 x1:=by
 rw[Zw.v]
 simp only[Zw.e19,Zw.e25]
 rfl
theorem Zw.ok :V.Valid prog 87 Zw.con:=
 V.fo (tab_cons Xs.ok (tab_cons Zb.ok (tab_cons W5.ok (tab_cons ZS.ok (tab_cons Zc.ok (tab_cons Y7.ok (tab_cons XQ.ok tab_nil))))))) func87 (by kernel_rfl) (λx y h=>(show V.evBody Zw.E Zw.con f87 x=_ from Zw.eq x.1 x.2).trans (V.cfl (by kernel_rfl) h))
abbrev ZN.con :V.Con:=⟨(.cons (.ptr (.cons (.sl (.cons (.int .u8) .nil)) (ci (ci .nil)))) .nil),(.cons (.ptr (.cons (.sl (.cons (.int .u8) .nil)) (ci (ci .nil)))) (.cons (.sl V.eSigned) (.cons (.sl V.eEntry) .nil))),λ(x:(Z3))=>ZN x,[(0,false)],[(false,1)],[(true,2)],[false,false],[]⟩
abbrev ZN.E :Env:=V.mkE V.tys [(46,Zb.con),(84,ZT.con),(85,Xf.con),(86,ZS.con),(87,Zw.con)] [(7,[0,2,4],[]),(8,[0,2,4,6],[])] [] [192640] [] [(2,[1000])]
abbrev ZN.kt (x0:(Z3)):Kt ((Z3)×List Z4×List Z0):=ktOf ZN.E ZN.con f44 ((x0):(Z3))
abbrev ZN.s8 (x0:(Z3))(aO:Int)(aF:Int)(aM:Int)(aQ:List Z4)(cZ:List Z0):St:=⟨[(0, .v false [.ptr 0 0]),(2, .v false [.ptr 64000 0]),(4, .v false [.ptr 192896 0]),(6, .v false [.vi (aO)])],[(0, .box [.val (.sl (.cons (.int .u8) .nil) x0.1), .vi (aF), .vi (aM)]),(64000, .box [.nil0, .nil0]),(192896, .box [.val (.sl V.eSigned aQ), .val (.sl V.eEntry cZ)])]⟩
abbrev ZN.s7 (x0:(Z3))(aW:Int)(cD:Int)(fG:List Z4)(fH:List Z0):St:=⟨[(0, .v false [.ptr 0 0]),(2, .v false [.ptr 64000 0]),(4, .v false [.ptr 192896 0])],[(0, .box [.val (.sl (.cons (.int .u8) .nil) x0.1), .vi (aW), .vi (cD)]),(64000, .box [.nil0, .nil0]),(192896, .box [.val (.sl V.eSigned fG), .val (.sl V.eEntry fH)])]⟩
theorem ZN.r8 (x0:(Z3))(R:St->Option ((Z3)×List Z4×List Z0))(aO:Int)(aF:Int)(aM:Int)(aQ:List Z4)(cZ:List Z0):loopF ZN.E f44.ntmps [1,1,1,0,1,0] [] (codeOf f44) (ZN.kt x0) R (ZN.s8 x0 aO aF aM aQ cZ)=ZN.g8 x0 (λaO aF aM aQ cZ=>R (ZN.s8 x0 aO aF aM aQ cZ)) aO aF aM aQ cZ:=by kernel_rfl
theorem ZN.e8 (x0:(Z3)):∀(n:Nat) (aO:Int) (aF:Int) (aM:Int) (aQ:List Z4) (cZ:List Z0),loopN (loopF ZN.E f44.ntmps [1,1,1,0,1,0] [] (codeOf f44) (ZN.kt x0)) n (ZN.s8 x0 aO aF aM aQ cZ)=ZN.l8 x0 n aO aF aM aQ cZ:=by
 intro n
 induction n with
 |zero=>intros;rw[loopN_z];rfl
 |succ n ih=>
  intro aO aF aM aQ cZ
  rw[loopN_s,ZN.r8]
  simp only[ih]
  first|exact(ZN.u8 ..).symm|rfl
theorem ZN.r7 (x0:(Z3))(aW:Int)(cD:Int)(fG:List Z4)(fH:List Z0):joinF ZN.E f44.ntmps [1,1] [] (codeOf f44) (ZN.kt x0) (ZN.s7 x0 aW cD fG fH)=ZN.g7 x0 (λaO aF aM aQ cZ=>loopN (loopF ZN.E f44.ntmps [1,1,1,0,1,0] [] (codeOf f44) (ZN.kt x0)) V.KK (ZN.s8 x0 aO aF aM aQ cZ)) aW cD fG fH:=by kernel_rfl
theorem ZN.e7 (x0:(Z3))(aW:Int)(cD:Int)(fG:List Z4)(fH:List Z0):jn (joinF ZN.E f44.ntmps [1,1] [] (codeOf f44) (ZN.kt x0)) (ZN.s7 x0 aW cD fG fH)=ZN.l7 x0 aW cD fG fH:=by
 rw[jn_eq,ZN.r7]
 simp only[ZN.e8]
 rfl
theorem ZN.v (x0:(Z3)):V.evBody ZN.E ZN.con f44 ((x0):(Z3))=ZN.b x0 (λaW cD fG fH=>jn (joinF ZN.E f44.ntmps [1,1] [] (codeOf f44) (ZN.kt x0)) (ZN.s7 x0 aW cD fG fH)):=by kernel_rfl
theorem ZN.eq (x0:(Z3)):V.evBody ZN.E ZN.con f44 ((x0):(Z3))=ZN x0:=by
 rw[ZN.v]
 simp only[ZN.e7]
 rfl
theorem ZN.ok :V.Valid prog 44 ZN.con:=
 V.fo (tab_cons Zb.ok (tab_cons ZT.ok (tab_cons Xf.ok (tab_cons ZS.ok (tab_cons Zw.ok tab_nil))))) func44 (by kernel_rfl) (λx y h=>(show V.evBody ZN.E ZN.con f44 x=_ from ZN.eq x).trans (V.cfl (by kernel_rfl) h))
abbrev Xq.con :V.Con:=⟨(.cons (.ptr (.cons (.sl (.cons (.int .u8) .nil)) (ci (ci .nil)))) (.cons (.sl (ci .nil)) .nil)),(.cons (.ptr (.cons (.sl (.cons (.int .u8) .nil)) (ci (ci .nil)))) (ci .nil)),λ(x:(Z3)×List Int)=>Xq x.1 x.2,[(0,false)],[(false,1),(false,1)],[(false,1)],[false],[]⟩
abbrev Xq.E :Env:=V.mkE V.tys [(46,Zb.con)] [] [] [] [] []
theorem Xq.eq (x0:(Z3))(x1:List Int):V.evBody Xq.E Xq.con f130 ((x0,x1):(Z3)×List Int)=Xq x0 x1:=by kernel_rfl
theorem Xq.ok :V.Valid prog 130 Xq.con:=
 V.fo (tab_cons Zb.ok tab_nil) func130 (by kernel_rfl) (λx y h=>(show V.evBody Xq.E Xq.con f130 x=_ from Xq.eq x.1 x.2).trans (V.cfl (by kernel_rfl) h))
abbrev Wj.con :V.Con:=⟨(.cons (.ptr (.cons (.sl (.cons (.int .u8) .nil)) (ci (ci .nil)))) .nil),(.cons (.ptr (.cons (.sl (.cons (.int .u8) .nil)) (ci (ci .nil)))) (.cons .str .nil)),λ(x:(Z3))=>Wj x,[(0,false)],[(false,1)],[(false,1)],[false],[]⟩
abbrev Wj.E :Env:=V.mkE V.tys [(54,W5.con),(90,Wm.con),(92,WX.con)] [] [] [] [] []
theorem Wj.eq (x0:(Z3)):V.evBody Wj.E Wj.con f47 ((x0):(Z3))=Wj x0:=by kernel_rfl
theorem Wj.ok :V.Valid prog 47 Wj.con:=
 V.fo (tab_cons W5.ok (tab_cons Wm.ok (tab_cons WX.ok tab_nil))) func47 (by kernel_rfl) (λx y h=>(show V.evBody Wj.E Wj.con f47 x=_ from Wj.eq x).trans (V.cfl (by kernel_rfl) h))
abbrev Qb.con :V.Con:=⟨(.cons (.ptr (.cons (.sl (.cons (.int .u8) .nil)) (ci (ci .nil)))) .nil),(.cons (.ptr (.cons (.sl (.cons (.int .u8) .nil)) (ci (ci .nil)))) (.cons (.sl (.cons .str .nil)) .nil)),λ(x:(Z3))=>Qb x,[(0,false)],[(false,1)],[(false,1)],[true],[]⟩
abbrev Qb.E :Env:=V.mkE V.tys [(46,Zb.con),(47,Wj.con),(164,YB.con)] [] [] [] [] []
theorem Qb.eq (x0:(Z3)):V.evBody Qb.E Qb.con f134 ((x0):(Z3))=Qb x0:=by kernel_rfl
theorem Qb.ok :V.Valid prog 134 Qb.con:=
 V.fo (tab_cons Zb.ok (tab_cons Wj.ok (tab_cons YB.ok tab_nil))) func134 (by kernel_rfl) (λx y h=>(show V.evBody Qb.E Qb.con f134 x=_ from Qb.eq x).trans (V.cfl (by kernel_rfl) h))
abbrev Qc.con :V.Con:=⟨(.cons (.ptr (.cons (.sl (.cons (.int .u8) .nil)) (ci (ci .nil)))) .nil),(.cons (.ptr (.cons (.sl (.cons (.int .u8) .nil)) (ci (ci .nil)))) (.cons .str (ci (ci (.cons (.sl (.cons .str .nil)) .nil))))),λ(x:(Z3))=>Qc x,[(0,false)],[(false,1)],[(true,4)],[false,false,false,true],[]⟩
abbrev Qc.E :Env:=V.mkE V.tys [(46,Zb.con),(47,Wj.con),(126,Ue.con),(130,Xq.con),(134,Qb.con)] [] [] [] [] []
theorem Qc.eq (x0:(Z3)):V.evBody Qc.E Qc.con f97 ((x0):(Z3))=Qc x0:=by kernel_rfl
theorem Qc.ok :V.Valid prog 97 Qc.con:=
 V.fo (tab_cons Zb.ok (tab_cons Wj.ok (tab_cons Ue.ok (tab_cons Xq.ok (tab_cons Qb.ok tab_nil))))) func97 (by kernel_rfl) (λx y h=>(show V.evBody Qc.E Qc.con f97 x=_ from Qc.eq x).trans (V.cfl (by kernel_rfl) h))
abbrev YQ.con :V.Con:=⟨(.cons (.ptr (.cons (.sl (.cons (.int .u8) .nil)) (ci (ci .nil)))) .nil),(.cons (.ptr (.cons (.sl (.cons (.int .u8) .nil)) (ci (ci .nil)))) (.cons (.sl V.eEntry) .nil)),λ(x:(Z3))=>YQ x,[(0,false)],[(false,1)],[(false,1)],[true],[]⟩
abbrev YQ.E :Env:=V.mkE V.tys [(46,Zb.con),(86,ZS.con),(97,Qc.con),(98,Zg.con),(99,UE.con)] [(14,[0,3,19,20,21],[])] [] [] [] []
abbrev YQ.kt (x0:(Z3)):Kt ((Z3)×List Z0):=ktOf YQ.E YQ.con f52 ((x0):(Z3))
abbrev YQ.s14 (x0:(Z3))(y2:(Z3)×Int)(cW:Int)(cP:Int)(cX:List Z0)(cR:List ByteArray):St:=⟨[(0, .v false [.ptr 0 0]),(3, .v false [.ref 64000089600192]),(19, .v false [.ref 64000089601216]),(20, .v false [.vi (cW)]),(21, .v false [.vi (cP)])],[(0, .box [.val (.sl (.cons (.int .u8) .nil) x0.1), .vi (y2.1.2.1), .vi (y2.1.2.2)]),(64000089600192, .row V.eEntry true cX),(64000089601216, .row (.cons .str .nil) true cR)]⟩
theorem YQ.r14 (x0:(Z3))(y2:(Z3)×Int)(R:St->Option ((Z3)×List Z0))(cW:Int)(cP:Int)(cX:List Z0)(cR:List ByteArray):loopF YQ.E f52.ntmps [1,1,0,1,0,1,1,1,0,1,0] [] (codeOf f52) (YQ.kt x0) R (YQ.s14 x0 y2 cW cP cX cR)=YQ.g14 x0 y2 (λcW cP cX cR=>R (YQ.s14 x0 y2 cW cP cX cR)) cW cP cX cR:=by kernel_rfl
theorem YQ.e14 (x0:(Z3))(y2:(Z3)×Int):∀(n:Nat) (cW:Int) (cP:Int) (cX:List Z0) (cR:List ByteArray),loopN (loopF YQ.E f52.ntmps [1,1,0,1,0,1,1,1,0,1,0] [] (codeOf f52) (YQ.kt x0)) n (YQ.s14 x0 y2 cW cP cX cR)=YQ.l14 x0 y2 n cW cP cX cR:=by
 intro n
 induction n with
 |zero=>intros;rw[loopN_z];rfl
 |succ n ih=>
  intro cW cP cX cR
  rw[loopN_s,YQ.r14]
  simp only[ih]
  first|exact(YQ.u14 ..).symm|rfl
theorem YQ.v (x0:(Z3)):V.evBody YQ.E YQ.con f52 ((x0):(Z3))=YQ.b x0 (λy2 cW cP cX cR=>loopN (loopF YQ.E f52.ntmps [1,1,0,1,0,1,1,1,0,1,0] [] (codeOf f52) (YQ.kt x0)) V.KK (YQ.s14 x0 y2 cW cP cX cR)):=by kernel_rfl
theorem YQ.eq (x0:(Z3)):V.evBody YQ.E YQ.con f52 ((x0):(Z3))=YQ x0:=by
 rw[YQ.v]
 simp only[YQ.e14]
 rfl
theorem YQ.ok :V.Valid prog 52 YQ.con:=
 V.fo (tab_cons Zb.ok (tab_cons ZS.ok (tab_cons Qc.ok (tab_cons Zg.ok (tab_cons UE.ok tab_nil))))) func52 (by kernel_rfl) (λx y h=>(show V.evBody YQ.E YQ.con f52 x=_ from YQ.eq x).trans (V.cfl (by kernel_rfl) h))
abbrev ZV.con :V.Con:=⟨(.cons (.ptr (.cons (.sl (.cons (.int .u8) .nil)) (ci (ci .nil)))) .nil),(.cons (.ptr (.cons (.sl (.cons (.int .u8) .nil)) (ci (ci .nil)))) (ci (ci (ci (ci (ci (ci (ci (ci (.cons (.sl (ci .nil)) (ci (.cons (.sl (ci .nil)) (ci (ci (.cons (.sl (ci .nil)) (ci (.cons .bool (.cons (.sl (ci (ci .nil))) .nil)))))))))))))))))),λ(x:(Z3))=>ZV x,[(0,false)],[(false,1)],[(true,17)],[false,false,false,false,false,false,false,false,true,false,true,false,false,true,false,false,true],[]⟩
abbrev ZV.E :Env:=V.mkE V.tys [(46,Zb.con),(84,ZT.con),(86,ZS.con),(123,YM.con),(124,X9.con)] [(13,[0,2,3,7],[]),(25,[0,2,3,7],[])] [] [] [] [(5,[1000])]
abbrev ZV.kt (x0:(Z3)):Kt ((Z3)×Int×Int×Int×Int×Int×Int×Int×Int×List Int×Int×List Int×Int×Int×List Int×Int×Bool×List Z7):=ktOf ZV.E ZV.con f135 ((x0):(Z3))
abbrev ZV.s25 (x0:(Z3))(cG:Int)(cH:Int)(cI:Int)(cJ:Int)(cK:Int)(cL:Int)(cM:Int)(bJ:Int)(bK:Int)(bL:Bool)(cN:List Int)(y1:(Z3)×List Int×Int)(c9:Int)(aT:Int)(bC:Int)(bD:Int)(bE:Int)(bF:List Int)(bG:List Int):St:=⟨[(0, .v false [.ptr 0 0]),(2, .v false [.ptr 64000 0]),(3, .v false [.ptr 128128 0]),(7, .v false [.ptr 384640 0])],[(0, .box [.val (.sl (.cons (.int .u8) .nil) x0.1), .vi (c9), .vi (aT)]),(64000, .box [.vi ((0:Int)), .vi ((0:Int)), .vi ((0:Int)), .vi ((0:Int)), .vi ((0:Int)), .vi ((0:Int)), .vi ((0:Int)), .vi ((0:Int)), .nil0, .vi ((0:Int)), .nil0, .vi ((0:Int)), .vi ((0:Int)), .nil0, .vi ((0:Int)), .val (.bool false), .nil0]),(128128, .box [.ref 64000000000008200192, .vi (y1.2.2)]),(64000000000008200192, .row (ci .nil) true y1.2.1),(384640, .box [.vi (cG), .vi (cH), .vi (cI), .vi (cJ), .vi (cK), .vi (cL), .vi (cM), .vi (bJ), .ref 64000000000024616968, .vi (bK), .ref 64000000000024616970, .vi (bC), .vi (bD), .ref 64000000000024616973, .vi (bE), .val (.bool bL)]),(64000000000024616968, .row (ci .nil) true cN),(64000000000024616970, .row (ci .nil) true bF),(64000000000024616973, .row (ci .nil) true bG)]⟩
abbrev ZV.s13 (x0:(Z3))(y1:(Z3)×List Int×Int)(bH:Int)(bI:Int)(cG:Int)(cH:Int)(cI:Int)(cJ:Int)(cK:Int)(cL:Int)(cM:Int)(bJ:Int)(bK:Int)(dM:Int)(dN:Int)(dO:Int)(bL:Bool)(cN:List Int)(dP:List Int)(dQ:List Int):St:=⟨[(0, .v false [.ptr 0 0]),(2, .v false [.ptr 64000 0]),(3, .v false [.ptr 128128 0]),(7, .v false [.ptr 384640 0])],[(0, .box [.val (.sl (.cons (.int .u8) .nil) x0.1), .vi (bH), .vi (bI)]),(64000, .box [.vi ((0:Int)), .vi ((0:Int)), .vi ((0:Int)), .vi ((0:Int)), .vi ((0:Int)), .vi ((0:Int)), .vi ((0:Int)), .vi ((0:Int)), .nil0, .vi ((0:Int)), .nil0, .vi ((0:Int)), .vi ((0:Int)), .nil0, .vi ((0:Int)), .val (.bool false), .nil0]),(128128, .box [.ref 64000000000008200192, .vi (y1.2.2)]),(64000000000008200192, .row (ci .nil) true y1.2.1),(384640, .box [.vi (cG), .vi (cH), .vi (cI), .vi (cJ), .vi (cK), .vi (cL), .vi (cM), .vi (bJ), .ref 64000000000024616968, .vi (bK), .ref 64000000000024616970, .vi (dM), .vi (dN), .ref 64000000000024616973, .vi (dO), .val (.bool bL)]),(64000000000024616968, .row (ci .nil) true cN),(64000000000024616970, .row (ci .nil) true dP),(64000000000024616973, .row (ci .nil) true dQ)]⟩
theorem ZV.r25 (x0:(Z3))(cG:Int)(cH:Int)(cI:Int)(cJ:Int)(cK:Int)(cL:Int)(cM:Int)(bJ:Int)(bK:Int)(bL:Bool)(cN:List Int)(y1:(Z3)×List Int×Int)(c9:Int)(aT:Int)(bC:Int)(bD:Int)(bE:Int)(bF:List Int)(bG:List Int):joinF ZV.E f135.ntmps [1,1,1,1,1,1] [] (codeOf f135) (ZV.kt x0) (ZV.s25 x0 cG cH cI cJ cK cL cM bJ bK bL cN y1 c9 aT bC bD bE bF bG)=ZV.g25 x0 cG cH cI cJ cK cL cM bJ bK bL cN y1 c9 aT bC bD bE bF bG:=by kernel_rfl
theorem ZV.e25 (x0:(Z3))(cG:Int)(cH:Int)(cI:Int)(cJ:Int)(cK:Int)(cL:Int)(cM:Int)(bJ:Int)(bK:Int)(bL:Bool)(cN:List Int)(y1:(Z3)×List Int×Int)(c9:Int)(aT:Int)(bC:Int)(bD:Int)(bE:Int)(bF:List Int)(bG:List Int):jn (joinF ZV.E f135.ntmps [1,1,1,1,1,1] [] (codeOf f135) (ZV.kt x0)) (ZV.s25 x0 cG cH cI cJ cK cL cM bJ bK bL cN y1 c9 aT bC bD bE bF bG)=ZV.l25 x0 cG cH cI cJ cK cL cM bJ bK bL cN y1 c9 aT bC bD bE bF bG:=by
 rw[jn_eq,ZV.r25]
 rfl
theorem ZV.r13 (x0:(Z3))(y1:(Z3)×List Int×Int)(bH:Int)(bI:Int)(cG:Int)(cH:Int)(cI:Int)(cJ:Int)(cK:Int)(cL:Int)(cM:Int)(bJ:Int)(bK:Int)(dM:Int)(dN:Int)(dO:Int)(bL:Bool)(cN:List Int)(dP:List Int)(dQ:List Int):joinF ZV.E f135.ntmps [1,1,1,1,1] [] (codeOf f135) (ZV.kt x0) (ZV.s13 x0 y1 bH bI cG cH cI cJ cK cL cM bJ bK dM dN dO bL cN dP dQ)=ZV.g13 x0 y1 (λy1 c9 aT bC bD bE bF bG=>jn (joinF ZV.E f135.ntmps [1,1,1,1,1,1] [] (codeOf f135) (ZV.kt x0)) (ZV.s25 x0 cG cH cI cJ cK cL cM bJ bK bL cN y1 c9 aT bC bD bE bF bG)) bH bI cG cH cI cJ cK cL cM bJ bK dM dN dO bL cN dP dQ:=by kernel_rfl
theorem ZV.e13 (x0:(Z3))(y1:(Z3)×List Int×Int)(bH:Int)(bI:Int)(cG:Int)(cH:Int)(cI:Int)(cJ:Int)(cK:Int)(cL:Int)(cM:Int)(bJ:Int)(bK:Int)(dM:Int)(dN:Int)(dO:Int)(bL:Bool)(cN:List Int)(dP:List Int)(dQ:List Int):jn (joinF ZV.E f135.ntmps [1,1,1,1,1] [] (codeOf f135) (ZV.kt x0)) (ZV.s13 x0 y1 bH bI cG cH cI cJ cK cL cM bJ bK dM dN dO bL cN dP dQ)=ZV.l13 x0 y1 bH bI cG cH cI cJ cK cL cM bJ bK dM dN dO bL cN dP dQ:=by
 rw[jn_eq,ZV.r13]
 simp only[ZV.e25]
 rfl
theorem ZV.v (x0:(Z3)):V.evBody ZV.E ZV.con f135 ((x0):(Z3))=ZV.b x0 (λy1 bH bI cG cH cI cJ cK cL cM bJ bK dM dN dO bL cN dP dQ=>jn (joinF ZV.E f135.ntmps [1,1,1,1,1] [] (codeOf f135) (ZV.kt x0)) (ZV.s13 x0 y1 bH bI cG cH cI cJ cK cL cM bJ bK dM dN dO bL cN dP dQ)):=by kernel_rfl
theorem ZV.eq (x0:(Z3)):V.evBody ZV.E ZV.con f135 ((x0):(Z3))=ZV x0:=by
 rw[ZV.v]
 simp only[ZV.e13]
 rfl
theorem ZV.ok :V.Valid prog 135 ZV.con:=
 V.fo (tab_cons Zb.ok (tab_cons ZT.ok (tab_cons ZS.ok (tab_cons YM.ok (tab_cons X9.ok tab_nil))))) func135 (by kernel_rfl) (λx y h=>(show V.evBody ZV.E ZV.con f135 x=_ from ZV.eq x).trans (V.cfl (by kernel_rfl) h))
abbrev YO.con :V.Con:=⟨(.cons (.ptr (.cons (.sl (.cons (.int .u8) .nil)) (ci (ci .nil)))) .nil),(.cons (.ptr (.cons (.sl (.cons (.int .u8) .nil)) (ci (ci .nil)))) (.cons (.sl V.eSigned) .nil)),λ(x:(Z3))=>YO x,[(0,false)],[(false,1)],[(false,1)],[true],[]⟩
abbrev YO.E :Env:=V.mkE V.tys [(46,Zb.con),(127,Zc.con),(135,ZV.con),(136,Yr.con)] [(6,[0,3,4],[])] [] [] [] []
abbrev YO.kt (x0:(Z3)):Kt ((Z3)×List Z4):=ktOf YO.E YO.con f100 ((x0):(Z3))
abbrev YO.s6 (x0:(Z3))(aI:Int)(aA:Int)(aE:Int)(aK:List Z4):St:=⟨[(0, .v false [.ptr 0 0]),(3, .v false [.ref 64000038400192]),(4, .v false [.vi (aI)])],[(0, .box [.val (.sl (.cons (.int .u8) .nil) x0.1), .vi (aA), .vi (aE)]),(64000038400192, .row V.eSigned true aK)]⟩
theorem YO.r6 (x0:(Z3))(R:St->Option ((Z3)×List Z4))(aI:Int)(aA:Int)(aE:Int)(aK:List Z4):loopF YO.E f100.ntmps [1,1,0,1,0] [] (codeOf f100) (YO.kt x0) R (YO.s6 x0 aI aA aE aK)=YO.g6 x0 (λaI aA aE aK=>R (YO.s6 x0 aI aA aE aK)) aI aA aE aK:=by kernel_rfl
theorem YO.e6 (x0:(Z3)):∀(n:Nat) (aI:Int) (aA:Int) (aE:Int) (aK:List Z4),loopN (loopF YO.E f100.ntmps [1,1,0,1,0] [] (codeOf f100) (YO.kt x0)) n (YO.s6 x0 aI aA aE aK)=YO.l6 x0 n aI aA aE aK:=by
 intro n
 induction n with
 |zero=>intros;rw[loopN_z];rfl
 |succ n ih=>
  intro aI aA aE aK
  rw[loopN_s,YO.r6]
  simp only[ih]
  first|exact(YO.u6 ..).symm|rfl
theorem YO.v (x0:(Z3)):V.evBody YO.E YO.con f100 ((x0):(Z3))=YO.b x0 (λaI aA aE aK=>loopN (loopF YO.E f100.ntmps [1,1,0,1,0] [] (codeOf f100) (YO.kt x0)) V.KK (YO.s6 x0 aI aA aE aK)):=by kernel_rfl
theorem YO.eq (x0:(Z3)):V.evBody YO.E YO.con f100 ((x0):(Z3))=YO x0:=by
 rw[YO.v]
 simp only[YO.e6]
 rfl
theorem YO.ok :V.Valid prog 100 YO.con:=
 V.fo (tab_cons Zb.ok (tab_cons Zc.ok (tab_cons ZV.ok (tab_cons Yr.ok tab_nil)))) func100 (by kernel_rfl) (λx y h=>(show V.evBody YO.E YO.con f100 x=_ from YO.eq x).trans (V.cfl (by kernel_rfl) h))
abbrev Y6.con :V.Con:=⟨(.cons (.ptr (.cons (.sl (.cons (.int .u8) .nil)) (ci (ci .nil)))) .nil),(.cons (.ptr (.cons (.sl (.cons (.int .u8) .nil)) (ci (ci .nil)))) (ci (ci (ci (ci (ci (ci (ci (ci (.cons (.sl (ci .nil)) (ci (.cons (.sl (ci .nil)) (ci (ci (.cons (.sl (ci .nil)) (ci (.cons .bool .nil))))))))))))))))),λ(x:(Z3))=>Y6 x,[(0,false)],[(false,1)],[(true,16)],[false,false,false,false,false,false,false,false,true,false,true,false,false,true,false,false],[]⟩
abbrev Y6.E :Env:=V.mkE V.tys [(46,Zb.con),(54,W5.con),(84,ZT.con)] [(7,[0,2,3],[]),(13,[0,2,3],[(64000000000008265738,(ci .nil),true)])] [] [] [] [(2,[1000])]
abbrev Y6.kt (x0:(Z3)):Kt ((Z3)×Int×Int×Int×Int×Int×Int×Int×Int×List Int×Int×List Int×Int×Int×List Int×Int×Bool):=ktOf Y6.E Y6.con f172 ((x0):(Z3))
abbrev Y6.s13 (x0:(Z3))(cC:Int)(cE:Int)(y1:(Z3)×Int)(y2:(Z3)×Int)(y4:(Z3)×Int)(y5:(Z3)×Int)(y6:(Z3)×Int)(y7:(Z3)×Int)(y8:(Z3)×List Int×Int)(bH:Int)(bI:Int)(bJ:Int)(bK:Int)(bL:List Int):St:=⟨[(0, .v false [.ptr 0 0]),(2, .v false [.ptr 64000 0]),(3, .v false [.ptr 129152 0])],[(0, .box [.val (.sl (.cons (.int .u8) .nil) x0.1), .vi (bH), .vi (bI)]),(64000, .box [.vi ((0:Int)), .vi ((0:Int)), .vi ((0:Int)), .vi ((0:Int)), .vi ((0:Int)), .vi ((0:Int)), .vi ((0:Int)), .vi ((0:Int)), .nil0, .vi ((0:Int)), .nil0, .vi ((0:Int)), .vi ((0:Int)), .nil0, .vi ((0:Int)), .val (.bool false)]),(129152, .box [.vi (y1.2), .vi (y2.2), .vi (cC), .vi (y4.2), .vi (cE), .vi (y7.2), .vi (y5.2), .vi (y6.2), .ref 64000000000008265736, .vi (y8.2.2), .ref 64000000000008265738, .vi (bJ), .vi (bK), .nil0, .vi ((0:Int)), .val (.bool false)]),(64000000000008265736, .row (ci .nil) true y8.2.1),(64000000000008265738, .row (ci .nil) true bL)]⟩
abbrev Y6.s7 (x0:(Z3))(y1:(Z3)×Int)(y2:(Z3)×Int)(y4:(Z3)×Int)(y5:(Z3)×Int)(y6:(Z3)×Int)(y7:(Z3)×Int)(y8:(Z3)×List Int×Int)(aW:Int)(cD:Int)(cC:Int)(cE:Int):St:=⟨[(0, .v false [.ptr 0 0]),(2, .v false [.ptr 64000 0]),(3, .v false [.ptr 129152 0])],[(0, .box [.val (.sl (.cons (.int .u8) .nil) x0.1), .vi (aW), .vi (cD)]),(64000, .box [.vi ((0:Int)), .vi ((0:Int)), .vi ((0:Int)), .vi ((0:Int)), .vi ((0:Int)), .vi ((0:Int)), .vi ((0:Int)), .vi ((0:Int)), .nil0, .vi ((0:Int)), .nil0, .vi ((0:Int)), .vi ((0:Int)), .nil0, .vi ((0:Int)), .val (.bool false)]),(129152, .box [.vi (y1.2), .vi (y2.2), .vi (cC), .vi (y4.2), .vi (cE), .vi (y7.2), .vi (y5.2), .vi (y6.2), .ref 64000000000008265736, .vi (y8.2.2), .nil0, .vi ((0:Int)), .vi ((0:Int)), .nil0, .vi ((0:Int)), .val (.bool false)]),(64000000000008265736, .row (ci .nil) true y8.2.1)]⟩
theorem Y6.r13 (x0:(Z3))(cC:Int)(cE:Int)(y1:(Z3)×Int)(y2:(Z3)×Int)(y4:(Z3)×Int)(y5:(Z3)×Int)(y6:(Z3)×Int)(y7:(Z3)×Int)(y8:(Z3)×List Int×Int)(bH:Int)(bI:Int)(bJ:Int)(bK:Int)(bL:List Int):joinF Y6.E f172.ntmps [1,1,1] [] (codeOf f172) (Y6.kt x0) (Y6.s13 x0 cC cE y1 y2 y4 y5 y6 y7 y8 bH bI bJ bK bL)=Y6.g13 x0 cC cE y1 y2 y4 y5 y6 y7 y8 bH bI bJ bK bL:=by kernel_rfl
theorem Y6.e13 (x0:(Z3))(cC:Int)(cE:Int)(y1:(Z3)×Int)(y2:(Z3)×Int)(y4:(Z3)×Int)(y5:(Z3)×Int)(y6:(Z3)×Int)(y7:(Z3)×Int)(y8:(Z3)×List Int×Int)(bH:Int)(bI:Int)(bJ:Int)(bK:Int)(bL:List Int):jn (joinF Y6.E f172.ntmps [1,1,1] [] (codeOf f172) (Y6.kt x0)) (Y6.s13 x0 cC cE y1 y2 y4 y5 y6 y7 y8 bH bI bJ bK bL)=Y6.l13 x0 cC cE y1 y2 y4 y5 y6 y7 y8 bH bI bJ bK bL:=by
 rw[jn_eq,Y6.r13]
 rfl
theorem Y6.r7 (x0:(Z3))(y1:(Z3)×Int)(y2:(Z3)×Int)(y4:(Z3)×Int)(y5:(Z3)×Int)(y6:(Z3)×Int)(y7:(Z3)×Int)(y8:(Z3)×List Int×Int)(aW:Int)(cD:Int)(cC:Int)(cE:Int):joinF Y6.E f172.ntmps [1,1] [] (codeOf f172) (Y6.kt x0) (Y6.s7 x0 y1 y2 y4 y5 y6 y7 y8 aW cD cC cE)=Y6.g7 x0 y1 y2 y4 y5 y6 y7 y8 (λy1 y2 y4 y5 y6 y7 y8 bH bI bJ bK bL=>jn (joinF Y6.E f172.ntmps [1,1,1] [] (codeOf f172) (Y6.kt x0)) (Y6.s13 x0 cC cE y1 y2 y4 y5 y6 y7 y8 bH bI bJ bK bL)) aW cD cC cE:=by kernel_rfl
theorem Y6.e7 (x0:(Z3))(y1:(Z3)×Int)(y2:(Z3)×Int)(y4:(Z3)×Int)(y5:(Z3)×Int)(y6:(Z3)×Int)(y7:(Z3)×Int)(y8:(Z3)×List Int×Int)(aW:Int)(cD:Int)(cC:Int)(cE:Int):jn (joinF Y6.E f172.ntmps [1,1] [] (codeOf f172) (Y6.kt x0)) (Y6.s7 x0 y1 y2 y4 y5 y6 y7 y8 aW cD cC cE)=Y6.l7 x0 y1 y2 y4 y5 y6 y7 y8 aW cD cC cE:=by
 rw[jn_eq,Y6.r7]
 simp only[Y6.e13]
 rfl
theorem Y6.v (x0:(Z3)):V.evBody Y6.E Y6.con f172 ((x0):(Z3))=Y6.b x0 (λy1 y2 y4 y5 y6 y7 y8 aW cD cC cE=>jn (joinF Y6.E f172.ntmps [1,1] [] (codeOf f172) (Y6.kt x0)) (Y6.s7 x0 y1 y2 y4 y5 y6 y7 y8 aW cD cC cE)):=by kernel_rfl
theorem Y6.eq (x0:(Z3)):V.evBody Y6.E Y6.con f172 ((x0):(Z3))=Y6 x0:=by
 rw[Y6.v]
 simp only[Y6.e7]
 rfl
theorem Y6.ok :V.Valid prog 172 Y6.con:=
 V.fo (tab_cons Zb.ok (tab_cons W5.ok (tab_cons ZT.ok tab_nil))) func172 (by kernel_rfl) (λx y h=>(show V.evBody Y6.E Y6.con f172 x=_ from Y6.eq x).trans (V.cfl (by kernel_rfl) h))
abbrev UF.con :V.Con:=⟨(.cons (.ptr (.cons (.sl (.cons (.int .u8) .nil)) (ci (ci .nil)))) .nil),(.cons (.ptr (.cons (.sl (.cons (.int .u8) .nil)) (ci (ci .nil)))) (.cons (.sl (ci .nil)) (ci .nil))),λ(x:(Z3))=>UF x,[(0,false)],[(false,1)],[(true,2)],[true,false],[]⟩
abbrev UF.E :Env:=V.mkE V.tys [(46,Zb.con),(84,ZT.con),(130,Xq.con)] [] [] [] [] [(6,[1000])]
theorem UF.eq (x0:(Z3)):V.evBody UF.E UF.con f173 ((x0):(Z3))=UF x0:=by kernel_rfl
theorem UF.ok :V.Valid prog 173 UF.con:=
 V.fo (tab_cons Zb.ok (tab_cons ZT.ok (tab_cons Xq.ok tab_nil))) func173 (by kernel_rfl) (λx y h=>(show V.evBody UF.E UF.con f173 x=_ from UF.eq x).trans (V.cfl (by kernel_rfl) h))
abbrev Q7.con :V.Con:=⟨(.cons (.ptr (.cons (.sl (.cons (.int .u8) .nil)) (ci (ci .nil)))) .nil),(.cons (.ptr (.cons (.sl (.cons (.int .u8) .nil)) (ci (ci .nil)))) (ci (ci (ci (ci (ci (ci (ci (ci (.cons (.sl (ci .nil)) (ci (.cons (.sl (ci .nil)) (ci (ci (.cons (.sl (ci .nil)) (ci (.cons .bool .nil))))))))))))))))),λ(x:(Z3))=>Q7 x,[(0,false)],[(false,1)],[(true,16)],[false,false,false,false,false,false,false,false,true,false,true,false,false,true,false,false],[]⟩
abbrev Q7.E :Env:=V.mkE V.tys [(46,Zb.con),(130,Xq.con),(172,Y6.con),(173,UF.con)] [] [] [] [] []
theorem Q7.eq (x0:(Z3)):V.evBody Q7.E Q7.con f137 ((x0):(Z3))=Q7 x0:=by kernel_rfl
theorem Q7.ok :V.Valid prog 137 Q7.con:=
 V.fo (tab_cons Zb.ok (tab_cons Xq.ok (tab_cons Y6.ok (tab_cons UF.ok tab_nil)))) func137 (by kernel_rfl) (λx y h=>(show V.evBody Q7.E Q7.con f137 x=_ from Q7.eq x).trans (V.cfl (by kernel_rfl) h))
abbrev YP.con :V.Con:=⟨(.cons (.ptr (.cons (.sl (.cons (.int .u8) .nil)) (ci (ci .nil)))) .nil),(.cons (.ptr (.cons (.sl (.cons (.int .u8) .nil)) (ci (ci .nil)))) (.cons (.sl (ci .nil)) .nil)),λ(x:(Z3))=>YP x,[(0,false)],[(false,1)],[(false,1)],[true],[]⟩
abbrev YP.E :Env:=V.mkE V.tys [(46,Zb.con)] [(6,[0,3,4],[(64000038400192,(ci .nil),true)])] [] [] [] []
abbrev YP.kt (x0:(Z3)):Kt ((Z3)×List Int):=ktOf YP.E YP.con f174 ((x0):(Z3))
abbrev YP.s6 (x0:(Z3))(aI:Int)(aA:Int)(aE:Int)(aK:List Int):St:=⟨[(0, .v false [.ptr 0 0]),(3, .v false [.ref 64000038400192]),(4, .v false [.vi (aI)])],[(0, .box [.val (.sl (.cons (.int .u8) .nil) x0.1), .vi (aA), .vi (aE)]),(64000038400192, .row (ci .nil) true aK)]⟩
theorem YP.r6 (x0:(Z3))(R:St->Option ((Z3)×List Int))(aI:Int)(aA:Int)(aE:Int)(aK:List Int):loopF YP.E f174.ntmps [1,1,0,1,0] [] (codeOf f174) (YP.kt x0) R (YP.s6 x0 aI aA aE aK)=YP.g6 x0 (λaI aA aE aK=>R (YP.s6 x0 aI aA aE aK)) aI aA aE aK:=by kernel_rfl
theorem YP.e6 (x0:(Z3)):∀(n:Nat) (aI:Int) (aA:Int) (aE:Int) (aK:List Int),loopN (loopF YP.E f174.ntmps [1,1,0,1,0] [] (codeOf f174) (YP.kt x0)) n (YP.s6 x0 aI aA aE aK)=YP.l6 x0 n aI aA aE aK:=by
 intro n
 induction n with
 |zero=>intros;rw[loopN_z];rfl
 |succ n ih=>
  intro aI aA aE aK
  rw[loopN_s,YP.r6]
  simp only[ih]
  first|exact(YP.u6 ..).symm|rfl
theorem YP.v (x0:(Z3)):V.evBody YP.E YP.con f174 ((x0):(Z3))=YP.b x0 (λaI aA aE aK=>loopN (loopF YP.E f174.ntmps [1,1,0,1,0] [] (codeOf f174) (YP.kt x0)) V.KK (YP.s6 x0 aI aA aE aK)):=by kernel_rfl
theorem YP.eq (x0:(Z3)):V.evBody YP.E YP.con f174 ((x0):(Z3))=YP x0:=by
 rw[YP.v]
 simp only[YP.e6]
 rfl
theorem YP.ok :V.Valid prog 174 YP.con:=
 V.fo (tab_cons Zb.ok tab_nil) func174 (by kernel_rfl) (λx y h=>(show V.evBody YP.E YP.con f174 x=_ from YP.eq x).trans (V.cfl (by kernel_rfl) h))
abbrev Xa.con :V.Con:=⟨(.cons (.ptr (.cons (.sl (.cons (.int .u8) .nil)) (ci (ci .nil)))) (.cons (.sl (ci .nil)) (ci (.cons (.sl (ci .nil)) .nil)))),(.cons (.ptr (.cons (.sl (.cons (.int .u8) .nil)) (ci (ci .nil)))) (.cons (.sl (ci (ci .nil))) .nil)),λ(x:(Z3)×List Int×Int×List Int)=>Xa x.1 (x.2.1,x.2.2.1) x.2.2.2,[(0,false)],[(false,1),(true,2),(false,1)],[(false,1)],[true],[]⟩
abbrev Xa.E :Env:=V.mkE V.tys [(46,Zb.con),(130,Xq.con),(161,Ym.con),(174,YP.con)] [(5,[0,7],[])] [] [] [] [(1,[1000])]
abbrev Xa.kt (x0:(Z3))(x1:Za)(x2:List Int):Kt ((Z3)×List Z7):=ktOf Xa.E Xa.con f138 ((x0,x1.1,x1.2,x2):(Z3)×List Int×Int×List Int)
abbrev Xa.s5 (x0:(Z3))(fD:Int)(aV:Int)(aX:List Z7):St:=⟨[(0, .v false [.ptr 0 0]),(7, .v false [.ref 64000032000448])],[(0, .box [.val (.sl (.cons (.int .u8) .nil) x0.1), .vi (fD), .vi (aV)]),(64000032000448, .row (ci (ci .nil)) true aX)]⟩
theorem Xa.r5 (x0:(Z3))(x1:Za)(x2:List Int)(fD:Int)(aV:Int)(aX:List Z7):joinF Xa.E f138.ntmps [1] [] (codeOf f138) (Xa.kt x0 x1 x2) (Xa.s5 x0 fD aV aX)=Xa.g5 x0 fD aV aX:=by kernel_rfl
theorem Xa.e5 (x0:(Z3))(x1:Za)(x2:List Int)(fD:Int)(aV:Int)(aX:List Z7):jn (joinF Xa.E f138.ntmps [1] [] (codeOf f138) (Xa.kt x0 x1 x2)) (Xa.s5 x0 fD aV aX)=Xa.l5 x0 fD aV aX:=by
 rw[jn_eq,Xa.r5]
 rfl
theorem Xa.v (x0:(Z3))(x1:Za)(x2:List Int):V.evBody Xa.E Xa.con f138 ((x0,x1.1,x1.2,x2):(Z3)×List Int×Int×List Int)=Xa.b x0 x1 x2 (λfD aV aX=>jn (joinF Xa.E f138.ntmps [1] [] (codeOf f138) (Xa.kt x0 x1 x2)) (Xa.s5 x0 fD aV aX)):=by kernel_rfl
theorem Xa.eq (x0:(Z3))(x1:Za)(x2:List Int):V.evBody Xa.E Xa.con f138 ((x0,x1.1,x1.2,x2):(Z3)×List Int×Int×List Int)=Xa x0 x1 x2:=by
 rw[Xa.v]
 simp only[Xa.e5]
 rfl
theorem Xa.ok :V.Valid prog 138 Xa.con:=
 V.fo (tab_cons Zb.ok (tab_cons Xq.ok (tab_cons Ym.ok (tab_cons YP.ok tab_nil)))) func138 (by kernel_rfl) (λx y h=>(show V.evBody Xa.E Xa.con f138 x=_ from Xa.eq x.1 (x.2.1,x.2.2.1) x.2.2.2).trans (V.cfl (by kernel_rfl) h))
abbrev Q8.con :V.Con:=⟨(.cons (.ptr (.cons (.sl (.cons (.int .u8) .nil)) (ci (ci .nil)))) .nil),(.cons (.ptr (.cons (.sl (.cons (.int .u8) .nil)) (ci (ci .nil)))) (ci (ci (ci (ci (ci (ci (ci (ci (.cons (.sl (ci .nil)) (ci (.cons (.sl (ci .nil)) (ci (ci (.cons (.sl (ci .nil)) (ci (.cons .bool (.cons (.sl (ci (ci .nil))) .nil)))))))))))))))))),λ(x:(Z3))=>Q8 x,[(0,false)],[(false,1)],[(true,17)],[false,false,false,false,false,false,false,false,true,false,true,false,false,true,false,false,true],[]⟩
abbrev Q8.E :Env:=V.mkE V.tys [(46,Zb.con),(124,X9.con),(135,ZV.con),(137,Q7.con),(138,Xa.con),(139,Xg.con)] [] [(6,7)] [] [] []
theorem Q8.eq (x0:(Z3)):V.evBody Q8.E Q8.con f101 ((x0):(Z3))=Q8 x0:=by kernel_rfl
theorem Q8.ok :V.Valid prog 101 Q8.con:=
 V.fo (tab_cons Zb.ok (tab_cons X9.ok (tab_cons ZV.ok (tab_cons Q7.ok (tab_cons Xa.ok (tab_cons Xg.ok tab_nil)))))) func101 (by kernel_rfl) (λx y h=>(show V.evBody Q8.E Q8.con f101 x=_ from Q8.eq x).trans (V.cfl (by kernel_rfl) h))
abbrev Q9.con :V.Con:=⟨(.cons (.ptr (.cons (.sl (.cons (.int .u8) .nil)) (ci (ci .nil)))) .nil),(.cons (.ptr (.cons (.sl (.cons (.int .u8) .nil)) (ci (ci .nil)))) (.cons (.sl V.eSigned) .nil)),λ(x:(Z3))=>Q9 x,[(0,false)],[(false,1)],[(false,1)],[true],[]⟩
abbrev Q9.E :Env:=V.mkE V.tys [(46,Zb.con),(100,YO.con),(101,Q8.con)] [] [] [] [] []
theorem Q9.eq (x0:(Z3)):V.evBody Q9.E Q9.con f53 ((x0):(Z3))=Q9 x0:=by kernel_rfl
theorem Q9.ok :V.Valid prog 53 Q9.con:=
 V.fo (tab_cons Zb.ok (tab_cons YO.ok (tab_cons Q8.ok tab_nil))) func53 (by kernel_rfl) (λx y h=>(show V.evBody Q9.E Q9.con f53 x=_ from Q9.eq x).trans (V.cfl (by kernel_rfl) h))
abbrev Qa.con :V.Con:=⟨(.cons (.ptr (.cons (.sl (.cons (.int .u8) .nil)) (ci (ci .nil)))) .nil),(.cons (.ptr (.cons (.sl (.cons (.int .u8) .nil)) (ci (ci .nil)))) (.cons (.sl V.eSigned) (.cons (.sl V.eEntry) .nil))),λ(x:(Z3))=>Qa x,[(0,false)],[(false,1)],[(true,2)],[false,false],[]⟩
abbrev Qa.E :Env:=V.mkE V.tys [(44,ZN.con),(46,Zb.con),(52,YQ.con),(53,Q9.con)] [] [] [] [] []
theorem Qa.eq (x0:(Z3)):V.evBody Qa.E Qa.con f21 ((x0):(Z3))=Qa x0:=by kernel_rfl
theorem Qa.ok :V.Valid prog 21 Qa.con:=
 V.fo (tab_cons ZN.ok (tab_cons Zb.ok (tab_cons YQ.ok (tab_cons Q9.ok tab_nil)))) func21 (by kernel_rfl) (λx y h=>(show V.evBody Qa.E Qa.con f21 x=_ from Qa.eq x).trans (V.cfl (by kernel_rfl) h))
abbrev X1.con :V.Con:=⟨(.cons (.ptr (.cons (.sl (.cons (.int .u8) .nil)) (ci (ci .nil)))) (.cons (.sl V.eSigned) (.cons (.sl V.eEntry) .nil))),(.cons (.ptr (.cons (.sl (.cons (.int .u8) .nil)) (ci (ci .nil)))) (.cons .str .nil)),λ(x:(Z3)×List Z4×List Z0)=>X1 x.1 x.2,[(0,false)],[(false,1),(true,2)],[(false,1)],[false],[]⟩
abbrev X1.E :Env:=V.mkE V.tys [(46,Zb.con),(47,Wj.con),(54,W5.con)] [(5,[0,3,13],[])] [] [] [] [(2,[1000])]
abbrev X1.kt (x0:(Z3))(x1:Zm):Kt ((Z3)×ByteArray):=ktOf X1.E X1.con f22 ((x0,x1.1,x1.2):(Z3)×List Z4×List Z0)
abbrev X1.s5 (x0:(Z3))(x1:Zm)(bM:Bool)(aV:Int)(aX:Int):St:=⟨[(0, .v false [.ptr 0 0]),(3, .v false [.ptr 64000 0]),(13, .v false [.val (.bool bM)])],[(0, .box [.val (.sl (.cons (.int .u8) .nil) x0.1), .vi (aV), .vi (aX)]),(64000, .box [.val (.sl V.eSigned x1.1), .val (.sl V.eEntry x1.2)])]⟩
theorem X1.r5 (x0:(Z3))(x1:Zm)(bM:Bool)(aV:Int)(aX:Int):joinF X1.E f22.ntmps [1,0] [] (codeOf f22) (X1.kt x0 x1) (X1.s5 x0 x1 bM aV aX)=X1.g5 x0 x1 bM aV aX:=by kernel_rfl
theorem X1.e5 (x0:(Z3))(x1:Zm)(bM:Bool)(aV:Int)(aX:Int):jn (joinF X1.E f22.ntmps [1,0] [] (codeOf f22) (X1.kt x0 x1)) (X1.s5 x0 x1 bM aV aX)=X1.l5 x0 x1 bM aV aX:=by
 rw[jn_eq,X1.r5]
 rfl
theorem X1.v (x0:(Z3))(x1:Zm):V.evBody X1.E X1.con f22 ((x0,x1.1,x1.2):(Z3)×List Z4×List Z0)=X1.b x0 x1 (λbM aV aX=>jn (joinF X1.E f22.ntmps [1,0] [] (codeOf f22) (X1.kt x0 x1)) (X1.s5 x0 x1 bM aV aX)):=by kernel_rfl
theorem X1.eq (x0:(Z3))(x1:Zm):V.evBody X1.E X1.con f22 ((x0,x1.1,x1.2):(Z3)×List Z4×List Z0)=X1 x0 x1:=by
 rw[X1.v]
 simp only[X1.e5]
 rfl
theorem X1.ok :V.Valid prog 22 X1.con:=
 V.fo (tab_cons Zb.ok (tab_cons Wj.ok (tab_cons W5.ok tab_nil))) func22 (by kernel_rfl) (λx y h=>(show V.evBody X1.E X1.con f22 x=_ from X1.eq x.1 x.2).trans (V.cfl (by kernel_rfl) h))
end Go.Proofs.YtcbeaoigenjoeaeGreat.V
