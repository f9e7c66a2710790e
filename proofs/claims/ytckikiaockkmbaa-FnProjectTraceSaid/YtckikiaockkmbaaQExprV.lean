/- ExprValid of spec and of impl. Condition: at most 2^20 nodes. -/
import Derived.Test.YtckikiaockkmbaaQP4
import Derived.Test.YtckikiaockkmbaaQShapeV
import Derived.Test.YtckikiaockkmbaaQP1
namespace Go.Proofs.Ytckikiaockkmbaa.ExprV
open Go.RowKit Kit Val
set_option linter.unusedVariables false
end Go.Proofs.Ytckikiaockkmbaa.ExprV
