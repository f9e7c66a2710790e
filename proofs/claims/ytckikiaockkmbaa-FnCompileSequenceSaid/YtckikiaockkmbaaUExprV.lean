/- ExprValid of spec and of impl. Condition: at most 2^20 nodes. -/
import Derived.Test.YtckikiaockkmbaaUP4
import Derived.Test.YtckikiaockkmbaaUShapeV
import Derived.Test.YtckikiaockkmbaaUP1
namespace Go.Proofs.Ytckikiaockkmbaa.ExprV
open Go.RowKit Kit Val
set_option linter.unusedVariables false
end Go.Proofs.Ytckikiaockkmbaa.ExprV
