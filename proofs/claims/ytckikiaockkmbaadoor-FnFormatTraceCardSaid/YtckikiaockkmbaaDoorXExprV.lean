/- ExprValid of spec and of impl. Condition: at most 2^20 nodes. -/
import Derived.Test.YtckikiaockkmbaaDoorXP4
import Derived.Test.YtckikiaockkmbaaDoorXShapeV
import Derived.Test.YtckikiaockkmbaaDoorXP1
namespace Go.Proofs.YtckikiaockkmbaaDoor.ExprV
open Go.RowKit Kit Val
set_option linter.unusedVariables false
end Go.Proofs.YtckikiaockkmbaaDoor.ExprV
