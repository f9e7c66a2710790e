/- ExprValid of spec and of impl. Condition: at most 2^20 nodes. -/
import Derived.Test.YtbicpkmlionldaaEP4
import Derived.Test.YtbicpkmlionldaaEShapeV
import Derived.Test.YtbicpkmlionldaaEP1
namespace Go.Proofs.Ytbicpkmlionldaa.ExprV
open Go.RowKit Kit Val
set_option linter.unusedVariables false
end Go.Proofs.Ytbicpkmlionldaa.ExprV
