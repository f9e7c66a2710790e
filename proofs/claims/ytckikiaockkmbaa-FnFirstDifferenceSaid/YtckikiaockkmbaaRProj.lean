/- ProjectTrace of spec and of impl: the events of kinds 2 to 4, in a row of the call's own. Condition: at most 2^20 events. -/
import Derived.Test.YtckikiaockkmbaaRP2
import Derived.Test.YtckikiaockkmbaaRP1
namespace Go.Proofs.Ytckikiaockkmbaa.Proj
open Go.RowKit Kit
set_option linter.unusedVariables false

def keep (e : Ev) : Bool := Lab.inside e.1 2 4
theorem infoE : (Try.prog.info? 32).map (fun i => (i.zero, i.size, i.bytes)) = some (some (.agg #[.int .i64 0, .int .i64 0]), 2, 16) := by kernel_rfl

end Go.Proofs.Ytckikiaockkmbaa.Proj
