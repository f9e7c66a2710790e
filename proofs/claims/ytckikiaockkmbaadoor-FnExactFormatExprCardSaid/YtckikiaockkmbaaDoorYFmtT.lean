/- FormatTrace of spec and of impl. Conditions: at most 2^21 events; for impl the table of powers of ten lies as the program lays it. -/
import Derived.Test.YtckikiaockkmbaaDoorYDecT
import Derived.Test.YtckikiaockkmbaaDoorYP2
import Derived.Test.YtckikiaockkmbaaDoorYP1
import Derived.Deep.RegionHeld3
import Derived.RegionTactic
namespace Go.Proofs.YtckikiaockkmbaaDoor.FmtT
open Go.RowKit Kit FmtP
set_option linter.unusedVariables false
theorem addS (a b : ByteArray) (h : a.size + b.size ≤ 9223372036854775807) : ∀ wx, (binOp .add 9 (.string a) (.string b)).run Tryd.prog wx = .ok (.string (a ++ b)) wx := fun wx => run_string_add_sum wx _ _ h
theorem addO (a b : ByteArray) (h : a.size + b.size ≤ 9223372036854775807) : ∀ wx, (Op.stringOp .add a b).run Tryd.prog wx = .ok (.string (a ++ b)) wx := fun wx => run_string_add_sum wx _ _ h
/-- an event's text -/
def evT (e : Ev) : ByteArray := ⟨(evB e).toArray⟩
end Go.Proofs.YtckikiaockkmbaaDoor.FmtT
