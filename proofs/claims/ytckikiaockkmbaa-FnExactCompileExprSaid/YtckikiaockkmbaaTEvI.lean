/- Evaluation of expressions by impl: the events that are recorded, the recursion over operands. Conditions: the expression is valid, the memory fits, bounds on lengths. -/
import Derived.Test.YtckikiaockkmbaaTEvP
import Derived.Test.YtckikiaockkmbaaTOwnT
import Derived.Test.YtckikiaockkmbaaTP2
import Derived.StillTailTactics
import Derived.Great.Walk
import Derived.BigQuiet
import Derived.Deep.QuietTactic
namespace Go.Proofs.Ytckikiaockkmbaa
open Go.RowKit Kit
theorem FlR.ev {w : World} {b : Nat} {k u : Int} {T : TypeId} {f : Nat × Nat} (h : w.heap[b]? = some (.cells #[.int .i64 k, .int .i64 u] T f)) : FlR 2 encE w b (b + 1) (.slice (some ⟨b, 0, none⟩) 1 1) [(k, u)] := FlR.one fun t ht => match t, ht with | 0, _ => cell_of_heap h 0 | 1, _ => cell_of_heap h 1
theorem FlR.i1 {w : World} {b : Nat} {u : Int} {T : TypeId} {f : Nat × Nat} (h : w.heap[b]? = some (.cells #[.int .i64 u] T f)) : FlR 1 encI w b (b + 1) (.slice (some ⟨b, 0, none⟩) 1 1) [u] := FlR.one fun t ht => match t, ht with | 0, _ => cell_of_heap h 0
namespace EvI
open Val Step EvP
set_option linter.unusedVariables false
end EvI
end Go.Proofs.Ytckikiaockkmbaa
