/- Evaluation of expressions by impl: the events that are recorded, the recursion over operands. Conditions: the expression is valid, the memory fits, bounds on lengths. -/
import Derived.Test.YtckikiaockkmbaaDoorXEvP
import Derived.Test.YtckikiaockkmbaaDoorXOwnT
import Derived.Test.YtckikiaockkmbaaDoorXP2
import Derived.StillTailTactics
import Derived.Great.Walk
import Derived.BigQuiet
import Derived.Deep.QuietTactic
namespace Go.Proofs.YtckikiaockkmbaaDoor
open Go.RowKit Kit
theorem FlR.ev {w : World} {b : Nat} {k u : Int} {T : TypeId} {f : Nat × Nat} (h : w.heap[b]? = some (.cells #[.int .i64 k, .int .i64 u] T f)) : FlR 2 encE w b (b + 1) (.slice (some ⟨b, 0, none⟩) 1 1) [(k, u)] := FlR.one fun t ht => match t, ht with | 0, _ => cell_of_heap h 0 | 1, _ => cell_of_heap h 1
theorem FlR.i1 {w : World} {b : Nat} {u : Int} {T : TypeId} {f : Nat × Nat} (h : w.heap[b]? = some (.cells #[.int .i64 u] T f)) : FlR 1 encI w b (b + 1) (.slice (some ⟨b, 0, none⟩) 1 1) [u] := FlR.one fun t ht => match t, ht with | 0, _ => cell_of_heap h 0
namespace EvI
open Val Step EvP
set_option linter.unusedVariables false
theorem infoE : (Tryd.prog.info? 54).map (fun i => (i.zero, i.size, i.bytes)) = some (some (.agg #[.int .i64 0, .int .i64 0]), 2, 16) := by kernel_rfl
theorem oneE (e : Ev) : ∀ t, (encE e t).oneCell' = true := fun t => match t with | 0 => rfl | _ + 1 => rfl
end EvI
end Go.Proofs.YtckikiaockkmbaaDoor
