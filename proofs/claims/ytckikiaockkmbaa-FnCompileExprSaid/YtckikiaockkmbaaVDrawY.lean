/- Draws of programs, sometimes changed: DrawProgramValid and its kin. No conditions. -/
import Derived.Test.YtckikiaockkmbaaVMut
import Derived.Test.YtckikiaockkmbaaVDrawG
import Derived.Test.YtckikiaockkmbaaVP1
namespace Go.Proofs.Ytckikiaockkmbaa.DrawY
open Go.RowKit Kit Draw DrawX MarkC
set_option linter.unusedVariables false
/-- a program -/
def GotV (w : World) (e : Ending) (w' : World) : Prop := ∃ (va vb vc : Value) (ya yb : List Int) (m : List St), e = .returned (.agg #[va, vb, vc]) ∧ New w w' ∧ IntsR w' w.heap.size w'.heap.size va ya ∧ IntsR w' w.heap.size w'.heap.size vb yb ∧ StsR w' w.heap.size w'.heap.size vc m ∧ St.sizes m ≤ 608400
end Go.Proofs.Ytckikiaockkmbaa.DrawY
