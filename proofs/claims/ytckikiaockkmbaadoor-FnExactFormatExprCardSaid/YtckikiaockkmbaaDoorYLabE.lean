/- Labels of expressions: l4Label of spec, label of impl, ExprLabel of both. Condition: at most 2^20 nodes. -/
import Derived.Test.YtckikiaockkmbaaDoorYP2
import Derived.Test.YtckikiaockkmbaaDoorYExprV
import Derived.StillTailTactics
import Derived.Test.YtckikiaockkmbaaDoorYP1
namespace Go.Proofs.YtckikiaockkmbaaDoor.Val
open Go.RowKit Kit
set_option linter.unusedVariables false
def lab0 (xa xb : List Int) (k v : Int) : Int := if k = 2 then xa.getD v.toNat 0 else if k = 3 then xb.getD v.toNat 0 else 0
mutual
/-- the label of an expression: the join of the labels of what it reads, in the order of the text -/
def lab (xa xb : List Int) : Ex → Int
  | .node k v ks => labs xa xb (lab0 xa xb k v) ks
def labs (xa xb : List Int) : Int → List Ex → Int
  | acc, [] => acc
  | acc, e :: es => labs xa xb (bits .or .i64 acc (lab xa xb e)) es
end
theorem shps_get (nv na d : Nat) {l : List Ex} (h : shps nv na l d = true) (j : Nat) (hj : j < l.length) : shp nv na l[j] d = true := by
  cases hb : shp nv na l[j] d
  · rw [shps_bad nv na l d j hj hb] at h; cases h
  · rfl
def exprL (xa xb : List Int) (e : Ex) : Int := if exprB xa xb e then lab xa xb e else 3
end Go.Proofs.YtckikiaockkmbaaDoor.Val
namespace Go.Proofs.YtckikiaockkmbaaDoor.LabE
open Go.RowKit Kit Val
set_option linter.unusedVariables false
end Go.Proofs.YtckikiaockkmbaaDoor.LabE
