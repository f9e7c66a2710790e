/- Parts of memories in plain words: what is cleared by a label, and how two clearings commute. No program in sight; no conditions. -/
import Derived.Test.YtckikiaockkmbaaDoorXP2
namespace Go.Proofs.YtckikiaockkmbaaDoor.PartP
open Go.RowKit Kit Val
set_option linter.unusedVariables false
/-- the values whose label is asked for are 0 -/
def clr (q : Int → Bool) (xa ya : List Int) : List Int := List.zipWith (fun l v => if q l then 0 else v) xa ya
def clrM (q : Int → Bool) (xb : List Int) (yb : List (List Int)) : List (List Int) := List.zipWith (fun l r => if q l then List.replicate r.length 0 else r) xb yb
/-- not trusted, of a label -/
def untB (l : Int) : Bool := !Lab.trustedB l
/-- cleared so far -/
def clrTo (q : Int → Bool) (xa ya : List Int) (j : Nat) : List Int := (List.range ya.length).map fun i => if i < j ∧ q (xa.getD i 0) = true then 0 else ya.getD i 0
def rowTo (c : Bool) (r : List Int) (k : Nat) : List Int := (List.range r.length).map fun t => if t < k ∧ c = true then 0 else r.getD t 0
def clrMTo (q : Int → Bool) (xb : List Int) (yb : List (List Int)) (j : Nat) : List (List Int) := (List.range yb.length).map fun i => if i < j ∧ q (xb.getD i 0) = true then List.replicate (yb.getD i []).length 0 else yb.getD i []
end Go.Proofs.YtckikiaockkmbaaDoor.PartP
