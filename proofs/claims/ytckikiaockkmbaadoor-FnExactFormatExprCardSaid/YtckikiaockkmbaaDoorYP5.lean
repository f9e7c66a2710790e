/- What valid code is, in plain words: as the reference says it, as the program says it; they agree. No program in sight; no conditions. -/
import Derived.Test.YtckikiaockkmbaaDoorYP2
namespace Go.Proofs.YtckikiaockkmbaaDoor.Val
open Go.RowKit Kit
set_option linter.unusedVariables false
/-- the letters of the fields of an operation: the reference's, the program's -/
def lettersS (op : Int) : List UInt8 := if op = 1 then [114, 99] else if op = 2 then [114, 118] else if op = 3 then [118, 114] else if op = 4 then [114, 97, 114] else if op = 5 then [97, 114, 114] else if op = 6 then [114, 111, 114, 114] else if op = 7 then [114, 114, 114, 114] else if op = 8 then [116] else if op = 9 then [114, 116] else if op = 10 then [114, 116] else if op = 11 then [114] else if op = 12 then [] else if op = 13 then [] else []
def lettersI (op : Int) : List UInt8 := if op = 1 then [114, 110, 45, 45] else if op = 2 then [114, 118, 45, 45] else if op = 3 then [118, 114, 45, 45] else if op = 4 then [114, 97, 114, 45] else if op = 5 then [97, 114, 114, 45] else if op = 6 then [114, 111, 114, 114] else if op = 7 then [114, 114, 114, 114] else if op = 8 then [105, 45, 45, 45] else if op = 9 then [114, 105, 45, 45] else if op = 10 then [114, 105, 45, 45] else if op = 11 then [114, 45, 45, 45] else if op = 12 then [45, 45, 45, 45] else if op = 13 then [45, 45, 45, 45] else []
/-- is a field as its letter says -/
def rangeS (nv na nl : Nat) (c n : Int) : Bool :=
  if c = 114 then decide (0 ≤ n) && decide (n < 14) else if c = 99 then decide (0 ≤ n) && decide (n ≤ 255) else if c = 118 then decide (0 ≤ n) && decide (n < nv) else if c = 97 then decide (0 ≤ n) && decide (n < na) else if c = 111 then decide (4 ≤ n) && decide (n ≤ 10) else decide (0 ≤ n) && decide (n < nl)
def rangeI (nv na nl : Nat) (c n : Int) : Bool :=
  if c = 114 then Lab.inside n 0 13 else if c = 118 then Lab.inside n 0 (nv - 1) else if c = 97 then Lab.inside n 0 (na - 1) else if c = 110 then Lab.inside n 0 255 else if c = 111 then Lab.inside n 4 10 else if c = 105 then Lab.inside n 0 (nl - 1) else n == 0
/-- all fields as the letters say; a field without a letter is 0 -/
def fieldsS (nv na nl : Nat) : List UInt8 → List Int → Bool
  | _, [] => true
  | [], n :: ns => n == 0 && fieldsS nv na nl [] ns
  | c :: cs, n :: ns => rangeS nv na nl c.toNat n && fieldsS nv na nl cs ns
def fieldsI (nv na nl : Nat) : List UInt8 → List Int → Bool
  | _, [] => true
  | [], _ :: _ => false
  | c :: cs, n :: ns => rangeI nv na nl c.toNat n && fieldsI nv na nl cs ns
def parts (x : Ins) : List Int := [x.a, x.b, x.c, x.d]
def insS (nv na nl : Nat) (x : Ins) : Bool := decide (1 ≤ x.op) && decide (x.op ≤ 13) && fieldsS nv na nl (lettersS x.op) (parts x)
def insI (nv na nl : Nat) (x : Ins) : Bool := fieldsI nv na nl (lettersI x.op) (parts x)
def lastOp (l : List Ins) : Int := match l.getLast? with | some x => x.op | none => 0
def codeB (xa xb : List Int) (l : List Ins) : Bool := declB xa xb && decide (1 ≤ l.length) && decide (l.length ≤ 400) && l.all (insS xa.length xb.length l.length) && (lastOp l == 13 || lastOp l == 8)
end Go.Proofs.YtckikiaockkmbaaDoor.Val
