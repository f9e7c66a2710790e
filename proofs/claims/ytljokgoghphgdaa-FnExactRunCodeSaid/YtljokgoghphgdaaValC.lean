/- What valid code is, in plain words: as the reference says it, as the program says it; they agree. No program in sight; no conditions. -/
import Derived.Test.YtljokgoghphgdaaVal
namespace Go.Proofs.Ytljokgoghphgdaa.Val
open Go.RowKit Kit
set_option linter.unusedVariables false
/-- the letters of the fields of an operation: the reference's, the program's -/
def lettersS (op : Int) : List UInt8 := if op = 1 then [114, 99] else if op = 2 then [114, 118] else if op = 3 then [118, 114] else if op = 4 then [114, 97, 114] else if op = 5 then [97, 114, 114] else if op = 6 then [114, 111, 114, 114] else if op = 7 then [114, 114, 114, 114] else if op = 8 then [116] else if op = 9 then [114, 116] else if op = 10 then [114, 116] else if op = 11 then [114] else if op = 12 then [] else if op = 13 then [] else []
def lettersI (op : Int) : List UInt8 := if op = 1 then [114, 110, 45, 45] else if op = 2 then [114, 118, 45, 45] else if op = 3 then [118, 114, 45, 45] else if op = 4 then [114, 97, 114, 45] else if op = 5 then [97, 114, 114, 45] else if op = 6 then [114, 111, 114, 114] else if op = 7 then [114, 114, 114, 114] else if op = 8 then [105, 45, 45, 45] else if op = 9 then [114, 105, 45, 45] else if op = 10 then [114, 105, 45, 45] else if op = 11 then [114, 45, 45, 45] else if op = 12 then [45, 45, 45, 45] else if op = 13 then [45, 45, 45, 45] else []
/-- is a field as its letter says -/
def rangeS (nv na nl : Nat) (c n : Int) : Bool :=
  if c = 114 then decide (0 ≤ n) && decide (n < 14) else if c = 99 then decide (0 ≤ n) && decide (n ≤ 255) else if c = 118 then decide (0 ≤ n) && decide (n < nv) else if c = 97 then decide (0 ≤ n) && decide (n < na) else if c = 111 then decide (4 ≤ n) && decide (n ≤ 10) else decide (0 ≤ n) && decide (n < nl)
def rangeI (nv na nl : Nat) (c n : Int) : Bool :=
  if c = 114 then Lab.inside n 0 13 else if c = 118 then Lab.inside n 0 (nv - 1) else if c = 97 then Lab.inside n 0 (na - 1) else if c = 110 then Lab.inside n 0 255 else if c = 111 then Lab.inside n 4 10 else if c = 105 then Lab.inside n 0 (nl - 1) else n == 0
/-- all fields as the letters say; a field without a letter is 0 -/
def fieldsS (nv na nl : Nat) : List UInt8 → List Int → Bool
  | _, [] => true
  | [], n :: ns => n == 0 && fieldsS nv na nl [] ns
  | c :: cs, n :: ns => rangeS nv na nl c.toNat n && fieldsS nv na nl cs ns
def fieldsI (nv na nl : Nat) : List UInt8 → List Int → Bool
  | _, [] => true
  | [], _ :: _ => false
  | c :: cs, n :: ns => rangeI nv na nl c.toNat n && fieldsI nv na nl cs ns
def parts (x : Ins) : List Int := [x.a, x.b, x.c, x.d]
def insS (nv na nl : Nat) (x : Ins) : Bool := decide (1 ≤ x.op) && decide (x.op ≤ 13) && fieldsS nv na nl (lettersS x.op) (parts x)
def insI (nv na nl : Nat) (x : Ins) : Bool := fieldsI nv na nl (lettersI x.op) (parts x)
theorem ops_of {op : Int} (h1 : 1 ≤ op) (h2 : op ≤ 13) : op = 1 ∨ op = 2 ∨ op = 3 ∨ op = 4 ∨ op = 5 ∨ op = 6 ∨ op = 7 ∨ op = 8 ∨ op = 9 ∨ op = 10 ∨ op = 11 ∨ op = 12 ∨ op = 13 := by omega
theorem lettersI_off {op : Int} (h : op < 1 ∨ 13 < op) : lettersI op = [] := by
  unfold lettersI; repeat' rw [if_neg (by omega)]
theorem lettersI_on {op : Int} (h1 : 1 ≤ op) (h2 : op ≤ 13) : (lettersI op).length = 4 := by
  obtain rfl | rfl | rfl | rfl | rfl | rfl | rfl | rfl | rfl | rfl | rfl | rfl | rfl := ops_of h1 h2 <;> rfl
theorem lettersS_off {op : Int} (h : op < 1 ∨ 13 < op) : lettersS op = [] := by
  unfold lettersS; repeat' rw [if_neg (by omega)]
theorem lettersS_len (op : Int) : (lettersS op).length ≤ 4 := by
  by_cases h1 : 1 ≤ op
  · by_cases h2 : op ≤ 13
    · obtain rfl | rfl | rfl | rfl | rfl | rfl | rfl | rfl | rfl | rfl | rfl | rfl | rfl := ops_of h1 h2 <;> decide
    · rw [lettersS_off (by omega)]; simp
  · rw [lettersS_off (by omega)]; simp
theorem rng_r (nv na nl : Nat) (n : Int) : rangeI nv na nl 114 n = rangeS nv na nl 114 n := by rw [Bool.eq_iff_iff]; simp [rangeI, rangeS, Lab.inside]; omega
theorem rng_v (nv na nl : Nat) (n : Int) : rangeI nv na nl 118 n = rangeS nv na nl 118 n := by rw [Bool.eq_iff_iff]; simp [rangeI, rangeS, Lab.inside]; omega
theorem rng_a (nv na nl : Nat) (n : Int) : rangeI nv na nl 97 n = rangeS nv na nl 97 n := by rw [Bool.eq_iff_iff]; simp [rangeI, rangeS, Lab.inside]; omega
theorem rng_n (nv na nl : Nat) (n : Int) : rangeI nv na nl 110 n = rangeS nv na nl 99 n := by rw [Bool.eq_iff_iff]; simp [rangeI, rangeS, Lab.inside]
theorem rng_o (nv na nl : Nat) (n : Int) : rangeI nv na nl 111 n = rangeS nv na nl 111 n := by rw [Bool.eq_iff_iff]; simp [rangeI, rangeS, Lab.inside]
theorem rng_i (nv na nl : Nat) (n : Int) : rangeI nv na nl 105 n = rangeS nv na nl 116 n := by rw [Bool.eq_iff_iff]; simp [rangeI, rangeS, Lab.inside]; omega
theorem rng_0 (nv na nl : Nat) (n : Int) : rangeI nv na nl 45 n = (n == 0) := by simp [rangeI]
theorem ins_eq (nv na nl : Nat) (x : Ins) : insI nv na nl x = insS nv na nl x := by
  obtain ⟨op, a, b, c, d⟩ := x
  by_cases h1 : 1 ≤ op
  · by_cases h2 : op ≤ 13
    · obtain rfl | rfl | rfl | rfl | rfl | rfl | rfl | rfl | rfl | rfl | rfl | rfl | rfl := ops_of h1 h2 <;>
        simp [insI, insS, lettersI, lettersS, parts, fieldsI, fieldsS, rng_r, rng_v, rng_a, rng_n, rng_o, rng_i, rng_0]
    · simp only [insI, insS, lettersI_off (show op < 1 ∨ 13 < op by omega), parts, fieldsI]; simp [h2]
  · simp only [insI, insS, lettersI_off (show op < 1 ∨ 13 < op by omega), parts, fieldsI]; simp [h1]
def lastOp (l : List Ins) : Int := match l.getLast? with | some x => x.op | none => 0
def codeB (xa xb : List Int) (l : List Ins) : Bool := declB xa xb && decide (1 ≤ l.length) && decide (l.length ≤ 400) && l.all (insS xa.length xb.length l.length) && (lastOp l == 13 || lastOp l == 8)
theorem lastOp_get {l : List Ins} (h : l.length - 1 < l.length) : lastOp l = l[l.length - 1].op := by
  unfold lastOp; rw [List.getLast?_eq_getElem?, List.getElem?_eq_getElem h]
theorem fieldsS_drop {nv na nl : Nat} {ks : List UInt8} {ps : List Int} {j : Nat} (h : j < ps.length) : fieldsS nv na nl (ks.drop j) (ps.drop j) = ((if hk : j < ks.length then rangeS nv na nl ks[j].toNat ps[j] else ps[j] == 0) && fieldsS nv na nl (ks.drop (j + 1)) (ps.drop (j + 1))) := by
  rw [List.drop_eq_getElem_cons h]
  by_cases hk : j < ks.length
  · rw [List.drop_eq_getElem_cons hk, dif_pos hk]; rfl
  · rw [List.drop_of_length_le (l := ks) (i := j) (by omega), List.drop_of_length_le (l := ks) (i := j + 1) (by omega), dif_neg hk]; rfl
theorem fieldsI_drop {nv na nl : Nat} {ks : List UInt8} {ps : List Int} {j : Nat} (h : j < ps.length) (hk : j < ks.length) : fieldsI nv na nl (ks.drop j) (ps.drop j) = (rangeI nv na nl ks[j].toNat ps[j] && fieldsI nv na nl (ks.drop (j + 1)) (ps.drop (j + 1))) := by
  rw [List.drop_eq_getElem_cons h, List.drop_eq_getElem_cons hk]; rfl
end Go.Proofs.Ytljokgoghphgdaa.Val
