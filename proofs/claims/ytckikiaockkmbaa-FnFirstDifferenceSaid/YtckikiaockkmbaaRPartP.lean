/- Parts of memories in plain words: what is cleared by a label, and how two clearings commute. No program in sight; no conditions. -/
import Derived.Test.YtckikiaockkmbaaRP2
namespace Go.Proofs.Ytckikiaockkmbaa.PartP
open Go.RowKit Kit Val
set_option linter.unusedVariables false
/-- the values whose label is asked for are 0 -/
def clr (q : Int → Bool) (xa ya : List Int) : List Int := List.zipWith (fun l v => if q l then 0 else v) xa ya
def clrM (q : Int → Bool) (xb : List Int) (yb : List (List Int)) : List (List Int) := List.zipWith (fun l r => if q l then List.replicate r.length 0 else r) xb yb
/-- not trusted, of a label -/
def untB (l : Int) : Bool := !Lab.trustedB l
/-- cleared so far -/
def clrTo (q : Int → Bool) (xa ya : List Int) (j : Nat) : List Int := (List.range ya.length).map fun i => if i < j ∧ q (xa.getD i 0) = true then 0 else ya.getD i 0
def rowTo (c : Bool) (r : List Int) (k : Nat) : List Int := (List.range r.length).map fun t => if t < k ∧ c = true then 0 else r.getD t 0
def clrMTo (q : Int → Bool) (xb : List Int) (yb : List (List Int)) (j : Nat) : List (List Int) := (List.range yb.length).map fun i => if i < j ∧ q (xb.getD i 0) = true then List.replicate (yb.getD i []).length 0 else yb.getD i []
theorem clrTo_length (q : Int → Bool) (xa ya : List Int) (j : Nat) : (clrTo q xa ya j).length = ya.length := by simp [clrTo]
theorem clrMTo_length (q : Int → Bool) (xb : List Int) (yb : List (List Int)) (j : Nat) : (clrMTo q xb yb j).length = yb.length := by simp [clrMTo]
theorem clrTo_zero (q : Int → Bool) (xa ya : List Int) : clrTo q xa ya 0 = ya := by
  apply List.ext_getElem
  · simp [clrTo]
  · intro i h1 h2; simp [clrTo, h2]
theorem clrMTo_zero (q : Int → Bool) (xb : List Int) (yb : List (List Int)) : clrMTo q xb yb 0 = yb := by
  apply List.ext_getElem
  · simp [clrMTo]
  · intro i h1 h2; simp [clrMTo, h2]
theorem clrTo_all (q : Int → Bool) (xa ya : List Int) (h : ya.length = xa.length) (j : Nat) (hj : ya.length ≤ j) : clrTo q xa ya j = clr q xa ya := by
  apply List.ext_getElem
  · simp [clrTo, clr, h]
  · intro i h1 h2
    have hi : i < ya.length := by simpa [clrTo] using h1
    have hi2 : i < xa.length := by omega
    simp [clrTo, clr, hi, hi2, show i < j by omega]
theorem clrMTo_all (q : Int → Bool) (xb : List Int) (yb : List (List Int)) (h : yb.length = xb.length) (j : Nat) (hj : yb.length ≤ j) : clrMTo q xb yb j = clrM q xb yb := by
  apply List.ext_getElem
  · simp [clrMTo, clrM, h]
  · intro i h1 h2
    have hi : i < yb.length := by simpa [clrMTo] using h1
    have hi2 : i < xb.length := by omega
    simp [clrMTo, clrM, hi, hi2, show i < j by omega]
theorem clrTo_no {q : Int → Bool} {xa ya : List Int} {j : Nat} (hj : j < xa.length) (h : q xa[j] = false) : clrTo q xa ya (j + 1) = clrTo q xa ya j := by
  apply List.ext_getElem
  · simp [clrTo]
  · intro i h1 h2
    simp only [clrTo, List.getElem_map, List.getElem_range]
    by_cases e : i = j
    · subst e; simp [hj, h]
    · have : (i < j + 1) = (i < j) := by apply propext; omega
      simp only [this]
theorem clrTo_yes {q : Int → Bool} {xa ya : List Int} {j : Nat} (hj : j < xa.length) (h : q xa[j] = true) : clrTo q xa ya (j + 1) = (clrTo q xa ya j).set j 0 := by
  apply List.ext_getElem
  · simp [clrTo]
  · intro i h1 h2
    rw [List.getElem_set]
    simp only [clrTo, List.getElem_map, List.getElem_range]
    by_cases e : j = i
    · subst e; simp [hj, h]
    · have : (i < j + 1) = (i < j) := by apply propext; omega
      simp only [this, e, if_false]
theorem clrMTo_no {q : Int → Bool} {xb : List Int} {yb : List (List Int)} {j : Nat} (hj : j < xb.length) (h : q xb[j] = false) : clrMTo q xb yb (j + 1) = clrMTo q xb yb j := by
  apply List.ext_getElem
  · simp [clrMTo]
  · intro i h1 h2
    simp only [clrMTo, List.getElem_map, List.getElem_range]
    by_cases e : i = j
    · subst e; simp [hj, h]
    · have : (i < j + 1) = (i < j) := by apply propext; omega
      simp only [this]
theorem clrMTo_at (q : Int → Bool) (xb : List Int) (yb : List (List Int)) (j : Nat) (hj : j < yb.length) : (clrMTo q xb yb j)[j]'(by rw [clrMTo_length]; exact hj) = yb[j] := by
  simp [clrMTo, hj]
theorem clrMTo_set (q : Int → Bool) (xb : List Int) (yb : List (List Int)) (j : Nat) (hj : j < xb.length) (hj2 : j < yb.length) : (clrMTo q xb yb j).set j (if q xb[j] = true then List.replicate yb[j].length 0 else yb[j]) = clrMTo q xb yb (j + 1) := by
  apply List.ext_getElem
  · simp [clrMTo]
  · intro i h1 h2
    rw [List.getElem_set]
    simp only [clrMTo, List.getElem_map, List.getElem_range]
    by_cases e : j = i
    · subst e
      simp [hj, hj2]
    · have : (i < j + 1) = (i < j) := by apply propext; omega
      simp only [this, e, if_false]
end Go.Proofs.Ytckikiaockkmbaa.PartP
