/- Plain facts for the laws of machines. No program in sight; no conditions. -/
import Derived.Test.YtbicpkmlionldaaVMachV
import Derived.Test.YtbicpkmlionldaaVP5
namespace Go.Proofs.Ytbicpkmlionldaa
open Go.RowKit Kit
theorem started_valid {xa xb : List Int} {x : List Ins} {ya : List Int} {yb : List (List Int)} (h : (Val.codeB xa xb x && Val.fitB xa.length xb.length ya yb) = true) : Val.machB xa xb x 0 StartM.zeros ya yb = true := by
  rw [Bool.and_eq_true] at h
  have h1 := h.1
  unfold Val.codeB at h1
  simp only [Bool.and_eq_true, decide_eq_true_eq] at h1
  unfold Val.machB
  have h2 : Val.okVs StartM.zeros = true := by decide
  have h3 : StartM.zeros.length = 14 := by decide
  simp only [h.1, h.2, h2, h3, Bool.true_and, Bool.and_true, decide_true, Bool.and_eq_true, decide_eq_true_eq]
  omega
end Go.Proofs.Ytbicpkmlionldaa
