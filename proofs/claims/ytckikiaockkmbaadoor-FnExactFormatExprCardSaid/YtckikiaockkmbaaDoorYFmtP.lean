/- Numbers, traces and expressions as text, in plain words. No program in sight; no conditions. -/
import Derived.Test.YtckikiaockkmbaaDoorYP2
import Derived.Lib.ItoaNum
import Derived.Lib.Join
namespace Go.Proofs.YtckikiaockkmbaaDoor.FmtP
open Go.RowKit Kit
set_option linter.unusedVariables false
/-- the digits of a number -/
abbrev dg (n : Nat) : List UInt8 := Lib.decDigits n
theorem dg_small {n : Nat} (h : n < 10) : dg n = [UInt8.ofNat (48 + n)] := by rw [dg, Lib.decDigits, dif_pos h]
theorem dg_step {n : Nat} (h : ¬ n < 10) : dg n = dg (n / 10) ++ [UInt8.ofNat (48 + n % 10)] := by rw [dg, Lib.decDigits, dif_neg h]
theorem dg_len {n : Nat} (h : n < 1000) : 1 ≤ (dg n).length ∧ (dg n).length ≤ 3 := by
  by_cases h1 : n < 10
  · rw [dg_small h1]; simp
  · rw [dg_step h1]
    by_cases h2 : n / 10 < 10
    · rw [dg_small h2]; simp
    · rw [dg_step h2, dg_small (by omega)]; simp
theorem itoa_dg {n : Int} (h : 0 ≤ n) : Lib.itoa n = dg n.toNat := by rw [Lib.itoa, if_neg (by omega)]
theorem ba_ext {a : ByteArray} {l : List UInt8} (h : a.data.toList = l) : a = ⟨l.toArray⟩ := by
  obtain ⟨⟨x⟩⟩ := a
  simp at h; subst h; rfl
theorem app_toList (a b : ByteArray) : (a ++ b).data.toList = a.data.toList ++ b.data.toList := by simp [ByteArray.data_append]
theorem size_toList (t : ByteArray) : t.size = t.data.toList.length := by show t.data.size = _; simp
/-- the sign of an event -/
def sg (k : Int) : UInt8 := if k = 1 then 98 else if k = 2 then 114 else if k = 3 then 119 else 111
/-- an event's text -/
def evB (e : Ev) : List UInt8 := sg e.1 :: dg e.2.toNat
def evOk (e : Ev) : Bool := decide (1 ≤ e.1 ∧ e.1 ≤ 4) && decide (0 ≤ e.2 ∧ e.2 ≤ 255)
def good (xs : List Ev) : Bool := xs.all evOk
/-- a trace's text, where all is well -/
def words (xs : List Ev) : List UInt8 := Lib.join (xs.map evB) [32]
def text (xs : List Ev) : List UInt8 := if good xs then words xs else []
theorem good_bad {xs : List Ev} {j : Nat} (h : j < xs.length) (hb : evOk xs[j] = false) : good xs = false := by
  rw [good, List.all_eq_false]; exact ⟨_, List.getElem_mem h, by simp [hb]⟩
end Go.Proofs.YtckikiaockkmbaaDoor.FmtP
