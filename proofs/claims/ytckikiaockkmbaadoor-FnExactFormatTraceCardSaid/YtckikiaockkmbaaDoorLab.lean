/- Contracts of the label functions (LabelValid, LabelSecret, LabelTrusted, LabelFlows, JoinLabels, MeetLabels) of spec and of impl: what each returns, for all integers. No conditions. -/
import Derived.Test.YtckikiaockkmbaaDoorChecked
import Derived.WalkKit
import Derived.ProofKit
import Derived.Lib.Hide
namespace Go.Proofs.YtckikiaockkmbaaDoor.Lab
open Go.RowKit

theorem retB {a b : Bool} (h : a = b) : Ending.returned (.bool a) = .returned (.bool b) := by rw [h]
theorem retI {k : IntKind} {a b : Int} (h : a = b) : Ending.returned (.int k a) = .returned (.int k b) := by rw [h]

/-- l is a label -/
def okL (l : Int) : Bool := decide (0 ≤ l ∧ l ≤ 3)
theorem okL_t {l : Int} (h : 0 ≤ l) (h' : l ≤ 3) : okL l = true := by simp [okL, h, h']
theorem okL_lo {l : Int} (h : l < 0) : okL l = false := by simp [okL]; omega
theorem okL_hi {l : Int} (h : 3 < l) : okL l = false := by simp [okL]; omega
theorem okL_iff {l : Int} : okL l = true ↔ (0 ≤ l ∧ l ≤ 3) := by simp [okL]
theorem okL_cases {l : Int} (h : okL l = true) : l = 0 ∨ l = 1 ∨ l = 2 ∨ l = 3 := by rw [okL_iff] at h; omega

def inside (n lo hi : Int) : Bool := decide (lo ≤ n ∧ n ≤ hi)
theorem within (n lo hi : Int) (w : World) : Calls Tryd.prog 22 #[.int .i64 n, .int .i64 lo, .int .i64 hi] w fun e w' => e = .returned (.bool (inside n lo hi)) ∧ w = w' := by
  by_cases h1 : lo ≤ n
  · by_cases h2 : n ≤ hi
    · go_enter Tryd.func22, Tryd.ntmps22
      go_wp2
      go_ret
      exact ⟨retB (by simp [inside, h1, h2]), rfl⟩
    · go_enter Tryd.func22, Tryd.ntmps22
      go_wp2
      go_ret
      exact ⟨retB (by simp [inside]; omega), rfl⟩
  · go_enter Tryd.func22, Tryd.ntmps22
    go_wp2
    go_ret
    exact ⟨retB (by simp [inside]; omega), rfl⟩

theorem specLabelValid (l : Int) (w : World) : Calls Tryd.prog 63 #[.int .i64 l] w fun e w' => e = .returned (.bool (okL l)) ∧ w = w' := by
  by_cases h1 : 0 ≤ l
  · by_cases h2 : l ≤ 3
    · go_enter Tryd.func63, Tryd.ntmps63
      go_wp2
      go_ret
      exact ⟨retB (by simp [okL, h1, h2]), rfl⟩
    · go_enter Tryd.func63, Tryd.ntmps63
      go_wp2
      go_ret
      exact ⟨retB (by simp [okL]; omega), rfl⟩
  · go_enter Tryd.func63, Tryd.ntmps63
    go_wp2
    go_ret
    exact ⟨retB (by simp [okL]; omega), rfl⟩

theorem implLabelValid (l : Int) (w : World) : Calls Tryd.prog 85 #[.int .i64 l] w fun e w' => e = .returned (.bool (okL l)) ∧ w = w' := by
  go_enter Tryd.func85, Tryd.ntmps85
  go_wp2_with (go_at_call 22; refine (within _ _ _ _).mono ?_; rintro e w' ⟨rfl, rfl⟩)
  go_ret
  exact ⟨rfl, rfl⟩

def flowsB (a b : Int) : Bool := bits .andNot .i64 a b == 0

def secretB (l : Int) : Bool := l == 1 || l == 3


def trustedB (l : Int) : Bool := l == 0 || l == 1




def joinL (a b : Int) : Int := if okL a && okL b then bits .or .i64 a b else 3
def meetL (a b : Int) : Int := if okL a && okL b then bits .and .i64 a b else 0
def leL (a b : Int) : Bool := okL a && okL b && flowsB a b







end Go.Proofs.YtckikiaockkmbaaDoor.Lab
