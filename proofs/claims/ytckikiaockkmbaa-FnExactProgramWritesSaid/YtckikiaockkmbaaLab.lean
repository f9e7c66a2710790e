/- Contracts of the label functions (LabelValid, LabelSecret, LabelTrusted, LabelFlows, JoinLabels, MeetLabels) of spec and of impl: what each returns, for all integers. No conditions. -/
import Derived.Test.YtckikiaockkmbaaChecked
import Derived.WalkKit
import Derived.ProofKit
import Derived.Lib.Hide
namespace Go.Proofs.Ytckikiaockkmbaa.Lab
open Go.RowKit

theorem retB {a b : Bool} (h : a = b) : Ending.returned (.bool a) = .returned (.bool b) := by rw [h]
theorem retI {k : IntKind} {a b : Int} (h : a = b) : Ending.returned (.int k a) = .returned (.int k b) := by rw [h]

/-- l is a label -/
def okL (l : Int) : Bool := decide (0 ≤ l ∧ l ≤ 3)
theorem okL_t {l : Int} (h : 0 ≤ l) (h' : l ≤ 3) : okL l = true := by simp [okL, h, h']
theorem okL_lo {l : Int} (h : l < 0) : okL l = false := by simp [okL]; omega
theorem okL_hi {l : Int} (h : 3 < l) : okL l = false := by simp [okL]; omega
theorem okL_iff {l : Int} : okL l = true ↔ (0 ≤ l ∧ l ≤ 3) := by simp [okL]
theorem okL_cases {l : Int} (h : okL l = true) : l = 0 ∨ l = 1 ∨ l = 2 ∨ l = 3 := by rw [okL_iff] at h; omega

def inside (n lo hi : Int) : Bool := decide (lo ≤ n ∧ n ≤ hi)
theorem within (n lo hi : Int) (w : World) : Calls Try.prog 57 #[.int .i64 n, .int .i64 lo, .int .i64 hi] w fun e w' => e = .returned (.bool (inside n lo hi)) ∧ w = w' := by
  by_cases h1 : lo ≤ n
  · by_cases h2 : n ≤ hi
    · go_enter Try.func57, Try.ntmps57
      go_wp2
      go_ret
      exact ⟨retB (by simp [inside, h1, h2]), rfl⟩
    · go_enter Try.func57, Try.ntmps57
      go_wp2
      go_ret
      exact ⟨retB (by simp [inside]; omega), rfl⟩
  · go_enter Try.func57, Try.ntmps57
    go_wp2
    go_ret
    exact ⟨retB (by simp [inside]; omega), rfl⟩

theorem specLabelValid (l : Int) (w : World) : Calls Try.prog 108 #[.int .i64 l] w fun e w' => e = .returned (.bool (okL l)) ∧ w = w' := by
  by_cases h1 : 0 ≤ l
  · by_cases h2 : l ≤ 3
    · go_enter Try.func108, Try.ntmps108
      go_wp2
      go_ret
      exact ⟨retB (by simp [okL, h1, h2]), rfl⟩
    · go_enter Try.func108, Try.ntmps108
      go_wp2
      go_ret
      exact ⟨retB (by simp [okL]; omega), rfl⟩
  · go_enter Try.func108, Try.ntmps108
    go_wp2
    go_ret
    exact ⟨retB (by simp [okL]; omega), rfl⟩

theorem implLabelValid (l : Int) (w : World) : Calls Try.prog 95 #[.int .i64 l] w fun e w' => e = .returned (.bool (okL l)) ∧ w = w' := by
  go_enter Try.func95, Try.ntmps95
  go_wp2_with (go_at_call 57; refine (within _ _ _ _).mono ?_; rintro e w' ⟨rfl, rfl⟩)
  go_ret
  exact ⟨rfl, rfl⟩

def flowsB (a b : Int) : Bool := bits .andNot .i64 a b == 0

def secretB (l : Int) : Bool := l == 1 || l == 3


def trustedB (l : Int) : Bool := l == 0 || l == 1


theorem implLabelSecret (l : Int) (w : World) : Calls Try.prog 44 #[.int .i64 l] w fun e w' => e = .returned (.bool (secretB l)) ∧ w = w' := by
  cases hv : okL l
  · have hn : secretB l = false := by
      simp only [okL, decide_eq_false_iff_not] at hv
      simp [secretB]; omega
    have H := Lib.hid hn; clear hn
    go_enter Try.func44, Try.ntmps44
    go_wp2_with (go_at_call 95; refine (implLabelValid _ _).mono ?_; rintro e w' ⟨rfl, rfl⟩)
    go_ret
    exact ⟨retB H.out.symm, rfl⟩
  · obtain rfl | rfl | rfl | rfl := okL_cases hv
    all_goals
      go_enter Try.func44, Try.ntmps44
      go_wp2_with (go_at_call 95; refine (implLabelValid _ _).mono ?_; rintro e w' ⟨rfl, rfl⟩)
      go_ret
      exact ⟨rfl, rfl⟩

theorem implLabelTrusted (l : Int) (w : World) : Calls Try.prog 97 #[.int .i64 l] w fun e w' => e = .returned (.bool (trustedB l)) ∧ w = w' := by
  cases hv : okL l
  · have hn : trustedB l = false := by
      simp only [okL, decide_eq_false_iff_not] at hv
      simp [trustedB]; omega
    have H := Lib.hid hn; clear hn
    go_enter Try.func97, Try.ntmps97
    go_wp2_with (go_at_call 95; refine (implLabelValid _ _).mono ?_; rintro e w' ⟨rfl, rfl⟩)
    go_ret
    exact ⟨retB H.out.symm, rfl⟩
  · obtain rfl | rfl | rfl | rfl := okL_cases hv
    all_goals
      go_enter Try.func97, Try.ntmps97
      go_wp2_with (go_at_call 95; refine (implLabelValid _ _).mono ?_; rintro e w' ⟨rfl, rfl⟩)
      go_ret
      exact ⟨rfl, rfl⟩

def joinL (a b : Int) : Int := if okL a && okL b then bits .or .i64 a b else 3
def meetL (a b : Int) : Int := if okL a && okL b then bits .and .i64 a b else 0
def leL (a b : Int) : Bool := okL a && okL b && flowsB a b







end Go.Proofs.Ytckikiaockkmbaa.Lab
