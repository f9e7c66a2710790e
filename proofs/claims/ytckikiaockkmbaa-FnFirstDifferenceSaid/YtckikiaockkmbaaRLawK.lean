/- Plain facts on parts of traces, for the laws. No program in sight; no conditions. -/
import Derived.Test.YtckikiaockkmbaaRProj
import Derived.Test.YtckikiaockkmbaaRDiff
namespace Go.Proofs.Ytckikiaockkmbaa.LawK
open Go.RowKit Kit
set_option linter.unusedVariables false
theorem cap_r {α : Type} {n : Nat} {enc : α → Nat → Value} {w : World} {lo hi m cap : Nat} {a : Option Addr} {xs : List α} (h : FlR n enc w lo hi (.slice a m cap) xs) : m ≤ cap := by
  cases h with
  | nil a cap => exact Nat.zero_le _
  | cons b o cap xs h0 hlo hhi hcap hmax c => exact hcap
/-- what the first difference of two traces is -/
theorem fd_spec : ∀ (xs ys : List Ev) (c : Nat), (Diff.fd xs ys c = -1 ∧ xs = ys) ∨ ∃ m : Nat, Diff.fd xs ys c = ((c + m : Nat) : Int) ∧ m ≤ xs.length ∧ m ≤ ys.length ∧ xs.take m = ys.take m ∧ xs ≠ ys ∧ (m = xs.length ∨ m = ys.length ∨ ∃ (h1 : m < xs.length) (h2 : m < ys.length), xs[m] ≠ ys[m])
  | [], [], c => .inl ⟨rfl, rfl⟩
  | x :: xs, y :: ys, c => by
    by_cases e : x = y
    · subst e
      rcases fd_spec xs ys (c + 1) with ⟨h1, h2⟩ | ⟨m, h1, h2, h3, h4, h5, h6⟩
      · exact .inl ⟨by simp [Diff.fd, h1], by rw [h2]⟩
      · refine .inr ⟨m + 1, ?_, by simpa using h2, by simpa using h3, by simpa using h4, by simpa using h5, ?_⟩
        · simp only [Diff.fd, if_true, h1]; congr 1; omega
        · rcases h6 with h6 | h6 | ⟨p, q, h6⟩
          · exact .inl (by simpa using h6)
          · exact .inr (.inl (by simpa using h6))
          · exact .inr (.inr ⟨by simpa using p, by simpa using q, by simpa using h6⟩)
    · exact .inr ⟨0, by simp [Diff.fd, e], Nat.zero_le _, Nat.zero_le _, rfl, by simp [e], .inr (.inr ⟨by simp, by simp, by simpa using e⟩)⟩
  | x :: xs, [], c => .inr ⟨0, by simp [Diff.fd], Nat.zero_le _, Nat.le_refl _, rfl, by simp, .inr (.inl rfl)⟩
  | [], y :: ys, c => .inr ⟨0, by simp [Diff.fd], Nat.le_refl _, Nat.zero_le _, rfl, by simp, .inl rfl⟩
theorem fd_comm : ∀ (xs ys : List Ev) (c : Nat), Diff.fd xs ys c = Diff.fd ys xs c
  | [], [], c => rfl
  | x :: xs, y :: ys, c => by
    by_cases e : x = y
    · subst e; simp [Diff.fd, fd_comm xs ys (c + 1)]
    · simp [Diff.fd, e, show ¬ y = x from fun q => e q.symm]
  | x :: xs, [], c => rfl
  | [], y :: ys, c => rfl
end Go.Proofs.Ytckikiaockkmbaa.LawK
