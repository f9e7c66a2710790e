/- (impl.Memory).own and spec.l3Copy: a memory of the call's own with the same values. Condition: bounds on the lengths. -/
import Derived.Test.YtbnhhmgdkiomoaaAppM
import Derived.Test.YtbnhhmgdkiomoaaAppS
import Derived.Test.YtbnhhmgdkiomoaaMarkC
import Derived.Deep.RegionHeld3
import Derived.Deep.RegionWith
import Derived.Deep.DeepCutAuto
import Derived.StillTailTactics
import Derived.WalkKit
import Derived.ProofKit
import Derived.Test.YtbnhhmgdkiomoaaShort
namespace Go.Proofs.Ytbnhhmgdkiomoaa.OwnM
open Go.RowKit Kit
set_option linter.unusedVariables false
theorem _root_.Go.Proofs.Ytbnhhmgdkiomoaa.OwnF.mk' {α : Type} {n : Nat} {enc : α → Nat → Value} {w : World} {base b cap : Nat} {T : TypeId} {cs : Array Value} {xs : List α} (hh : w.heap[b]? = some (.cells cs T (0, 0))) (hb : base ≤ b) (hcap : xs.length ≤ cap) (hm : cap ≤ maxLen) (hs : cs.size = cap * n)
    (hc : ∀ i (hi : i < xs.length) t, t < n → cs[i * n + t]? = some (enc xs[i] t)) : OwnF n enc w base T (.slice (some ⟨b, 0, none⟩) xs.length cap) xs := by
  have hle : xs.length * n ≤ cs.size := by rw [hs]; exact Nat.mul_le_mul_right _ hcap
  refine ⟨cs.toList.take (xs.length * n), ⟨by simp [List.length_take]; omega, .inr ⟨b, cap, cs, rfl, hb, hh, hcap, hm, hs, rfl⟩⟩, fun i hi t ht => ?_⟩
  have hlt : i * n + t < xs.length * n := by
    have : (i + 1) * n ≤ xs.length * n := Nat.mul_le_mul_right _ hi
    rw [Nat.add_mul] at this; omega
  rw [List.getElem?_take, if_pos hlt]
  simpa using hc i hi t ht
/-- an element of one cell is stored -/
theorem _root_.Go.Proofs.Ytbnhhmgdkiomoaa.OwnF.set1 {α : Type} {enc : α → Nat → Value} {w : World} {base b cap : Nat} {o : Nat} {T : TypeId} {xs : List α} (h : OwnF 1 enc w base T (.slice (some ⟨b, o, none⟩) xs.length cap) xs) (j : Nat) (hj : j < xs.length) (y : α) :
    OwnF 1 enc (w.setCell ⟨b, j, none⟩ (enc y 0)) base T (.slice (some ⟨b, o, none⟩) xs.length cap) (xs.set j y) := by
  rcases h.form with ⟨e, e2⟩ | ⟨g, cap', cs, e, hb, hl, hm, hh, hs, hc⟩
  · cases e2
  · cases e
    have := OwnF.mk' (enc := enc) (n := 1) (xs := xs.set j y) (base := base) (setCell_heap (o := j) hh (enc y 0)) hb (by simpa using hl) hm (by simpa using hs) (fun i hi t ht => by
      obtain rfl : t = 0 := by omega
      have hi' : i < xs.length := by simpa using hi
      rw [Nat.mul_one, Nat.add_zero, Array.getElem?_setIfInBounds]
      by_cases e : j = i
      · subst e; simp; omega
      · have := hc i hi' 0 (by omega)
        rw [Nat.mul_one, Nat.add_zero] at this
        simp only [e, if_false, List.getElem_set_ne e]; exact this)
    rw [List.length_set] at this
    exact this
theorem _root_.Go.Proofs.Ytbnhhmgdkiomoaa.RowsO.one {w : World} {base : Nat} {T : TypeId} {vs : List Value} {l : List (List Int)} (h : RowsO w base T vs l) : ∀ y ∈ vs, y.oneCell' = true := fun y hy => by
  obtain ⟨xs, ho⟩ := h.mem hy
  rcases ho.form with ⟨_, e⟩ | ⟨b, c, cs, e, _⟩ <;> rw [e] <;> rfl
end Go.Proofs.Ytbnhhmgdkiomoaa.OwnM
