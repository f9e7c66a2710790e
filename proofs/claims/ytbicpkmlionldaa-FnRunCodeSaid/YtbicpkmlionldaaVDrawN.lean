/- Draws of states of a machine. Condition: fewer than 2^40 picks so far. -/
import Derived.Test.YtbicpkmlionldaaVDrawD
import Derived.Test.YtbicpkmlionldaaVP4
import Derived.Test.YtbicpkmlionldaaVP1
namespace Go.Proofs.Ytbicpkmlionldaa.DrawN
open Go.RowKit Kit Draw DrawX MarkC
set_option linter.unusedVariables false
theorem _root_.Go.Proofs.Ytbicpkmlionldaa.OwnF.cap {α : Type} {n : Nat} {enc : α → Nat → Value} {w : World} {base g m d : Nat} {T : TypeId} {xs : List α} (h : OwnF n enc w base T (.slice (some ⟨g, 0, none⟩) m d) xs) : xs.length ≤ d ∧ d ≤ maxLen := by
  rcases h.form with ⟨_, e⟩ | ⟨b, cap, cs, e, hb, hl, hm, _⟩
  · cases e
  · cases e; exact ⟨hl, hm⟩
theorem _root_.Go.Proofs.Ytbicpkmlionldaa.OwnF.take {α : Type} {n : Nat} {enc : α → Nat → Value} {w : World} {base g d : Nat} {T : TypeId} {xs : List α} (h : OwnF n enc w base T (.slice (some ⟨g, 0, none⟩) xs.length d) xs) (m : Nat) (hm : m ≤ xs.length) : OwnF n enc w base T (.slice (some ⟨g, 0, none⟩) m d) (xs.take m) := by
  rcases h.form with ⟨_, e⟩ | ⟨b, cap, cs, e, hb, hl, hmx, hh, hs, hc⟩
  · cases e
  · cases e
    have e2 : (xs.take m).length = m := by rw [List.length_take]; omega
    have := OwnF.mk' (enc := enc) (n := n) (xs := xs.take m) (base := base) hh hb (by omega) hmx hs (fun i hi t ht => by
      have hi2 : i < xs.length := by omega
      rw [List.getElem_take]; exact hc i hi2 t ht)
    rw [e2] at this; exact this
/-- a state drawn by at most c picks -/
def GotN (w : World) (br p c n m : Nat) (e : Ending) (w' : World) : Prop := ∃ (pc : Int) (vr va vb : Value) (yr ya : List Int) (yb : List (List Int)) (q : Nat), e = .returned (.agg #[.int .i64 pc, vr, va, vb]) ∧ One br w w' ∧ Rd w' br q ∧ q ≤ p + c ∧ MachO w' w.heap.size w'.heap.size vr va vb yr ya yb ∧ yr.length ≤ 14 ∧ ya.length ≤ n ∧ yb.length ≤ m ∧ (∀ y ∈ yb, 3 ≤ y.length ∧ y.length ≤ 4) ∧ -1 ≤ pc ∧ pc ≤ 1000
end Go.Proofs.Ytbicpkmlionldaa.DrawN
