/- Draws of labels: l1Draw. Condition: fewer than 2^40 picks so far. -/
import Derived.Test.YtckikiaockkmbaaUP1
namespace Go.Proofs.Ytckikiaockkmbaa.DrawL1
open Go.RowKit Kit Draw
set_option linter.unusedVariables false
/-- an int drawn by at most c picks -/
def Num (w : World) (br p c : Nat) (e : Ending) (w' : World) : Prop := ∃ (v : Int) (q : Nat), e = .returned (.int .i64 v) ∧ One br w w' ∧ Rd w' br q ∧ q ≤ p + c

set_option maxHeartbeats 400000 in
theorem l1Draw (w : World) (br p : Nat) (h : Rd w br p) (hp : p + 2 < 1099511627776) :
    Calls Try.prog 129 #[.pointer (some ⟨br, 0, none⟩)] w (Num w br p 2) := by
  go_enter Try.func129, Try.ntmps129
  go_wp2_with fail
  refine (pick w br p _ h (by omega)).mono ?_
  rintro e w1 ⟨v, rfl, v0, v1, _, h1, h2⟩
  clear v1
  by_cases hv : v = 0
  · subst hv
    go_wp2_with fail
    refine (num _ br (p + 1) _ 4 _ (fun _ => True) (h2.keep (S := fun _ => False) ((Kp.refl _ _).alloc _) (fun _ f => f.elim)) (by omega) (by omega) (by have := h2.lt; omega) (by omega) ?_).mono ?_
    · intro i hi
      match i, hi with
      | 0, _ => exact ⟨_, trivial, World.cell?_alloc_new _ _ _ _⟩
      | 1, _ => exact ⟨_, trivial, World.cell?_alloc_new _ _ _ _⟩
      | 2, _ => exact ⟨_, trivial, World.cell?_alloc_new _ _ _ _⟩
      | 3, _ => exact ⟨_, trivial, World.cell?_alloc_new _ _ _ _⟩
    · rintro e w2 ⟨x, rfl, _, h3, h4⟩
      go_wp2
      go_ret
      exact ⟨x, _, rfl, (h1.alloc _).trans h3, h4, by omega⟩
  · have hv2 : (v == 0) = false := by simpa using hv
    go_wp2_with fail
    refine (pick w1 br (p + 1) _ h2 (by omega)).mono ?_
    rintro e w2 ⟨x, rfl, x0, x1, _, h3, h4⟩
    clear x1
    go_wp2
    go_ret
    exact ⟨x, _, rfl, h1.trans h3, h4, by omega⟩

end Go.Proofs.Ytckikiaockkmbaa.DrawL1
