/- FirstDifference and TraceSame of spec and of impl. -/
import Derived.Test.YtckikiaockkmbaaQP2
import Derived.Test.YtckikiaockkmbaaQP6
import Derived.Laws.StructEq
namespace Go.Proofs.Ytckikiaockkmbaa.Diff
open Go.RowKit Kit
set_option linter.unusedVariables false

/-- the first difference of two traces, counted from k on -/
def fd : List Ev → List Ev → Nat → Int
  | [], [], _ => -1
  | x :: xs, y :: ys, k => if x = y then fd xs ys (k + 1) else k
  | _ :: _, [], k => k
  | [], _ :: _, k => k
theorem implSame (w : World) (lo hi lo' hi' : Nat) (s t : Value) (xs ys : List Ev) (hs : EvsR w lo hi s xs) (ht : EvsR w lo' hi' t ys) :
    Calls Try.prog 14 #[s, t] w fun e w' => e = .returned (.bool (decide (xs = ys))) ∧ New w w' := by
  obtain ⟨a, c, rfl, hl1⟩ := hs.len
  obtain ⟨a', c', rfl, hl2⟩ := ht.len
  go_enter Try.func14, Try.ntmps14
  go_wp2_with fail
  refine (Sl.eqE w lo hi lo' hi' _ _ xs ys hs ht).mono ?_
  rintro e w1 ⟨rfl, k, rfl⟩
  go_wp2
  go_ret
  exact ⟨rfl, drewN_kp _ k (Kp.refl _ _)⟩
end Go.Proofs.Ytckikiaockkmbaa.Diff
