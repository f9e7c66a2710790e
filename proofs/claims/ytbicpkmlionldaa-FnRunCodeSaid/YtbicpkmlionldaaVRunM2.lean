/- RunCode of both in the words of the laws. Conditions: bounds on the lengths. -/
import Derived.Test.YtbicpkmlionldaaVRunS
namespace Go.Proofs.Ytbicpkmlionldaa.RunM2
open Go.RowKit Kit Step StepK Val MarkC RunP RunC
set_option linter.unusedVariables false
theorem implA (w : World) (lo hi lo' hi' : Nat) (ta tb tc ma mb : Value) (xa xb ya : List Int) (x : List Ins) (yb : List (List Int)) (sa : IntsR w lo hi ta xa) (sb : IntsR w lo hi tb xb) (s : InssR w lo hi tc x) (h1 : hi ≤ w.heap.size) (hO : MemO w lo' hi' ma mb ya yb) (h2 : hi' ≤ w.heap.size)
    (m0 : ya.length ≤ 1099511627776) (m1 : yb.length ≤ 1073741824) (m2 : ∀ x ∈ yb, x.length ≤ 1099511627776) {t : Bool} {z : Ms} {zl : List Ev} (ht : resT (runR xa xb x ya yb) = t) (hz : resZ (runR xa xb x ya yb) = z) (hl : resL (runR xa xb x ya yb) = zl) :
    Calls Try.prog 7 #[.agg #[ta, tb, tc], .agg #[ma, mb]] w (Post w t z zl) :=
  (implR w lo hi lo' hi' ta tb tc ma mb xa xb ya x yb sa sb s h1 hO h2 m0 m1 m2).mono fun _ _ h => h.post ht hz hl
theorem specA (w : World) (lo hi lo' hi' : Nat) (ta tb tc ma mb : Value) (xa xb ya : List Int) (x : List Ins) (yb : List (List Int)) (sa : IntsR w lo hi ta xa) (sb : IntsR w lo hi tb xb) (s : InssR w lo hi tc x) (h1 : hi ≤ w.heap.size) (ra : IntsR w lo' hi' ma ya) (rb : MatR w lo' hi' mb yb) (h2 : hi' ≤ w.heap.size)
    (m0 : ya.length ≤ 1099511627776) (m1 : yb.length ≤ 1073741824) (m2 : ∀ x ∈ yb, x.length ≤ 1099511627776) {t : Bool} {z : Ms} {zl : List Ev} (ht : resT (runR xa xb x ya yb) = t) (hz : resZ (runR xa xb x ya yb) = z) (hl : resL (runR xa xb x ya yb) = zl) :
    Calls Try.prog 8 #[.agg #[ta, tb, tc], .agg #[ma, mb]] w (Post w t z zl) :=
  (RunS.specR w lo hi lo' hi' ta tb tc ma mb xa xb ya x yb sa sb s h1 ra rb h2 m0 m1 m2).mono fun _ _ h => h.post ht hz hl
end Go.Proofs.Ytbicpkmlionldaa.RunM2
