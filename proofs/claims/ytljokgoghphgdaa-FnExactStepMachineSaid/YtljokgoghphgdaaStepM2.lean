/- StepMachine of both in the words of the laws. Conditions: bounds on the lengths. -/
import Derived.Test.YtljokgoghphgdaaStepC
namespace Go.Proofs.Ytljokgoghphgdaa.StepM2
open Go.RowKit Kit Step StepK Val MarkC RunP StepC
set_option linter.unusedVariables false
theorem implA (w : World) (lo hi lo' hi' : Nat) (ta tb tc vr va vb : Value) (pc : Int) (xa xb yr ya : List Int) (x : List Ins) (yb : List (List Int)) (sa : IntsR w lo hi ta xa) (sb : IntsR w lo hi tb xb) (s : InssR w lo hi tc x) (h1 : hi ≤ w.heap.size) (hO : MachO w lo' hi' vr va vb yr ya yb) (h2 : hi' ≤ w.heap.size)
    (mr : yr.length ≤ 1099511627776) (m0 : ya.length ≤ 1099511627776) (m1 : yb.length ≤ 1073741824) (m2 : ∀ x ∈ yb, x.length ≤ 1099511627776) {t : Bool} {z : Ms} {zl : List Ev} (ht : machB xa xb x pc yr ya yb = t) (hz : out t (eff (ins x pc) ⟨pc, yr, ya, yb⟩).1 = z) (hl : Rec.pk t ((5, pc) :: (eff (ins x pc) ⟨pc, yr, ya, yb⟩).2) = zl) :
    Calls Try.prog 15 #[.agg #[ta, tb, tc], .agg #[.int .i64 pc, vr, va, vb]] w (Post w t z zl) :=
  (implS w lo hi lo' hi' ta tb tc vr va vb pc xa xb yr ya x yb sa sb s h1 hO h2 mr m0 m1 m2).mono fun _ _ h => by rw [ht] at h; exact h.post hz hl
theorem specA (w : World) (lo hi lo' hi' : Nat) (ta tb tc vr va vb : Value) (pc : Int) (xa xb yr ya : List Int) (x : List Ins) (yb : List (List Int)) (sa : IntsR w lo hi ta xa) (sb : IntsR w lo hi tb xb) (s : InssR w lo hi tc x) (h1 : hi ≤ w.heap.size) (rr : IntsR w lo' hi' vr yr) (ra : IntsR w lo' hi' va ya) (rb : MatR w lo' hi' vb yb) (h2 : hi' ≤ w.heap.size)
    (mr : yr.length ≤ 1099511627776) (m0 : ya.length ≤ 1099511627776) (m1 : yb.length ≤ 1073741824) (m2 : ∀ x ∈ yb, x.length ≤ 1099511627776) {t : Bool} {z : Ms} {zl : List Ev} (ht : machB xa xb x pc yr ya yb = t) (hz : out t (eff (ins x pc) ⟨pc, yr, ya, yb⟩).1 = z) (hl : Rec.pk t ((5, pc) :: (eff (ins x pc) ⟨pc, yr, ya, yb⟩).2) = zl) :
    Calls Try.prog 16 #[.agg #[ta, tb, tc], .agg #[.int .i64 pc, vr, va, vb]] w (Post w t z zl) :=
  (specS w lo hi lo' hi' ta tb tc vr va vb pc xa xb yr ya x yb sa sb s h1 rr ra rb h2 mr m0 m1 m2).mono fun _ _ h => by rw [ht] at h; exact h.post hz hl
end Go.Proofs.Ytljokgoghphgdaa.StepM2
