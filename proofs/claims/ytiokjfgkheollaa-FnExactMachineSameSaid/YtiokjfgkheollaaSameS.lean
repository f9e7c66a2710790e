/- Machine: a struct with a Memory inside. Condition: at most 2^20 elements. -/
import Derived.Test.YtiokjfgkheollaaSameM
namespace Go.Proofs.Ytiokjfgkheollaa.SameS
open Go.RowKit Kit
set_option linter.unusedVariables false
set_option maxHeartbeats 1000000 in
theorem implSame (w : World) (lo hi lo' hi' : Nat) (pc pd : Int) (mr ma mb nr na nb : Value) (xr xa yr ya : List Int) (xb yb : List (List Int)) (rr : IntsR w lo hi mr xr) (ra : IntsR w lo hi ma xa) (rb : MatR w lo hi mb xb) (sr : IntsR w lo' hi' nr yr) (sa : IntsR w lo' hi' na ya) (sb : MatR w lo' hi' nb yb) (h1 : hi ≤ w.heap.size) (h2 : hi' ≤ w.heap.size) :
    Calls Try.prog 33 #[.agg #[.int .i64 pc, mr, ma, mb], .agg #[.int .i64 pd, nr, na, nb]] w fun e w' => e = .returned (.bool (pc == pd && (decide (xr = yr) && (decide (xa = ya) && decide (xb = yb))))) ∧ New w w' := by
  by_cases hpc : pc = pd
  · subst hpc
    go_enter Try.func33, Try.ntmps33
    go_wp2_with fail
    have N0 : New w ((w.alloc (.cells #[.int .i64 pc, mr, ma, mb] 56)).alloc (.cells #[.int .i64 pc, nr, na, nb] 56)) := ((Kp.refl _ _).alloc _).alloc _
    have bA : ((w.alloc (.cells #[.int .i64 pc, mr, ma, mb] 56)).alloc (.cells #[.int .i64 pc, nr, na, nb] 56)).heap[w.heap.size]? = some (.cells #[.int .i64 pc, mr, ma, mb] 56) := heap_old (alloc_heap _ _)
    have bB : ((w.alloc (.cells #[.int .i64 pc, mr, ma, mb] 56)).alloc (.cells #[.int .i64 pc, nr, na, nb] 56)).heap[w.heap.size + 1]? = some (.cells #[.int .i64 pc, nr, na, nb] 56) := heap_at (by simp)
    have z0 : w.heap.size ≤ ((w.alloc (.cells #[.int .i64 pc, mr, ma, mb] 56)).alloc (.cells #[.int .i64 pc, nr, na, nb] 56)).heap.size := N0.size
    generalize ((w.alloc (.cells #[.int .i64 pc, mr, ma, mb] 56)).alloc (.cells #[.int .i64 pc, nr, na, nb] 56)) = w0 at *
    have bA_c0 := cell_of_heap bA 0
    have bA_c1 := cell_of_heap bA 1
    have bA_c2 := cell_of_heap bA 2
    have bA_c3 := cell_of_heap bA 3
    have bB_c0 := cell_of_heap bB 0
    have bB_c1 := cell_of_heap bB 1
    have bB_c2 := cell_of_heap bB 2
    have bB_c3 := cell_of_heap bB 3
    refine (newOf (Sl.eqI _ _ _ _ _ _ _ _ _ (rr.new h1 N0) (sr.new h2 N0))).mono ?_
    rintro e w1 ⟨rfl, hn1⟩
    have z1 : w0.heap.size ≤ w1.heap.size := hn1.size
    have N1 : New w w1 := N0.trans hn1
    have bA_1 := heap_new hn1 bA
    clear bA bA_c0 bA_c1 bA_c2 bA_c3
    have bA_1_c0 := cell_of_heap bA_1 0
    have bA_1_c1 := cell_of_heap bA_1 1
    have bA_1_c2 := cell_of_heap bA_1 2
    have bA_1_c3 := cell_of_heap bA_1 3
    have bB_1 := heap_new hn1 bB
    clear bB bB_c0 bB_c1 bB_c2 bB_c3
    have bB_1_c0 := cell_of_heap bB_1 0
    have bB_1_c1 := cell_of_heap bB_1 1
    have bB_1_c2 := cell_of_heap bB_1 2
    have bB_1_c3 := cell_of_heap bB_1 3
    clear hn1
    cases er : decide (xr = yr)
    · go_wp2
      go_ret
      exact ⟨retB (by rw [er, beq_self_eq_true]; rfl), N1⟩
    go_wp2_with fail
    refine (SameM.implSame _ _ _ _ _ _ _ _ _ _ _ _ _ (ra.new h1 N1) (rb.new h1 N1) (sa.new h2 N1) (sb.new h2 N1) (by omega) (by omega)).mono ?_
    rintro e w2 ⟨rfl, hn2⟩
    have z2 : w1.heap.size ≤ w2.heap.size := hn2.size
    have N2 : New w w2 := N1.trans hn2
    have bA_2 := heap_new hn2 bA_1
    clear bA_1 bA_1_c0 bA_1_c1 bA_1_c2 bA_1_c3
    have bA_2_c0 := cell_of_heap bA_2 0
    have bA_2_c1 := cell_of_heap bA_2 1
    have bA_2_c2 := cell_of_heap bA_2 2
    have bA_2_c3 := cell_of_heap bA_2 3
    have bB_2 := heap_new hn2 bB_1
    clear bB_1 bB_1_c0 bB_1_c1 bB_1_c2 bB_1_c3
    have bB_2_c0 := cell_of_heap bB_2 0
    have bB_2_c1 := cell_of_heap bB_2 1
    have bB_2_c2 := cell_of_heap bB_2 2
    have bB_2_c3 := cell_of_heap bB_2 3
    clear hn2
    obtain ⟨bb, hbb⟩ : ∃ bb, (decide (xa = ya) && decide (xb = yb)) = bb := ⟨_, rfl⟩
    rw [hbb]
    cases bb
    all_goals
      go_wp2
      go_ret
      exact ⟨retB (by rw [er, hbb, beq_self_eq_true]; rfl), N2⟩
  · have e1 : (pc == pd) = false := by simpa using hpc
    have e2 : (pc != pd) = true := by simp [hpc]
    go_enter Try.func33, Try.ntmps33
    go_wp2_with fail
    go_ret
    exact ⟨retB (by rw [e1]; rfl), ((Kp.refl _ _).alloc _).alloc _⟩
set_option maxHeartbeats 1000000 in
theorem specSame (w : World) (lo hi lo' hi' : Nat) (pc pd : Int) (mr ma mb nr na nb : Value) (xr xa yr ya : List Int) (xb yb : List (List Int)) (rr : IntsR w lo hi mr xr) (ra : IntsR w lo hi ma xa) (rb : MatR w lo hi mb xb) (sr : IntsR w lo' hi' nr yr) (sa : IntsR w lo' hi' na ya) (sb : MatR w lo' hi' nb yb) (h1 : hi ≤ w.heap.size) (h2 : hi' ≤ w.heap.size) :
    Calls Try.prog 31 #[.agg #[.int .i64 pc, mr, ma, mb], .agg #[.int .i64 pd, nr, na, nb]] w fun e w' => e = .returned (.bool (pc == pd && (decide (xr = yr) && (decide (xa = ya) && decide (xb = yb))))) ∧ New w w' := by
  by_cases hpc : pc = pd
  · subst hpc
    go_enter Try.func31, Try.ntmps31
    go_wp2_with fail
    have N0 : New w ((w.alloc (.cells #[.int .i64 pc, mr, ma, mb] 56)).alloc (.cells #[.int .i64 pc, nr, na, nb] 56)) := ((Kp.refl _ _).alloc _).alloc _
    have bA : ((w.alloc (.cells #[.int .i64 pc, mr, ma, mb] 56)).alloc (.cells #[.int .i64 pc, nr, na, nb] 56)).heap[w.heap.size]? = some (.cells #[.int .i64 pc, mr, ma, mb] 56) := heap_old (alloc_heap _ _)
    have bB : ((w.alloc (.cells #[.int .i64 pc, mr, ma, mb] 56)).alloc (.cells #[.int .i64 pc, nr, na, nb] 56)).heap[w.heap.size + 1]? = some (.cells #[.int .i64 pc, nr, na, nb] 56) := heap_at (by simp)
    have z0 : w.heap.size ≤ ((w.alloc (.cells #[.int .i64 pc, mr, ma, mb] 56)).alloc (.cells #[.int .i64 pc, nr, na, nb] 56)).heap.size := N0.size
    generalize ((w.alloc (.cells #[.int .i64 pc, mr, ma, mb] 56)).alloc (.cells #[.int .i64 pc, nr, na, nb] 56)) = w0 at *
    have bA_c0 := cell_of_heap bA 0
    have bA_c1 := cell_of_heap bA 1
    have bA_c2 := cell_of_heap bA 2
    have bA_c3 := cell_of_heap bA 3
    have bB_c0 := cell_of_heap bB 0
    have bB_c1 := cell_of_heap bB 1
    have bB_c2 := cell_of_heap bB 2
    have bB_c3 := cell_of_heap bB 3
    refine (newOf (SameC.l2Ints _ _ _ _ _ _ _ _ _ (rr.new h1 N0) (sr.new h2 N0))).mono ?_
    rintro e w1 ⟨rfl, hn1⟩
    have z1 : w0.heap.size ≤ w1.heap.size := hn1.size
    have N1 : New w w1 := N0.trans hn1
    have bA_1 := heap_new hn1 bA
    clear bA bA_c0 bA_c1 bA_c2 bA_c3
    have bA_1_c0 := cell_of_heap bA_1 0
    have bA_1_c1 := cell_of_heap bA_1 1
    have bA_1_c2 := cell_of_heap bA_1 2
    have bA_1_c3 := cell_of_heap bA_1 3
    have bB_1 := heap_new hn1 bB
    clear bB bB_c0 bB_c1 bB_c2 bB_c3
    have bB_1_c0 := cell_of_heap bB_1 0
    have bB_1_c1 := cell_of_heap bB_1 1
    have bB_1_c2 := cell_of_heap bB_1 2
    have bB_1_c3 := cell_of_heap bB_1 3
    clear hn1
    cases er : decide (xr = yr)
    · go_wp2
      go_ret
      exact ⟨retB (by rw [er, beq_self_eq_true]; rfl), N1⟩
    go_wp2_with fail
    refine (SameM.specSame _ _ _ _ _ _ _ _ _ _ _ _ _ (ra.new h1 N1) (rb.new h1 N1) (sa.new h2 N1) (sb.new h2 N1) (by omega) (by omega)).mono ?_
    rintro e w2 ⟨rfl, hn2⟩
    have z2 : w1.heap.size ≤ w2.heap.size := hn2.size
    have N2 : New w w2 := N1.trans hn2
    have bA_2 := heap_new hn2 bA_1
    clear bA_1 bA_1_c0 bA_1_c1 bA_1_c2 bA_1_c3
    have bA_2_c0 := cell_of_heap bA_2 0
    have bA_2_c1 := cell_of_heap bA_2 1
    have bA_2_c2 := cell_of_heap bA_2 2
    have bA_2_c3 := cell_of_heap bA_2 3
    have bB_2 := heap_new hn2 bB_1
    clear bB_1 bB_1_c0 bB_1_c1 bB_1_c2 bB_1_c3
    have bB_2_c0 := cell_of_heap bB_2 0
    have bB_2_c1 := cell_of_heap bB_2 1
    have bB_2_c2 := cell_of_heap bB_2 2
    have bB_2_c3 := cell_of_heap bB_2 3
    clear hn2
    obtain ⟨bb, hbb⟩ : ∃ bb, (decide (xa = ya) && decide (xb = yb)) = bb := ⟨_, rfl⟩
    rw [hbb]
    cases bb
    all_goals
      go_wp2
      go_ret
      exact ⟨retB (by rw [er, hbb, beq_self_eq_true]; rfl), N2⟩
  · have e1 : (pc == pd) = false := by simpa using hpc
    have e2 : (pc != pd) = true := by simp [hpc]
    go_enter Try.func31, Try.ntmps31
    go_wp2_with fail
    go_ret
    exact ⟨retB (by rw [e1]; rfl), ((Kp.refl _ _).alloc _).alloc _⟩
end Go.Proofs.Ytiokjfgkheollaa.SameS
