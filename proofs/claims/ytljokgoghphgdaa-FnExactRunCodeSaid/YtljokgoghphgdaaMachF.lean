/- Machine: a struct with a Memory inside. Condition: at most 2^20 elements. -/
import Derived.Test.YtljokgoghphgdaaMemF
namespace Go.Proofs.Ytljokgoghphgdaa.MachF
open Go.RowKit Kit
set_option linter.unusedVariables false
set_option maxHeartbeats 1000000 in
theorem szMachine (w : World) (lo hi : Nat) (pc : Int) (mr ma mb : Value) (xr xa : List Int) (xb : List (List Int)) (rr : IntsR w lo hi mr xr) (ra : IntsR w lo hi ma xa) (rb : MatR w lo hi mb xb) (left : Int) (h0 : 0 ≤ left) (hm : left ≤ 1048576) (h1 : hi ≤ w.heap.size) :
    Calls Try.prog 45 #[.agg #[.int .i64 pc, mr, ma, mb], .int .i64 left] w fun e w' => e = .returned (.int .i64 (szOf left (xr.length + (xa.length + msz xb)))) ∧ New w w' := by
  obtain ⟨a0, c0, rfl, m0⟩ := rr.len
  by_cases q0 : ((xr.length : Nat) : Int) ≤ left
  · by_cases q1 : ((xa.length + msz xb : Nat) : Int) ≤ left - (xr.length : Nat)
    · go_enter Try.func45, Try.ntmps45
      go_wp2_with fail
      refine (LawF.szIntS _ _ _ _ _ m0 (by omega) (by omega)).mono ?_
      rintro e w1 ⟨rfl, rfl⟩
      rw [szOf_hi (by omega)]
      go_wp2_with fail
      refine (MemF.szMemory _ lo hi _ _ _ _ (ra.new h1 ((Kp.refl _ _).alloc _)) (rb.new h1 ((Kp.refl _ _).alloc _)) (left - (xr.length : Nat)) (by omega) (by omega) (by simp; omega)).mono ?_
      rintro e w1 ⟨rfl, hn⟩
      rw [szOf_hi (by omega)]
      go_wp2
      go_ret
      exact ⟨retI (by rw [szOf_hi (by omega)]; omega), ((Kp.refl _ _).alloc _).trans hn⟩
    · go_enter Try.func45, Try.ntmps45
      go_wp2_with fail
      refine (LawF.szIntS _ _ _ _ _ m0 (by omega) (by omega)).mono ?_
      rintro e w1 ⟨rfl, rfl⟩
      rw [szOf_hi (by omega)]
      go_wp2_with fail
      refine (MemF.szMemory _ lo hi _ _ _ _ (ra.new h1 ((Kp.refl _ _).alloc _)) (rb.new h1 ((Kp.refl _ _).alloc _)) (left - (xr.length : Nat)) (by omega) (by omega) (by simp; omega)).mono ?_
      rintro e w1 ⟨rfl, hn⟩
      rw [szOf_lo (by omega)]
      go_wp2
      go_ret
      exact ⟨retI (by rw [szOf_lo (by omega)]), ((Kp.refl _ _).alloc _).trans hn⟩
  · go_enter Try.func45, Try.ntmps45
    go_wp2_with fail
    refine (LawF.szIntS _ _ _ _ _ m0 (by omega) (by omega)).mono ?_
    rintro e w1 ⟨rfl, rfl⟩
    rw [szOf_lo (by omega)]
    go_wp2
    go_ret
    exact ⟨retI (by rw [szOf_lo (by omega)]), (Kp.refl _ _).alloc _⟩
set_option maxHeartbeats 1000000 in
theorem eqMachine (w : World) (lo hi lo' hi' : Nat) (pc pd : Int) (mr ma mb nr na nb : Value) (xr xa yr ya : List Int) (xb yb : List (List Int)) (rr : IntsR w lo hi mr xr) (ra : IntsR w lo hi ma xa) (rb : MatR w lo hi mb xb) (sr : IntsR w lo' hi' nr yr) (sa : IntsR w lo' hi' na ya) (sb : MatR w lo' hi' nb yb) (h1 : hi ≤ w.heap.size) (h2 : hi' ≤ w.heap.size) :
    Calls Try.prog 34 #[.agg #[.int .i64 pc, mr, ma, mb], .agg #[.int .i64 pd, nr, na, nb]] w fun e w' => e = .returned (.bool (pc == pd && (decide (xr = yr) && (decide (xa = ya) && decide (xb = yb))))) ∧ New w w' := by
  by_cases hpc : pc = pd
  · subst hpc
    go_enter Try.func34, Try.ntmps34
    go_wp2_with fail
    have N0 : New w ((w.alloc (.cells #[.int .i64 pc, mr, ma, mb] 31)).alloc (.cells #[.int .i64 pc, nr, na, nb] 31)) := ((Kp.refl _ _).alloc _).alloc _
    have bA : ((w.alloc (.cells #[.int .i64 pc, mr, ma, mb] 31)).alloc (.cells #[.int .i64 pc, nr, na, nb] 31)).heap[w.heap.size]? = some (.cells #[.int .i64 pc, mr, ma, mb] 31) := heap_old (alloc_heap _ _)
    have bB : ((w.alloc (.cells #[.int .i64 pc, mr, ma, mb] 31)).alloc (.cells #[.int .i64 pc, nr, na, nb] 31)).heap[w.heap.size + 1]? = some (.cells #[.int .i64 pc, nr, na, nb] 31) := heap_at (by simp)
    have z0 : w.heap.size ≤ ((w.alloc (.cells #[.int .i64 pc, mr, ma, mb] 31)).alloc (.cells #[.int .i64 pc, nr, na, nb] 31)).heap.size := N0.size
    generalize ((w.alloc (.cells #[.int .i64 pc, mr, ma, mb] 31)).alloc (.cells #[.int .i64 pc, nr, na, nb] 31)) = w0 at *
    have bA_c0 := cell_of_heap bA 0
    have bA_c1 := cell_of_heap bA 1
    have bA_c2 := cell_of_heap bA 2
    have bA_c3 := cell_of_heap bA 3
    have bB_c0 := cell_of_heap bB 0
    have bB_c1 := cell_of_heap bB 1
    have bB_c2 := cell_of_heap bB 2
    have bB_c3 := cell_of_heap bB 3
    refine (newOf (LawF.eqIntS _ _ _ _ _ _ _ _ _ (rr.new h1 N0) (sr.new h2 N0))).mono ?_
    rintro e w1 ⟨rfl, hn1⟩
    have z1 : w0.heap.size ≤ w1.heap.size := hn1.size
    have N1 : New w w1 := N0.trans hn1
    have bA_1 := heap_new hn1 bA
    clear bA bA_c0 bA_c1 bA_c2 bA_c3
    have bA_1_c0 := cell_of_heap bA_1 0
    have bA_1_c1 := cell_of_heap bA_1 1
    have bA_1_c2 := cell_of_heap bA_1 2
    have bA_1_c3 := cell_of_heap bA_1 3
    have bB_1 := heap_new hn1 bB
    clear bB bB_c0 bB_c1 bB_c2 bB_c3
    have bB_1_c0 := cell_of_heap bB_1 0
    have bB_1_c1 := cell_of_heap bB_1 1
    have bB_1_c2 := cell_of_heap bB_1 2
    have bB_1_c3 := cell_of_heap bB_1 3
    clear hn1
    cases er : decide (xr = yr)
    · go_wp2
      go_ret
      exact ⟨retB (by rw [er, beq_self_eq_true]; rfl), N1⟩
    go_wp2_with fail
    refine (MemF.eqMemory _ _ _ _ _ _ _ _ _ _ _ _ _ (ra.new h1 N1) (rb.new h1 N1) (sa.new h2 N1) (sb.new h2 N1) (by omega) (by omega)).mono ?_
    rintro e w2 ⟨rfl, hn2⟩
    have z2 : w1.heap.size ≤ w2.heap.size := hn2.size
    have N2 : New w w2 := N1.trans hn2
    have bA_2 := heap_new hn2 bA_1
    clear bA_1 bA_1_c0 bA_1_c1 bA_1_c2 bA_1_c3
    have bA_2_c0 := cell_of_heap bA_2 0
    have bA_2_c1 := cell_of_heap bA_2 1
    have bA_2_c2 := cell_of_heap bA_2 2
    have bA_2_c3 := cell_of_heap bA_2 3
    have bB_2 := heap_new hn2 bB_1
    clear bB_1 bB_1_c0 bB_1_c1 bB_1_c2 bB_1_c3
    have bB_2_c0 := cell_of_heap bB_2 0
    have bB_2_c1 := cell_of_heap bB_2 1
    have bB_2_c2 := cell_of_heap bB_2 2
    have bB_2_c3 := cell_of_heap bB_2 3
    clear hn2
    obtain ⟨bb, hbb⟩ : ∃ bb, (decide (xa = ya) && decide (xb = yb)) = bb := ⟨_, rfl⟩
    rw [hbb]
    cases bb
    all_goals
      go_wp2
      go_ret
      exact ⟨retB (by rw [er, hbb, beq_self_eq_true]; rfl), N2⟩
  · have e1 : (pc == pd) = false := by simpa using hpc
    have e2 : (pc != pd) = true := by simp [hpc]
    go_enter Try.func34, Try.ntmps34
    go_wp2_with fail
    go_ret
    exact ⟨retB (by rw [e1]; rfl), ((Kp.refl _ _).alloc _).alloc _⟩
theorem eqMachine1 (w : World) (lo hi lo' hi' : Nat) (pc : Int) (mr ma mb nr na nb : Value) (xr xa : List Int) (xb : List (List Int)) (rr : IntsR w lo hi mr xr) (ra : IntsR w lo hi ma xa) (rb : MatR w lo hi mb xb) (sr : IntsR w lo' hi' nr xr) (sa : IntsR w lo' hi' na xa) (sb : MatR w lo' hi' nb xb) (h1 : hi ≤ w.heap.size) (h2 : hi' ≤ w.heap.size) :
    Calls Try.prog 34 #[.agg #[.int .i64 pc, mr, ma, mb], .agg #[.int .i64 pc, nr, na, nb]] w fun e w' => e = .returned (.bool true) ∧ New w w' :=
  (eqMachine w lo hi lo' hi' pc pc mr ma mb nr na nb xr xa xr xa xb xb rr ra rb sr sa sb h1 h2).mono fun e w' ⟨h, k⟩ => ⟨by rw [h]; simp, k⟩
set_option maxHeartbeats 1000000 in
theorem toMachine (w : World) (lo hi : Nat) (pc : Int) (mr ma mb : Value) (xr xa : List Int) (xb : List (List Int)) (rr : IntsR w lo hi mr xr) (ra : IntsR w lo hi ma xa) (rb : MatR w lo hi mb xb) (h1 : hi ≤ w.heap.size) (m0 : xr.length ≤ 1048576) (m1 : xa.length ≤ 1048576) (m2 : msz xb ≤ 1048576) :
    Calls Try.prog 46 #[.agg #[.int .i64 pc, mr, ma, mb]] w fun e w' => ∃ va vb vc, e = .returned (.agg #[.int .i64 pc, va, vb, vc]) ∧ New w w' ∧ IntsR w' w.heap.size w'.heap.size va xr ∧ IntsR w' w.heap.size w'.heap.size vb xa ∧ MatR w' w.heap.size w'.heap.size vc xb := by
  go_enter Try.func46, Try.ntmps46
  go_wp2_with fail
  have N0 : New w (((w.alloc (.cells #[.int .i64 pc, mr, ma, mb] 70)).alloc (.cells #[.int .i64 0, .slice none 0 0, .slice none 0 0, .slice none 0 0] 31)).alloc (.cells #[.int .i64 pc, .slice none 0 0, .slice none 0 0, .slice none 0 0] 31)) := (((Kp.refl _ _).alloc _).alloc _).alloc _
  have bA : (((w.alloc (.cells #[.int .i64 pc, mr, ma, mb] 70)).alloc (.cells #[.int .i64 0, .slice none 0 0, .slice none 0 0, .slice none 0 0] 31)).alloc (.cells #[.int .i64 pc, .slice none 0 0, .slice none 0 0, .slice none 0 0] 31)).heap[w.heap.size]? = some (.cells #[.int .i64 pc, mr, ma, mb] 70) := heap_old (heap_old (alloc_heap _ _))
  have bR : (((w.alloc (.cells #[.int .i64 pc, mr, ma, mb] 70)).alloc (.cells #[.int .i64 0, .slice none 0 0, .slice none 0 0, .slice none 0 0] 31)).alloc (.cells #[.int .i64 pc, .slice none 0 0, .slice none 0 0, .slice none 0 0] 31)).heap[w.heap.size + 1]? = some (.cells #[.int .i64 0, .slice none 0 0, .slice none 0 0, .slice none 0 0] 31) := heap_old (heap_at (by simp))
  have bO : (((w.alloc (.cells #[.int .i64 pc, mr, ma, mb] 70)).alloc (.cells #[.int .i64 0, .slice none 0 0, .slice none 0 0, .slice none 0 0] 31)).alloc (.cells #[.int .i64 pc, .slice none 0 0, .slice none 0 0, .slice none 0 0] 31)).heap[w.heap.size + 1 + 1]? = some (.cells #[.int .i64 pc, .slice none 0 0, .slice none 0 0, .slice none 0 0] 31) := heap_at (by simp)
  have z0 : w.heap.size + 1 + 1 < (((w.alloc (.cells #[.int .i64 pc, mr, ma, mb] 70)).alloc (.cells #[.int .i64 0, .slice none 0 0, .slice none 0 0, .slice none 0 0] 31)).alloc (.cells #[.int .i64 pc, .slice none 0 0, .slice none 0 0, .slice none 0 0] 31)).heap.size := by simp
  generalize (((w.alloc (.cells #[.int .i64 pc, mr, ma, mb] 70)).alloc (.cells #[.int .i64 0, .slice none 0 0, .slice none 0 0, .slice none 0 0] 31)).alloc (.cells #[.int .i64 pc, .slice none 0 0, .slice none 0 0, .slice none 0 0] 31)) = w0 at *
  have bA_c0 := cell_of_heap bA 0
  have bA_c1 := cell_of_heap bA 1
  have bA_c2 := cell_of_heap bA 2
  have bA_c3 := cell_of_heap bA 3
  have bR_c0 := cell_of_heap bR 0
  have bR_c1 := cell_of_heap bR 1
  have bR_c2 := cell_of_heap bR 2
  have bR_c3 := cell_of_heap bR 3
  have bR_f := frozen_of_heap bR
  have bO_c0 := cell_of_heap bO 0
  have bO_c1 := cell_of_heap bO 1
  have bO_c2 := cell_of_heap bO 2
  have bO_c3 := cell_of_heap bO 3
  have bO_f := frozen_of_heap bO
  refine (LawF.toIntS _ _ _ _ _ (rr.new h1 N0) (by omega) (by omega)).mono ?_
  rintro e w1 ⟨vX, rfl, hn1, oX⟩
  have z1 : w0.heap.size ≤ w1.heap.size := hn1.size
  have N1 : New w w1 := N0.trans hn1
  have bA_1 := heap_new hn1 bA
  clear bA bA_c0 bA_c1 bA_c2 bA_c3
  have bA_1_c0 := cell_of_heap bA_1 0
  have bA_1_c1 := cell_of_heap bA_1 1
  have bA_1_c2 := cell_of_heap bA_1 2
  have bA_1_c3 := cell_of_heap bA_1 3
  have bR_1 := heap_new hn1 bR
  clear bR bR_c0 bR_c1 bR_c2 bR_c3 bR_f
  have bR_1_c0 := cell_of_heap bR_1 0
  have bR_1_c1 := cell_of_heap bR_1 1
  have bR_1_c2 := cell_of_heap bR_1 2
  have bR_1_c3 := cell_of_heap bR_1 3
  have bR_1_f := frozen_of_heap bR_1
  have bO_1 := heap_new hn1 bO
  clear bO bO_c0 bO_c1 bO_c2 bO_c3 bO_f
  have bO_1_c0 := cell_of_heap bO_1 0
  have bO_1_c1 := cell_of_heap bO_1 1
  have bO_1_c2 := cell_of_heap bO_1 2
  have bO_1_c3 := cell_of_heap bO_1 3
  have bO_1_f := frozen_of_heap bO_1
  clear hn1
  obtain ⟨aX, cX, rfl, _⟩ := oX.reads.len
  have hk2 : One (w.heap.size + 1 + 1) w1 (w1.setCell ⟨w.heap.size + 1 + 1, 1, none⟩ (.slice aX xr.length cX)) := (Kp.refl (fun k => k = w.heap.size + 1 + 1) _).setCell (.inl rfl) _
  have z2 : w1.heap.size ≤ (w1.setCell ⟨w.heap.size + 1 + 1, 1, none⟩ (.slice aX xr.length cX)).heap.size := hk2.size
  have N2 : New w (w1.setCell ⟨w.heap.size + 1 + 1, 1, none⟩ (.slice aX xr.length cX)) := New.one N1 hk2 (by omega)
  have bA_2 : (w1.setCell ⟨w.heap.size + 1 + 1, 1, none⟩ (.slice aX xr.length cX)).heap[w.heap.size]? = some (.cells #[.int .i64 pc, mr, ma, mb] 70) := heap_set bA_1 (by omega) _
  have bA_2_c0 := cell_of_heap bA_2 0
  have bA_2_c1 := cell_of_heap bA_2 1
  have bA_2_c2 := cell_of_heap bA_2 2
  have bA_2_c3 := cell_of_heap bA_2 3
  have bR_2 : (w1.setCell ⟨w.heap.size + 1 + 1, 1, none⟩ (.slice aX xr.length cX)).heap[w.heap.size + 1]? = some (.cells #[.int .i64 0, .slice none 0 0, .slice none 0 0, .slice none 0 0] 31) := heap_set bR_1 (by omega) _
  have bR_2_c0 := cell_of_heap bR_2 0
  have bR_2_c1 := cell_of_heap bR_2 1
  have bR_2_c2 := cell_of_heap bR_2 2
  have bR_2_c3 := cell_of_heap bR_2 3
  have bR_2_f := frozen_of_heap bR_2
  have bO_2 : (w1.setCell ⟨w.heap.size + 1 + 1, 1, none⟩ (.slice aX xr.length cX)).heap[w.heap.size + 1 + 1]? = some (.cells #[.int .i64 pc, .slice aX xr.length cX, .slice none 0 0, .slice none 0 0] 31) := setCell_heap bO_1 _
  have bO_2_c0 := cell_of_heap bO_2 0
  have bO_2_c1 := cell_of_heap bO_2 1
  have bO_2_c2 := cell_of_heap bO_2 2
  have bO_2_c3 := cell_of_heap bO_2 3
  have bO_2_f := frozen_of_heap bO_2
  have X_2 := oX.kp hk2 (fun b hb e => by have := oX.lt b hb; omega)
  go_wp2_with fail
  clear bA_1 bA_1_c0 bA_1_c1 bA_1_c2 bA_1_c3
  clear bR_1 bR_1_c0 bR_1_c1 bR_1_c2 bR_1_c3 bR_1_f
  clear bO_1 bO_1_c0 bO_1_c1 bO_1_c2 bO_1_c3 bO_1_f
  clear oX
  clear hk2
  generalize (w1.setCell ⟨w.heap.size + 1 + 1, 1, none⟩ (.slice aX xr.length cX)) = w2 at *
  refine (MemF.toMemory _ _ _ _ _ _ _ (ra.new h1 N2) (rb.new h1 N2) (by omega) (by omega) (by omega)).mono ?_
  rintro e w3 ⟨vY, vZ, rfl, hn3, oY, oZ⟩
  have z3 : w2.heap.size ≤ w3.heap.size := hn3.size
  have N3 : New w w3 := N2.trans hn3
  have bA_3 := heap_new hn3 bA_2
  clear bA_2 bA_2_c0 bA_2_c1 bA_2_c2 bA_2_c3
  have bA_3_c0 := cell_of_heap bA_3 0
  have bA_3_c1 := cell_of_heap bA_3 1
  have bA_3_c2 := cell_of_heap bA_3 2
  have bA_3_c3 := cell_of_heap bA_3 3
  have bR_3 := heap_new hn3 bR_2
  clear bR_2 bR_2_c0 bR_2_c1 bR_2_c2 bR_2_c3 bR_2_f
  have bR_3_c0 := cell_of_heap bR_3 0
  have bR_3_c1 := cell_of_heap bR_3 1
  have bR_3_c2 := cell_of_heap bR_3 2
  have bR_3_c3 := cell_of_heap bR_3 3
  have bR_3_f := frozen_of_heap bR_3
  have bO_3 := heap_new hn3 bO_2
  clear bO_2 bO_2_c0 bO_2_c1 bO_2_c2 bO_2_c3 bO_2_f
  have bO_3_c0 := cell_of_heap bO_3 0
  have bO_3_c1 := cell_of_heap bO_3 1
  have bO_3_c2 := cell_of_heap bO_3 2
  have bO_3_c3 := cell_of_heap bO_3 3
  have bO_3_f := frozen_of_heap bO_3
  have X_3 := X_2.new hn3
  clear X_2
  clear hn3
  obtain ⟨aY, cY, rfl, _⟩ := oY.len
  obtain ⟨aZ, cZ, rfl, _⟩ := oZ.len
  have hk4 : One (w.heap.size + 1 + 1) w3 (w3.setCell ⟨w.heap.size + 1 + 1, 2, none⟩ (.slice aY xa.length cY)) := (Kp.refl (fun k => k = w.heap.size + 1 + 1) _).setCell (.inl rfl) _
  have z4 : w3.heap.size ≤ (w3.setCell ⟨w.heap.size + 1 + 1, 2, none⟩ (.slice aY xa.length cY)).heap.size := hk4.size
  have N4 : New w (w3.setCell ⟨w.heap.size + 1 + 1, 2, none⟩ (.slice aY xa.length cY)) := New.one N3 hk4 (by omega)
  have bA_4 : (w3.setCell ⟨w.heap.size + 1 + 1, 2, none⟩ (.slice aY xa.length cY)).heap[w.heap.size]? = some (.cells #[.int .i64 pc, mr, ma, mb] 70) := heap_set bA_3 (by omega) _
  have bA_4_c0 := cell_of_heap bA_4 0
  have bA_4_c1 := cell_of_heap bA_4 1
  have bA_4_c2 := cell_of_heap bA_4 2
  have bA_4_c3 := cell_of_heap bA_4 3
  have bR_4 : (w3.setCell ⟨w.heap.size + 1 + 1, 2, none⟩ (.slice aY xa.length cY)).heap[w.heap.size + 1]? = some (.cells #[.int .i64 0, .slice none 0 0, .slice none 0 0, .slice none 0 0] 31) := heap_set bR_3 (by omega) _
  have bR_4_c0 := cell_of_heap bR_4 0
  have bR_4_c1 := cell_of_heap bR_4 1
  have bR_4_c2 := cell_of_heap bR_4 2
  have bR_4_c3 := cell_of_heap bR_4 3
  have bR_4_f := frozen_of_heap bR_4
  have bO_4 : (w3.setCell ⟨w.heap.size + 1 + 1, 2, none⟩ (.slice aY xa.length cY)).heap[w.heap.size + 1 + 1]? = some (.cells #[.int .i64 pc, .slice aX xr.length cX, .slice aY xa.length cY, .slice none 0 0] 31) := setCell_heap bO_3 _
  have bO_4_c0 := cell_of_heap bO_4 0
  have bO_4_c1 := cell_of_heap bO_4 1
  have bO_4_c2 := cell_of_heap bO_4 2
  have bO_4_c3 := cell_of_heap bO_4 3
  have bO_4_f := frozen_of_heap bO_4
  have X_4 := X_3.kp hk4 (fun b hb e => by have := X_3.lt b hb; omega)
  have Y_4 := oY.kp hk4 (by simp) (fun b e => by omega)
  have Z_4 := oZ.kp hk4 (by simp) (fun b e => by omega)
  have hk5 : One (w.heap.size + 1 + 1) (w3.setCell ⟨w.heap.size + 1 + 1, 2, none⟩ (.slice aY xa.length cY)) ((w3.setCell ⟨w.heap.size + 1 + 1, 2, none⟩ (.slice aY xa.length cY)).setCell ⟨w.heap.size + 1 + 1, 3, none⟩ (.slice aZ xb.length cZ)) := (Kp.refl (fun k => k = w.heap.size + 1 + 1) _).setCell (.inl rfl) _
  have z5 : (w3.setCell ⟨w.heap.size + 1 + 1, 2, none⟩ (.slice aY xa.length cY)).heap.size ≤ ((w3.setCell ⟨w.heap.size + 1 + 1, 2, none⟩ (.slice aY xa.length cY)).setCell ⟨w.heap.size + 1 + 1, 3, none⟩ (.slice aZ xb.length cZ)).heap.size := hk5.size
  have N5 : New w ((w3.setCell ⟨w.heap.size + 1 + 1, 2, none⟩ (.slice aY xa.length cY)).setCell ⟨w.heap.size + 1 + 1, 3, none⟩ (.slice aZ xb.length cZ)) := New.one N4 hk5 (by omega)
  have bA_5 : ((w3.setCell ⟨w.heap.size + 1 + 1, 2, none⟩ (.slice aY xa.length cY)).setCell ⟨w.heap.size + 1 + 1, 3, none⟩ (.slice aZ xb.length cZ)).heap[w.heap.size]? = some (.cells #[.int .i64 pc, mr, ma, mb] 70) := heap_set bA_4 (by omega) _
  have bA_5_c0 := cell_of_heap bA_5 0
  have bA_5_c1 := cell_of_heap bA_5 1
  have bA_5_c2 := cell_of_heap bA_5 2
  have bA_5_c3 := cell_of_heap bA_5 3
  have bR_5 : ((w3.setCell ⟨w.heap.size + 1 + 1, 2, none⟩ (.slice aY xa.length cY)).setCell ⟨w.heap.size + 1 + 1, 3, none⟩ (.slice aZ xb.length cZ)).heap[w.heap.size + 1]? = some (.cells #[.int .i64 0, .slice none 0 0, .slice none 0 0, .slice none 0 0] 31) := heap_set bR_4 (by omega) _
  have bR_5_c0 := cell_of_heap bR_5 0
  have bR_5_c1 := cell_of_heap bR_5 1
  have bR_5_c2 := cell_of_heap bR_5 2
  have bR_5_c3 := cell_of_heap bR_5 3
  have bR_5_f := frozen_of_heap bR_5
  have bO_5 : ((w3.setCell ⟨w.heap.size + 1 + 1, 2, none⟩ (.slice aY xa.length cY)).setCell ⟨w.heap.size + 1 + 1, 3, none⟩ (.slice aZ xb.length cZ)).heap[w.heap.size + 1 + 1]? = some (.cells #[.int .i64 pc, .slice aX xr.length cX, .slice aY xa.length cY, .slice aZ xb.length cZ] 31) := setCell_heap bO_4 _
  have bO_5_c0 := cell_of_heap bO_5 0
  have bO_5_c1 := cell_of_heap bO_5 1
  have bO_5_c2 := cell_of_heap bO_5 2
  have bO_5_c3 := cell_of_heap bO_5 3
  have bO_5_f := frozen_of_heap bO_5
  have X_5 := X_4.kp hk5 (fun b hb e => by have := X_4.lt b hb; omega)
  have Y_5 := Y_4.kp hk5 (by simp) (fun b e => by omega)
  have Z_5 := Z_4.kp hk5 (by simp) (fun b e => by omega)
  go_wp2_with fail
  have hk6 : One (w.heap.size + 1) ((w3.setCell ⟨w.heap.size + 1 + 1, 2, none⟩ (.slice aY xa.length cY)).setCell ⟨w.heap.size + 1 + 1, 3, none⟩ (.slice aZ xb.length cZ)) (((w3.setCell ⟨w.heap.size + 1 + 1, 2, none⟩ (.slice aY xa.length cY)).setCell ⟨w.heap.size + 1 + 1, 3, none⟩ (.slice aZ xb.length cZ)).setCell ⟨w.heap.size + 1, 0, none⟩ (.int .i64 pc)) := (Kp.refl (fun k => k = w.heap.size + 1) _).setCell (.inl rfl) _
  have z6 : ((w3.setCell ⟨w.heap.size + 1 + 1, 2, none⟩ (.slice aY xa.length cY)).setCell ⟨w.heap.size + 1 + 1, 3, none⟩ (.slice aZ xb.length cZ)).heap.size ≤ (((w3.setCell ⟨w.heap.size + 1 + 1, 2, none⟩ (.slice aY xa.length cY)).setCell ⟨w.heap.size + 1 + 1, 3, none⟩ (.slice aZ xb.length cZ)).setCell ⟨w.heap.size + 1, 0, none⟩ (.int .i64 pc)).heap.size := hk6.size
  have N6 : New w (((w3.setCell ⟨w.heap.size + 1 + 1, 2, none⟩ (.slice aY xa.length cY)).setCell ⟨w.heap.size + 1 + 1, 3, none⟩ (.slice aZ xb.length cZ)).setCell ⟨w.heap.size + 1, 0, none⟩ (.int .i64 pc)) := New.one N5 hk6 (by omega)
  have bA_6 : (((w3.setCell ⟨w.heap.size + 1 + 1, 2, none⟩ (.slice aY xa.length cY)).setCell ⟨w.heap.size + 1 + 1, 3, none⟩ (.slice aZ xb.length cZ)).setCell ⟨w.heap.size + 1, 0, none⟩ (.int .i64 pc)).heap[w.heap.size]? = some (.cells #[.int .i64 pc, mr, ma, mb] 70) := heap_set bA_5 (by omega) _
  have bA_6_c0 := cell_of_heap bA_6 0
  have bA_6_c1 := cell_of_heap bA_6 1
  have bA_6_c2 := cell_of_heap bA_6 2
  have bA_6_c3 := cell_of_heap bA_6 3
  have bR_6 : (((w3.setCell ⟨w.heap.size + 1 + 1, 2, none⟩ (.slice aY xa.length cY)).setCell ⟨w.heap.size + 1 + 1, 3, none⟩ (.slice aZ xb.length cZ)).setCell ⟨w.heap.size + 1, 0, none⟩ (.int .i64 pc)).heap[w.heap.size + 1]? = some (.cells #[.int .i64 pc, .slice none 0 0, .slice none 0 0, .slice none 0 0] 31) := setCell_heap bR_5 _
  have bR_6_c0 := cell_of_heap bR_6 0
  have bR_6_c1 := cell_of_heap bR_6 1
  have bR_6_c2 := cell_of_heap bR_6 2
  have bR_6_c3 := cell_of_heap bR_6 3
  have bR_6_f := frozen_of_heap bR_6
  have bO_6 : (((w3.setCell ⟨w.heap.size + 1 + 1, 2, none⟩ (.slice aY xa.length cY)).setCell ⟨w.heap.size + 1 + 1, 3, none⟩ (.slice aZ xb.length cZ)).setCell ⟨w.heap.size + 1, 0, none⟩ (.int .i64 pc)).heap[w.heap.size + 1 + 1]? = some (.cells #[.int .i64 pc, .slice aX xr.length cX, .slice aY xa.length cY, .slice aZ xb.length cZ] 31) := heap_set bO_5 (by omega) _
  have bO_6_c0 := cell_of_heap bO_6 0
  have bO_6_c1 := cell_of_heap bO_6 1
  have bO_6_c2 := cell_of_heap bO_6 2
  have bO_6_c3 := cell_of_heap bO_6 3
  have bO_6_f := frozen_of_heap bO_6
  have X_6 := X_5.kp hk6 (fun b hb e => by have := X_5.lt b hb; omega)
  have Y_6 := Y_5.kp hk6 (by simp) (fun b e => by omega)
  have Z_6 := Z_5.kp hk6 (by simp) (fun b e => by omega)
  have hk7 : One (w.heap.size + 1) (((w3.setCell ⟨w.heap.size + 1 + 1, 2, none⟩ (.slice aY xa.length cY)).setCell ⟨w.heap.size + 1 + 1, 3, none⟩ (.slice aZ xb.length cZ)).setCell ⟨w.heap.size + 1, 0, none⟩ (.int .i64 pc)) ((((w3.setCell ⟨w.heap.size + 1 + 1, 2, none⟩ (.slice aY xa.length cY)).setCell ⟨w.heap.size + 1 + 1, 3, none⟩ (.slice aZ xb.length cZ)).setCell ⟨w.heap.size + 1, 0, none⟩ (.int .i64 pc)).setCell ⟨w.heap.size + 1, 1, none⟩ (.slice aX xr.length cX)) := (Kp.refl (fun k => k = w.heap.size + 1) _).setCell (.inl rfl) _
  have z7 : (((w3.setCell ⟨w.heap.size + 1 + 1, 2, none⟩ (.slice aY xa.length cY)).setCell ⟨w.heap.size + 1 + 1, 3, none⟩ (.slice aZ xb.length cZ)).setCell ⟨w.heap.size + 1, 0, none⟩ (.int .i64 pc)).heap.size ≤ ((((w3.setCell ⟨w.heap.size + 1 + 1, 2, none⟩ (.slice aY xa.length cY)).setCell ⟨w.heap.size + 1 + 1, 3, none⟩ (.slice aZ xb.length cZ)).setCell ⟨w.heap.size + 1, 0, none⟩ (.int .i64 pc)).setCell ⟨w.heap.size + 1, 1, none⟩ (.slice aX xr.length cX)).heap.size := hk7.size
  have N7 : New w ((((w3.setCell ⟨w.heap.size + 1 + 1, 2, none⟩ (.slice aY xa.length cY)).setCell ⟨w.heap.size + 1 + 1, 3, none⟩ (.slice aZ xb.length cZ)).setCell ⟨w.heap.size + 1, 0, none⟩ (.int .i64 pc)).setCell ⟨w.heap.size + 1, 1, none⟩ (.slice aX xr.length cX)) := New.one N6 hk7 (by omega)
  have bA_7 : ((((w3.setCell ⟨w.heap.size + 1 + 1, 2, none⟩ (.slice aY xa.length cY)).setCell ⟨w.heap.size + 1 + 1, 3, none⟩ (.slice aZ xb.length cZ)).setCell ⟨w.heap.size + 1, 0, none⟩ (.int .i64 pc)).setCell ⟨w.heap.size + 1, 1, none⟩ (.slice aX xr.length cX)).heap[w.heap.size]? = some (.cells #[.int .i64 pc, mr, ma, mb] 70) := heap_set bA_6 (by omega) _
  have bA_7_c0 := cell_of_heap bA_7 0
  have bA_7_c1 := cell_of_heap bA_7 1
  have bA_7_c2 := cell_of_heap bA_7 2
  have bA_7_c3 := cell_of_heap bA_7 3
  have bR_7 : ((((w3.setCell ⟨w.heap.size + 1 + 1, 2, none⟩ (.slice aY xa.length cY)).setCell ⟨w.heap.size + 1 + 1, 3, none⟩ (.slice aZ xb.length cZ)).setCell ⟨w.heap.size + 1, 0, none⟩ (.int .i64 pc)).setCell ⟨w.heap.size + 1, 1, none⟩ (.slice aX xr.length cX)).heap[w.heap.size + 1]? = some (.cells #[.int .i64 pc, .slice aX xr.length cX, .slice none 0 0, .slice none 0 0] 31) := setCell_heap bR_6 _
  have bR_7_c0 := cell_of_heap bR_7 0
  have bR_7_c1 := cell_of_heap bR_7 1
  have bR_7_c2 := cell_of_heap bR_7 2
  have bR_7_c3 := cell_of_heap bR_7 3
  have bR_7_f := frozen_of_heap bR_7
  have bO_7 : ((((w3.setCell ⟨w.heap.size + 1 + 1, 2, none⟩ (.slice aY xa.length cY)).setCell ⟨w.heap.size + 1 + 1, 3, none⟩ (.slice aZ xb.length cZ)).setCell ⟨w.heap.size + 1, 0, none⟩ (.int .i64 pc)).setCell ⟨w.heap.size + 1, 1, none⟩ (.slice aX xr.length cX)).heap[w.heap.size + 1 + 1]? = some (.cells #[.int .i64 pc, .slice aX xr.length cX, .slice aY xa.length cY, .slice aZ xb.length cZ] 31) := heap_set bO_6 (by omega) _
  have bO_7_c0 := cell_of_heap bO_7 0
  have bO_7_c1 := cell_of_heap bO_7 1
  have bO_7_c2 := cell_of_heap bO_7 2
  have bO_7_c3 := cell_of_heap bO_7 3
  have bO_7_f := frozen_of_heap bO_7
  have X_7 := X_6.kp hk7 (fun b hb e => by have := X_6.lt b hb; omega)
  have Y_7 := Y_6.kp hk7 (by simp) (fun b e => by omega)
  have Z_7 := Z_6.kp hk7 (by simp) (fun b e => by omega)
  have hk8 : One (w.heap.size + 1) ((((w3.setCell ⟨w.heap.size + 1 + 1, 2, none⟩ (.slice aY xa.length cY)).setCell ⟨w.heap.size + 1 + 1, 3, none⟩ (.slice aZ xb.length cZ)).setCell ⟨w.heap.size + 1, 0, none⟩ (.int .i64 pc)).setCell ⟨w.heap.size + 1, 1, none⟩ (.slice aX xr.length cX)) (((((w3.setCell ⟨w.heap.size + 1 + 1, 2, none⟩ (.slice aY xa.length cY)).setCell ⟨w.heap.size + 1 + 1, 3, none⟩ (.slice aZ xb.length cZ)).setCell ⟨w.heap.size + 1, 0, none⟩ (.int .i64 pc)).setCell ⟨w.heap.size + 1, 1, none⟩ (.slice aX xr.length cX)).setCell ⟨w.heap.size + 1, 2, none⟩ (.slice aY xa.length cY)) := (Kp.refl (fun k => k = w.heap.size + 1) _).setCell (.inl rfl) _
  have z8 : ((((w3.setCell ⟨w.heap.size + 1 + 1, 2, none⟩ (.slice aY xa.length cY)).setCell ⟨w.heap.size + 1 + 1, 3, none⟩ (.slice aZ xb.length cZ)).setCell ⟨w.heap.size + 1, 0, none⟩ (.int .i64 pc)).setCell ⟨w.heap.size + 1, 1, none⟩ (.slice aX xr.length cX)).heap.size ≤ (((((w3.setCell ⟨w.heap.size + 1 + 1, 2, none⟩ (.slice aY xa.length cY)).setCell ⟨w.heap.size + 1 + 1, 3, none⟩ (.slice aZ xb.length cZ)).setCell ⟨w.heap.size + 1, 0, none⟩ (.int .i64 pc)).setCell ⟨w.heap.size + 1, 1, none⟩ (.slice aX xr.length cX)).setCell ⟨w.heap.size + 1, 2, none⟩ (.slice aY xa.length cY)).heap.size := hk8.size
  have N8 : New w (((((w3.setCell ⟨w.heap.size + 1 + 1, 2, none⟩ (.slice aY xa.length cY)).setCell ⟨w.heap.size + 1 + 1, 3, none⟩ (.slice aZ xb.length cZ)).setCell ⟨w.heap.size + 1, 0, none⟩ (.int .i64 pc)).setCell ⟨w.heap.size + 1, 1, none⟩ (.slice aX xr.length cX)).setCell ⟨w.heap.size + 1, 2, none⟩ (.slice aY xa.length cY)) := New.one N7 hk8 (by omega)
  have bA_8 : (((((w3.setCell ⟨w.heap.size + 1 + 1, 2, none⟩ (.slice aY xa.length cY)).setCell ⟨w.heap.size + 1 + 1, 3, none⟩ (.slice aZ xb.length cZ)).setCell ⟨w.heap.size + 1, 0, none⟩ (.int .i64 pc)).setCell ⟨w.heap.size + 1, 1, none⟩ (.slice aX xr.length cX)).setCell ⟨w.heap.size + 1, 2, none⟩ (.slice aY xa.length cY)).heap[w.heap.size]? = some (.cells #[.int .i64 pc, mr, ma, mb] 70) := heap_set bA_7 (by omega) _
  have bA_8_c0 := cell_of_heap bA_8 0
  have bA_8_c1 := cell_of_heap bA_8 1
  have bA_8_c2 := cell_of_heap bA_8 2
  have bA_8_c3 := cell_of_heap bA_8 3
  have bR_8 : (((((w3.setCell ⟨w.heap.size + 1 + 1, 2, none⟩ (.slice aY xa.length cY)).setCell ⟨w.heap.size + 1 + 1, 3, none⟩ (.slice aZ xb.length cZ)).setCell ⟨w.heap.size + 1, 0, none⟩ (.int .i64 pc)).setCell ⟨w.heap.size + 1, 1, none⟩ (.slice aX xr.length cX)).setCell ⟨w.heap.size + 1, 2, none⟩ (.slice aY xa.length cY)).heap[w.heap.size + 1]? = some (.cells #[.int .i64 pc, .slice aX xr.length cX, .slice aY xa.length cY, .slice none 0 0] 31) := setCell_heap bR_7 _
  have bR_8_c0 := cell_of_heap bR_8 0
  have bR_8_c1 := cell_of_heap bR_8 1
  have bR_8_c2 := cell_of_heap bR_8 2
  have bR_8_c3 := cell_of_heap bR_8 3
  have bR_8_f := frozen_of_heap bR_8
  have bO_8 : (((((w3.setCell ⟨w.heap.size + 1 + 1, 2, none⟩ (.slice aY xa.length cY)).setCell ⟨w.heap.size + 1 + 1, 3, none⟩ (.slice aZ xb.length cZ)).setCell ⟨w.heap.size + 1, 0, none⟩ (.int .i64 pc)).setCell ⟨w.heap.size + 1, 1, none⟩ (.slice aX xr.length cX)).setCell ⟨w.heap.size + 1, 2, none⟩ (.slice aY xa.length cY)).heap[w.heap.size + 1 + 1]? = some (.cells #[.int .i64 pc, .slice aX xr.length cX, .slice aY xa.length cY, .slice aZ xb.length cZ] 31) := heap_set bO_7 (by omega) _
  have bO_8_c0 := cell_of_heap bO_8 0
  have bO_8_c1 := cell_of_heap bO_8 1
  have bO_8_c2 := cell_of_heap bO_8 2
  have bO_8_c3 := cell_of_heap bO_8 3
  have bO_8_f := frozen_of_heap bO_8
  have X_8 := X_7.kp hk8 (fun b hb e => by have := X_7.lt b hb; omega)
  have Y_8 := Y_7.kp hk8 (by simp) (fun b e => by omega)
  have Z_8 := Z_7.kp hk8 (by simp) (fun b e => by omega)
  have hk9 : One (w.heap.size + 1) (((((w3.setCell ⟨w.heap.size + 1 + 1, 2, none⟩ (.slice aY xa.length cY)).setCell ⟨w.heap.size + 1 + 1, 3, none⟩ (.slice aZ xb.length cZ)).setCell ⟨w.heap.size + 1, 0, none⟩ (.int .i64 pc)).setCell ⟨w.heap.size + 1, 1, none⟩ (.slice aX xr.length cX)).setCell ⟨w.heap.size + 1, 2, none⟩ (.slice aY xa.length cY)) ((((((w3.setCell ⟨w.heap.size + 1 + 1, 2, none⟩ (.slice aY xa.length cY)).setCell ⟨w.heap.size + 1 + 1, 3, none⟩ (.slice aZ xb.length cZ)).setCell ⟨w.heap.size + 1, 0, none⟩ (.int .i64 pc)).setCell ⟨w.heap.size + 1, 1, none⟩ (.slice aX xr.length cX)).setCell ⟨w.heap.size + 1, 2, none⟩ (.slice aY xa.length cY)).setCell ⟨w.heap.size + 1, 3, none⟩ (.slice aZ xb.length cZ)) := (Kp.refl (fun k => k = w.heap.size + 1) _).setCell (.inl rfl) _
  have z9 : (((((w3.setCell ⟨w.heap.size + 1 + 1, 2, none⟩ (.slice aY xa.length cY)).setCell ⟨w.heap.size + 1 + 1, 3, none⟩ (.slice aZ xb.length cZ)).setCell ⟨w.heap.size + 1, 0, none⟩ (.int .i64 pc)).setCell ⟨w.heap.size + 1, 1, none⟩ (.slice aX xr.length cX)).setCell ⟨w.heap.size + 1, 2, none⟩ (.slice aY xa.length cY)).heap.size ≤ ((((((w3.setCell ⟨w.heap.size + 1 + 1, 2, none⟩ (.slice aY xa.length cY)).setCell ⟨w.heap.size + 1 + 1, 3, none⟩ (.slice aZ xb.length cZ)).setCell ⟨w.heap.size + 1, 0, none⟩ (.int .i64 pc)).setCell ⟨w.heap.size + 1, 1, none⟩ (.slice aX xr.length cX)).setCell ⟨w.heap.size + 1, 2, none⟩ (.slice aY xa.length cY)).setCell ⟨w.heap.size + 1, 3, none⟩ (.slice aZ xb.length cZ)).heap.size := hk9.size
  have N9 : New w ((((((w3.setCell ⟨w.heap.size + 1 + 1, 2, none⟩ (.slice aY xa.length cY)).setCell ⟨w.heap.size + 1 + 1, 3, none⟩ (.slice aZ xb.length cZ)).setCell ⟨w.heap.size + 1, 0, none⟩ (.int .i64 pc)).setCell ⟨w.heap.size + 1, 1, none⟩ (.slice aX xr.length cX)).setCell ⟨w.heap.size + 1, 2, none⟩ (.slice aY xa.length cY)).setCell ⟨w.heap.size + 1, 3, none⟩ (.slice aZ xb.length cZ)) := New.one N8 hk9 (by omega)
  have bA_9 : ((((((w3.setCell ⟨w.heap.size + 1 + 1, 2, none⟩ (.slice aY xa.length cY)).setCell ⟨w.heap.size + 1 + 1, 3, none⟩ (.slice aZ xb.length cZ)).setCell ⟨w.heap.size + 1, 0, none⟩ (.int .i64 pc)).setCell ⟨w.heap.size + 1, 1, none⟩ (.slice aX xr.length cX)).setCell ⟨w.heap.size + 1, 2, none⟩ (.slice aY xa.length cY)).setCell ⟨w.heap.size + 1, 3, none⟩ (.slice aZ xb.length cZ)).heap[w.heap.size]? = some (.cells #[.int .i64 pc, mr, ma, mb] 70) := heap_set bA_8 (by omega) _
  have bA_9_c0 := cell_of_heap bA_9 0
  have bA_9_c1 := cell_of_heap bA_9 1
  have bA_9_c2 := cell_of_heap bA_9 2
  have bA_9_c3 := cell_of_heap bA_9 3
  have bR_9 : ((((((w3.setCell ⟨w.heap.size + 1 + 1, 2, none⟩ (.slice aY xa.length cY)).setCell ⟨w.heap.size + 1 + 1, 3, none⟩ (.slice aZ xb.length cZ)).setCell ⟨w.heap.size + 1, 0, none⟩ (.int .i64 pc)).setCell ⟨w.heap.size + 1, 1, none⟩ (.slice aX xr.length cX)).setCell ⟨w.heap.size + 1, 2, none⟩ (.slice aY xa.length cY)).setCell ⟨w.heap.size + 1, 3, none⟩ (.slice aZ xb.length cZ)).heap[w.heap.size + 1]? = some (.cells #[.int .i64 pc, .slice aX xr.length cX, .slice aY xa.length cY, .slice aZ xb.length cZ] 31) := setCell_heap bR_8 _
  have bR_9_c0 := cell_of_heap bR_9 0
  have bR_9_c1 := cell_of_heap bR_9 1
  have bR_9_c2 := cell_of_heap bR_9 2
  have bR_9_c3 := cell_of_heap bR_9 3
  have bR_9_f := frozen_of_heap bR_9
  have bO_9 : ((((((w3.setCell ⟨w.heap.size + 1 + 1, 2, none⟩ (.slice aY xa.length cY)).setCell ⟨w.heap.size + 1 + 1, 3, none⟩ (.slice aZ xb.length cZ)).setCell ⟨w.heap.size + 1, 0, none⟩ (.int .i64 pc)).setCell ⟨w.heap.size + 1, 1, none⟩ (.slice aX xr.length cX)).setCell ⟨w.heap.size + 1, 2, none⟩ (.slice aY xa.length cY)).setCell ⟨w.heap.size + 1, 3, none⟩ (.slice aZ xb.length cZ)).heap[w.heap.size + 1 + 1]? = some (.cells #[.int .i64 pc, .slice aX xr.length cX, .slice aY xa.length cY, .slice aZ xb.length cZ] 31) := heap_set bO_8 (by omega) _
  have bO_9_c0 := cell_of_heap bO_9 0
  have bO_9_c1 := cell_of_heap bO_9 1
  have bO_9_c2 := cell_of_heap bO_9 2
  have bO_9_c3 := cell_of_heap bO_9 3
  have bO_9_f := frozen_of_heap bO_9
  have X_9 := X_8.kp hk9 (fun b hb e => by have := X_8.lt b hb; omega)
  have Y_9 := Y_8.kp hk9 (by simp) (fun b e => by omega)
  have Z_9 := Z_8.kp hk9 (by simp) (fun b e => by omega)
  refine bodyPost_ret (results_cell_row rfl _ _ _ _ _ _ _ rfl bR_9 Try.underlying31 rfl (by kernel_rfl)) rfl ⟨_, _, _, rfl, N9, X_9.reads.mono (by omega) (Nat.le_refl _), Y_9.mono (by omega) (by simp), Z_9.mono (by omega) (by simp)⟩
end Go.Proofs.Ytljokgoghphgdaa.MachF
