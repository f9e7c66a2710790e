/- sz, to, eq of laws for Memory. Condition: at most 2^20 elements. -/
import Derived.Test.YtljokgoghphgdaaLawF
import Derived.Test.YtljokgoghphgdaaMatF
namespace Go.Proofs.Ytljokgoghphgdaa.MemF
open Go.RowKit Kit
set_option linter.unusedVariables false
set_option maxHeartbeats 1000000 in
theorem szMemory (w : World) (lo hi : Nat) (ta tb : Value) (xa : List Int) (xb : List (List Int)) (sa : IntsR w lo hi ta xa) (sb : MatR w lo hi tb xb) (left : Int) (h0 : 0 ≤ left) (hm : left ≤ 1048576) (h1 : hi ≤ w.heap.size) :
    Calls Try.prog 31 #[.agg #[ta, tb], .int .i64 left] w fun e w' => e = .returned (.int .i64 (szOf left (xa.length + msz xb))) ∧ New w w' := by
  obtain ⟨a0, c0, rfl, m0⟩ := sa.len
  obtain ⟨a1, c1, rfl, m1⟩ := sb.len
  by_cases q0 : ((xa.length : Nat) : Int) ≤ left
  · by_cases q1 : ((msz xb : Nat) : Int) ≤ left - (xa.length : Nat)
    · go_enter Try.func31, Try.ntmps31
      go_wp2_with (first
        | (go_at_call 76; refine (LawF.szIntS _ _ _ _ _ (by omega) (by omega) (by omega)).mono ?_; rintro e w' ⟨rfl, rfl⟩; first | rw [szOf_hi (by omega)] | rw [szOf_lo (by omega)])
        | (go_at_call 78; refine (MatF.szIntSS _ _ _ _ _ _ (sb.new (by omega) ((Kp.refl _ _).alloc _)) (by omega) (by omega)).mono ?_; rintro e w' ⟨rfl, rfl⟩; first | rw [szOf_hi (by omega)] | rw [szOf_lo (by omega)]))
      go_ret
      exact ⟨retI (by rw [szOf_hi (by omega)]; omega), (Kp.refl _ _).alloc _⟩
    · go_enter Try.func31, Try.ntmps31
      go_wp2_with (first
        | (go_at_call 76; refine (LawF.szIntS _ _ _ _ _ (by omega) (by omega) (by omega)).mono ?_; rintro e w' ⟨rfl, rfl⟩; first | rw [szOf_hi (by omega)] | rw [szOf_lo (by omega)])
        | (go_at_call 78; refine (MatF.szIntSS _ _ _ _ _ _ (sb.new (by omega) ((Kp.refl _ _).alloc _)) (by omega) (by omega)).mono ?_; rintro e w' ⟨rfl, rfl⟩; first | rw [szOf_hi (by omega)] | rw [szOf_lo (by omega)]))
      go_ret
      exact ⟨retI (by rw [szOf_lo (by omega)]), (Kp.refl _ _).alloc _⟩
  · go_enter Try.func31, Try.ntmps31
    go_wp2_with (first
      | (go_at_call 76; refine (LawF.szIntS _ _ _ _ _ (by omega) (by omega) (by omega)).mono ?_; rintro e w' ⟨rfl, rfl⟩; first | rw [szOf_hi (by omega)] | rw [szOf_lo (by omega)])
      | (go_at_call 78; refine (MatF.szIntSS _ _ _ _ _ _ (sb.new (by omega) ((Kp.refl _ _).alloc _)) (by omega) (by omega)).mono ?_; rintro e w' ⟨rfl, rfl⟩; first | rw [szOf_hi (by omega)] | rw [szOf_lo (by omega)]))
    go_ret
    exact ⟨retI (by rw [szOf_lo (by omega)]), (Kp.refl _ _).alloc _⟩
set_option maxHeartbeats 1000000 in
theorem eqMemory (w : World) (lo hi lo' hi' : Nat) (ta tb ua ub : Value) (xa : List Int) (xb : List (List Int)) (ya : List Int) (yb : List (List Int)) (sa : IntsR w lo hi ta xa) (sb : MatR w lo hi tb xb) (ra : IntsR w lo' hi' ua ya) (rb : MatR w lo' hi' ub yb) (h1 : hi ≤ w.heap.size) (h2 : hi' ≤ w.heap.size) :
    Calls Try.prog 36 #[.agg #[ta, tb], .agg #[ua, ub]] w fun e w' => e = .returned (.bool (decide (xa = ya) && (decide (xb = yb)))) ∧ New w w' := by
  go_enter Try.func36, Try.ntmps36
  go_wp2_with fail
  have N0 : New w ((w.alloc (.cells #[ta, tb] 29)).alloc (.cells #[ua, ub] 29)) := ((Kp.refl _ _).alloc _).alloc _
  have bA : ((w.alloc (.cells #[ta, tb] 29)).alloc (.cells #[ua, ub] 29)).heap[w.heap.size]? = some (.cells #[ta, tb] 29) := heap_old (alloc_heap _ _)
  have bB : ((w.alloc (.cells #[ta, tb] 29)).alloc (.cells #[ua, ub] 29)).heap[w.heap.size + 1]? = some (.cells #[ua, ub] 29) := heap_at (by simp)
  have z0 : w.heap.size ≤ ((w.alloc (.cells #[ta, tb] 29)).alloc (.cells #[ua, ub] 29)).heap.size := N0.size
  generalize ((w.alloc (.cells #[ta, tb] 29)).alloc (.cells #[ua, ub] 29)) = w0 at *
  have bA_c0 := cell_of_heap bA 0
  have bA_c1 := cell_of_heap bA 1
  have bB_c0 := cell_of_heap bB 0
  have bB_c1 := cell_of_heap bB 1
  refine (newOf (LawF.eqIntS _ _ _ _ _ _ _ _ _ (sa.new h1 N0) (ra.new h2 N0))).mono ?_
  rintro e w1 ⟨rfl, hn1⟩
  have z1 : w0.heap.size ≤ w1.heap.size := hn1.size
  have N1 : New w w1 := N0.trans hn1
  have bA_1 := heap_new hn1 bA
  clear bA bA_c0 bA_c1
  have bA_1_c0 := cell_of_heap bA_1 0
  have bA_1_c1 := cell_of_heap bA_1 1
  have bB_1 := heap_new hn1 bB
  clear bB bB_c0 bB_c1
  have bB_1_c0 := cell_of_heap bB_1 0
  have bB_1_c1 := cell_of_heap bB_1 1
  clear hn1
  cases exa : decide (xa = ya)
  · go_wp2
    go_ret
    exact ⟨retB (by rw [exa]; rfl), N1⟩
  go_wp2_with fail
  refine (newOf (MatF.eqIntSS _ _ _ _ _ _ _ _ _ (sb.new h1 N1) (rb.new h2 N1) (by omega) (by omega))).mono ?_
  rintro e w2 ⟨rfl, hn2⟩
  have z2 : w1.heap.size ≤ w2.heap.size := hn2.size
  have N2 : New w w2 := N1.trans hn2
  have bA_2 := heap_new hn2 bA_1
  clear bA_1 bA_1_c0 bA_1_c1
  have bA_2_c0 := cell_of_heap bA_2 0
  have bA_2_c1 := cell_of_heap bA_2 1
  have bB_2 := heap_new hn2 bB_1
  clear bB_1 bB_1_c0 bB_1_c1
  have bB_2_c0 := cell_of_heap bB_2 0
  have bB_2_c1 := cell_of_heap bB_2 1
  clear hn2
  cases exb : decide (xb = yb)
  · go_wp2
    go_ret
    exact ⟨retB (by rw [exa, exb]; rfl), N2⟩
  go_wp2
  go_ret
  exact ⟨retB (by rw [exa, exb]; rfl), N2⟩
theorem eqMemory1 (w : World) (lo hi lo' hi' : Nat) (ta tb ua ub : Value) (xa : List Int) (xb : List (List Int)) (sa : IntsR w lo hi ta xa) (sb : MatR w lo hi tb xb) (ra : IntsR w lo' hi' ua xa) (rb : MatR w lo' hi' ub xb) (h1 : hi ≤ w.heap.size) (h2 : hi' ≤ w.heap.size) :
    Calls Try.prog 36 #[.agg #[ta, tb], .agg #[ua, ub]] w fun e w' => e = .returned (.bool true) ∧ New w w' :=
  (eqMemory w lo hi lo' hi' ta tb ua ub xa xb xa xb sa sb ra rb h1 h2).mono fun e w' ⟨h, k⟩ => ⟨by rw [h]; simp, k⟩
set_option maxHeartbeats 1000000 in
theorem toMemory (w : World) (lo hi : Nat) (ta tb : Value) (xa : List Int) (xb : List (List Int)) (sa : IntsR w lo hi ta xa) (sb : MatR w lo hi tb xb) (h1 : hi ≤ w.heap.size) (m0 : xa.length ≤ 1048576) (m1 : msz xb ≤ 1048576) :
    Calls Try.prog 33 #[.agg #[ta, tb]] w fun e w' => ∃ va vb, e = .returned (.agg #[va, vb]) ∧ New w w' ∧ IntsR w' w.heap.size w'.heap.size va xa ∧ MatR w' w.heap.size w'.heap.size vb xb := by
  go_enter Try.func33, Try.ntmps33
  go_wp2_with fail
  have N0 : New w (((w.alloc (.cells #[ta, tb] 58)).alloc (.cells #[.slice none 0 0, .slice none 0 0] 29)).alloc (.cells #[.slice none 0 0, .slice none 0 0] 29)) := (((Kp.refl _ _).alloc _).alloc _).alloc _
  have bA : (((w.alloc (.cells #[ta, tb] 58)).alloc (.cells #[.slice none 0 0, .slice none 0 0] 29)).alloc (.cells #[.slice none 0 0, .slice none 0 0] 29)).heap[w.heap.size]? = some (.cells #[ta, tb] 58) := heap_old (heap_old (alloc_heap _ _))
  have bR : (((w.alloc (.cells #[ta, tb] 58)).alloc (.cells #[.slice none 0 0, .slice none 0 0] 29)).alloc (.cells #[.slice none 0 0, .slice none 0 0] 29)).heap[w.heap.size + 1]? = some (.cells #[.slice none 0 0, .slice none 0 0] 29) := heap_old (heap_at (by simp))
  have bO : (((w.alloc (.cells #[ta, tb] 58)).alloc (.cells #[.slice none 0 0, .slice none 0 0] 29)).alloc (.cells #[.slice none 0 0, .slice none 0 0] 29)).heap[w.heap.size + 1 + 1]? = some (.cells #[.slice none 0 0, .slice none 0 0] 29) := heap_at (by simp)
  have z0 : w.heap.size + 1 + 1 < (((w.alloc (.cells #[ta, tb] 58)).alloc (.cells #[.slice none 0 0, .slice none 0 0] 29)).alloc (.cells #[.slice none 0 0, .slice none 0 0] 29)).heap.size := by simp
  generalize (((w.alloc (.cells #[ta, tb] 58)).alloc (.cells #[.slice none 0 0, .slice none 0 0] 29)).alloc (.cells #[.slice none 0 0, .slice none 0 0] 29)) = w0 at *
  have bA_c0 := cell_of_heap bA 0
  have bA_c1 := cell_of_heap bA 1
  have bR_c0 := cell_of_heap bR 0
  have bR_c1 := cell_of_heap bR 1
  have bR_f := frozen_of_heap bR
  have bO_c0 := cell_of_heap bO 0
  have bO_c1 := cell_of_heap bO 1
  have bO_f := frozen_of_heap bO
  refine (LawF.toIntS _ _ _ _ _ (sa.new h1 N0) (by omega) (by omega)).mono ?_
  rintro e w1 ⟨vX, rfl, hn1, oX⟩
  have z1 : w0.heap.size ≤ w1.heap.size := hn1.size
  have N1 : New w w1 := N0.trans hn1
  have bA_1 := heap_new hn1 bA
  clear bA bA_c0 bA_c1
  have bA_1_c0 := cell_of_heap bA_1 0
  have bA_1_c1 := cell_of_heap bA_1 1
  have bR_1 := heap_new hn1 bR
  clear bR bR_c0 bR_c1 bR_f
  have bR_1_c0 := cell_of_heap bR_1 0
  have bR_1_c1 := cell_of_heap bR_1 1
  have bR_1_f := frozen_of_heap bR_1
  have bO_1 := heap_new hn1 bO
  clear bO bO_c0 bO_c1 bO_f
  have bO_1_c0 := cell_of_heap bO_1 0
  have bO_1_c1 := cell_of_heap bO_1 1
  have bO_1_f := frozen_of_heap bO_1
  clear hn1
  obtain ⟨aX, cX, rfl, _⟩ := oX.reads.len
  have hk2 : One (w.heap.size + 1 + 1) w1 (w1.setCell ⟨w.heap.size + 1 + 1, 0, none⟩ (.slice aX xa.length cX)) := (Kp.refl (fun k => k = w.heap.size + 1 + 1) _).setCell (.inl rfl) _
  have z2 : w1.heap.size ≤ (w1.setCell ⟨w.heap.size + 1 + 1, 0, none⟩ (.slice aX xa.length cX)).heap.size := hk2.size
  have N2 : New w (w1.setCell ⟨w.heap.size + 1 + 1, 0, none⟩ (.slice aX xa.length cX)) := New.one N1 hk2 (by omega)
  have bA_2 : (w1.setCell ⟨w.heap.size + 1 + 1, 0, none⟩ (.slice aX xa.length cX)).heap[w.heap.size]? = some (.cells #[ta, tb] 58) := heap_set bA_1 (by omega) _
  have bA_2_c0 := cell_of_heap bA_2 0
  have bA_2_c1 := cell_of_heap bA_2 1
  have bR_2 : (w1.setCell ⟨w.heap.size + 1 + 1, 0, none⟩ (.slice aX xa.length cX)).heap[w.heap.size + 1]? = some (.cells #[.slice none 0 0, .slice none 0 0] 29) := heap_set bR_1 (by omega) _
  have bR_2_c0 := cell_of_heap bR_2 0
  have bR_2_c1 := cell_of_heap bR_2 1
  have bR_2_f := frozen_of_heap bR_2
  have bO_2 : (w1.setCell ⟨w.heap.size + 1 + 1, 0, none⟩ (.slice aX xa.length cX)).heap[w.heap.size + 1 + 1]? = some (.cells #[.slice aX xa.length cX, .slice none 0 0] 29) := setCell_heap bO_1 _
  have bO_2_c0 := cell_of_heap bO_2 0
  have bO_2_c1 := cell_of_heap bO_2 1
  have bO_2_f := frozen_of_heap bO_2
  have X_2 := oX.kp hk2 (fun b hb e => by have := oX.lt b hb; omega)
  go_wp2_with fail
  clear bA_1 bA_1_c0 bA_1_c1
  clear bR_1 bR_1_c0 bR_1_c1 bR_1_f
  clear bO_1 bO_1_c0 bO_1_c1 bO_1_f
  clear oX
  clear hk2
  generalize (w1.setCell ⟨w.heap.size + 1 + 1, 0, none⟩ (.slice aX xa.length cX)) = w2 at *
  refine (MatF.toIntSS _ _ _ _ _ (sb.new h1 N2) (by omega) (by omega)).mono ?_
  rintro e w3 ⟨vY, rfl, hn3, oY⟩
  have z3 : w2.heap.size ≤ w3.heap.size := hn3.size
  have N3 : New w w3 := N2.trans hn3
  have bA_3 := heap_new hn3 bA_2
  clear bA_2 bA_2_c0 bA_2_c1
  have bA_3_c0 := cell_of_heap bA_3 0
  have bA_3_c1 := cell_of_heap bA_3 1
  have bR_3 := heap_new hn3 bR_2
  clear bR_2 bR_2_c0 bR_2_c1 bR_2_f
  have bR_3_c0 := cell_of_heap bR_3 0
  have bR_3_c1 := cell_of_heap bR_3 1
  have bR_3_f := frozen_of_heap bR_3
  have bO_3 := heap_new hn3 bO_2
  clear bO_2 bO_2_c0 bO_2_c1 bO_2_f
  have bO_3_c0 := cell_of_heap bO_3 0
  have bO_3_c1 := cell_of_heap bO_3 1
  have bO_3_f := frozen_of_heap bO_3
  have X_3 := X_2.new hn3
  clear X_2
  clear hn3
  obtain ⟨aY, cY, rfl, _⟩ := oY.len
  have hk4 : One (w.heap.size + 1 + 1) w3 (w3.setCell ⟨w.heap.size + 1 + 1, 1, none⟩ (.slice aY xb.length cY)) := (Kp.refl (fun k => k = w.heap.size + 1 + 1) _).setCell (.inl rfl) _
  have z4 : w3.heap.size ≤ (w3.setCell ⟨w.heap.size + 1 + 1, 1, none⟩ (.slice aY xb.length cY)).heap.size := hk4.size
  have N4 : New w (w3.setCell ⟨w.heap.size + 1 + 1, 1, none⟩ (.slice aY xb.length cY)) := New.one N3 hk4 (by omega)
  have bA_4 : (w3.setCell ⟨w.heap.size + 1 + 1, 1, none⟩ (.slice aY xb.length cY)).heap[w.heap.size]? = some (.cells #[ta, tb] 58) := heap_set bA_3 (by omega) _
  have bA_4_c0 := cell_of_heap bA_4 0
  have bA_4_c1 := cell_of_heap bA_4 1
  have bR_4 : (w3.setCell ⟨w.heap.size + 1 + 1, 1, none⟩ (.slice aY xb.length cY)).heap[w.heap.size + 1]? = some (.cells #[.slice none 0 0, .slice none 0 0] 29) := heap_set bR_3 (by omega) _
  have bR_4_c0 := cell_of_heap bR_4 0
  have bR_4_c1 := cell_of_heap bR_4 1
  have bR_4_f := frozen_of_heap bR_4
  have bO_4 : (w3.setCell ⟨w.heap.size + 1 + 1, 1, none⟩ (.slice aY xb.length cY)).heap[w.heap.size + 1 + 1]? = some (.cells #[.slice aX xa.length cX, .slice aY xb.length cY] 29) := setCell_heap bO_3 _
  have bO_4_c0 := cell_of_heap bO_4 0
  have bO_4_c1 := cell_of_heap bO_4 1
  have bO_4_f := frozen_of_heap bO_4
  have X_4 := X_3.kp hk4 (fun b hb e => by have := X_3.lt b hb; omega)
  have Y_4 := oY.kp hk4 (by simp) (fun b e => by omega)
  go_wp2_with fail
  have hk5 : One (w.heap.size + 1) (w3.setCell ⟨w.heap.size + 1 + 1, 1, none⟩ (.slice aY xb.length cY)) ((w3.setCell ⟨w.heap.size + 1 + 1, 1, none⟩ (.slice aY xb.length cY)).setCell ⟨w.heap.size + 1, 0, none⟩ (.slice aX xa.length cX)) := (Kp.refl (fun k => k = w.heap.size + 1) _).setCell (.inl rfl) _
  have z5 : (w3.setCell ⟨w.heap.size + 1 + 1, 1, none⟩ (.slice aY xb.length cY)).heap.size ≤ ((w3.setCell ⟨w.heap.size + 1 + 1, 1, none⟩ (.slice aY xb.length cY)).setCell ⟨w.heap.size + 1, 0, none⟩ (.slice aX xa.length cX)).heap.size := hk5.size
  have N5 : New w ((w3.setCell ⟨w.heap.size + 1 + 1, 1, none⟩ (.slice aY xb.length cY)).setCell ⟨w.heap.size + 1, 0, none⟩ (.slice aX xa.length cX)) := New.one N4 hk5 (by omega)
  have bA_5 : ((w3.setCell ⟨w.heap.size + 1 + 1, 1, none⟩ (.slice aY xb.length cY)).setCell ⟨w.heap.size + 1, 0, none⟩ (.slice aX xa.length cX)).heap[w.heap.size]? = some (.cells #[ta, tb] 58) := heap_set bA_4 (by omega) _
  have bA_5_c0 := cell_of_heap bA_5 0
  have bA_5_c1 := cell_of_heap bA_5 1
  have bR_5 : ((w3.setCell ⟨w.heap.size + 1 + 1, 1, none⟩ (.slice aY xb.length cY)).setCell ⟨w.heap.size + 1, 0, none⟩ (.slice aX xa.length cX)).heap[w.heap.size + 1]? = some (.cells #[.slice aX xa.length cX, .slice none 0 0] 29) := setCell_heap bR_4 _
  have bR_5_c0 := cell_of_heap bR_5 0
  have bR_5_c1 := cell_of_heap bR_5 1
  have bR_5_f := frozen_of_heap bR_5
  have bO_5 : ((w3.setCell ⟨w.heap.size + 1 + 1, 1, none⟩ (.slice aY xb.length cY)).setCell ⟨w.heap.size + 1, 0, none⟩ (.slice aX xa.length cX)).heap[w.heap.size + 1 + 1]? = some (.cells #[.slice aX xa.length cX, .slice aY xb.length cY] 29) := heap_set bO_4 (by omega) _
  have bO_5_c0 := cell_of_heap bO_5 0
  have bO_5_c1 := cell_of_heap bO_5 1
  have bO_5_f := frozen_of_heap bO_5
  have X_5 := X_4.kp hk5 (fun b hb e => by have := X_4.lt b hb; omega)
  have Y_5 := Y_4.kp hk5 (by simp) (fun b e => by omega)
  have hk6 : One (w.heap.size + 1) ((w3.setCell ⟨w.heap.size + 1 + 1, 1, none⟩ (.slice aY xb.length cY)).setCell ⟨w.heap.size + 1, 0, none⟩ (.slice aX xa.length cX)) (((w3.setCell ⟨w.heap.size + 1 + 1, 1, none⟩ (.slice aY xb.length cY)).setCell ⟨w.heap.size + 1, 0, none⟩ (.slice aX xa.length cX)).setCell ⟨w.heap.size + 1, 1, none⟩ (.slice aY xb.length cY)) := (Kp.refl (fun k => k = w.heap.size + 1) _).setCell (.inl rfl) _
  have z6 : ((w3.setCell ⟨w.heap.size + 1 + 1, 1, none⟩ (.slice aY xb.length cY)).setCell ⟨w.heap.size + 1, 0, none⟩ (.slice aX xa.length cX)).heap.size ≤ (((w3.setCell ⟨w.heap.size + 1 + 1, 1, none⟩ (.slice aY xb.length cY)).setCell ⟨w.heap.size + 1, 0, none⟩ (.slice aX xa.length cX)).setCell ⟨w.heap.size + 1, 1, none⟩ (.slice aY xb.length cY)).heap.size := hk6.size
  have N6 : New w (((w3.setCell ⟨w.heap.size + 1 + 1, 1, none⟩ (.slice aY xb.length cY)).setCell ⟨w.heap.size + 1, 0, none⟩ (.slice aX xa.length cX)).setCell ⟨w.heap.size + 1, 1, none⟩ (.slice aY xb.length cY)) := New.one N5 hk6 (by omega)
  have bA_6 : (((w3.setCell ⟨w.heap.size + 1 + 1, 1, none⟩ (.slice aY xb.length cY)).setCell ⟨w.heap.size + 1, 0, none⟩ (.slice aX xa.length cX)).setCell ⟨w.heap.size + 1, 1, none⟩ (.slice aY xb.length cY)).heap[w.heap.size]? = some (.cells #[ta, tb] 58) := heap_set bA_5 (by omega) _
  have bA_6_c0 := cell_of_heap bA_6 0
  have bA_6_c1 := cell_of_heap bA_6 1
  have bR_6 : (((w3.setCell ⟨w.heap.size + 1 + 1, 1, none⟩ (.slice aY xb.length cY)).setCell ⟨w.heap.size + 1, 0, none⟩ (.slice aX xa.length cX)).setCell ⟨w.heap.size + 1, 1, none⟩ (.slice aY xb.length cY)).heap[w.heap.size + 1]? = some (.cells #[.slice aX xa.length cX, .slice aY xb.length cY] 29) := setCell_heap bR_5 _
  have bR_6_c0 := cell_of_heap bR_6 0
  have bR_6_c1 := cell_of_heap bR_6 1
  have bR_6_f := frozen_of_heap bR_6
  have bO_6 : (((w3.setCell ⟨w.heap.size + 1 + 1, 1, none⟩ (.slice aY xb.length cY)).setCell ⟨w.heap.size + 1, 0, none⟩ (.slice aX xa.length cX)).setCell ⟨w.heap.size + 1, 1, none⟩ (.slice aY xb.length cY)).heap[w.heap.size + 1 + 1]? = some (.cells #[.slice aX xa.length cX, .slice aY xb.length cY] 29) := heap_set bO_5 (by omega) _
  have bO_6_c0 := cell_of_heap bO_6 0
  have bO_6_c1 := cell_of_heap bO_6 1
  have bO_6_f := frozen_of_heap bO_6
  have X_6 := X_5.kp hk6 (fun b hb e => by have := X_5.lt b hb; omega)
  have Y_6 := Y_5.kp hk6 (by simp) (fun b e => by omega)
  refine bodyPost_ret (results_cell_row rfl _ _ _ _ _ _ _ rfl bR_6 Try.underlying29 rfl (by kernel_rfl)) rfl ⟨_, _, rfl, N6, X_6.reads.mono (by omega) (Nat.le_refl _), Y_6.mono (by omega) (by simp)⟩
end Go.Proofs.Ytljokgoghphgdaa.MemF
