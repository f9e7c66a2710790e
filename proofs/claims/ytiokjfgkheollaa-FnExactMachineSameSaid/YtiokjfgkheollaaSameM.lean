/- MemorySame of spec and of impl. Condition: none. -/
import Derived.Test.YtiokjfgkheollaaMatF
import Derived.Test.YtiokjfgkheollaaSl
import Derived.Test.YtiokjfgkheollaaSameC
namespace Go.Proofs.Ytiokjfgkheollaa.SameM
open Go.RowKit Kit
set_option linter.unusedVariables false
set_option maxHeartbeats 1000000 in
theorem equalFuncM (w : World) (lo hi lo' hi' : Nat) (s t : Value) (xs ys : List (List Int)) (hs : MatR w lo hi s xs) (ht : MatR w lo' hi' t ys) (h1 : hi ≤ w.heap.size) (h2 : hi' ≤ w.heap.size) :
    Calls Try.prog 64 #[s, t, .func (.func 63) #[] #[]] w fun e w' => e = .returned (.bool (decide (xs = ys))) ∧ ∃ k, w' = w.drewN k := by
  obtain ⟨a, c, rfl, hl1⟩ := hs.len
  obtain ⟨a', c', rfl, hl2⟩ := ht.len
  by_cases hlen : xs.length = ys.length
  · have hL := Lib.hid hlen
    have hq3 : ((xs.length : Int) != (ys.length : Int)) = false := by simp [hlen]
    have hle : ys.length ≤ xs.length := by omega
    have hge : xs.length ≤ ys.length := by omega
    clear hlen
    go_enter Try.func64, Try.ntmps64
    go_wp2_with fail
    go_loopw [17] (fun i wr => ∃ j : Nat, j ≤ xs.length ∧ i = .int .i64 j ∧ (∃ k, wr = w.drewN k) ∧ Hid (decide (xs = ys) = decide (xs.drop j = ys.drop j))) (fun i _ => xs.length - (intOf i).toNat)
    case atStart => exact ⟨0, Nat.zero_le _, rfl, ⟨0, rfl⟩, Lib.hid rfl⟩
    case round =>
      obtain ⟨j, hj, rfl, ⟨k, rfl⟩, hD⟩ := hrel
      by_cases hlt : j < xs.length
      · obtain ⟨b, o, s, rfl, hb1, hb2, c0, q0⟩ := hs.at' j hlt
        obtain ⟨b', o', t, rfl, hb1', hb2', c0', q0'⟩ := ht.at' j (by omega)
        have hlt2 : j < ys.length := by omega
        have hD2 : Hid (decide (xs = ys) = (decide (xs[j] = ys[j]) && decide (xs.drop (j + 1) = ys.drop (j + 1)))) := Lib.hid (by
          rw [hD.out, List.drop_eq_getElem_cons hlt, List.drop_eq_getElem_cons hlt2]; simp only [List.cons.injEq, Bool.decide_and])
        clear hD hs ht
        generalize xs[j] = x at *
        generalize ys[j] = y at *
        have Q := Lib.hid (show ∀ n, Calls Try.prog 63 #[s, t] (w.drewN (k + n)) fun e w' => e = .returned (.bool (decide (x = y))) ∧ ∃ m, w' = w.drewN (k + m) from fun n =>
          (Sl.eqI _ _ _ _ _ _ _ _ _ (q0.kp (drewN_kp (fun _ => False) (k + n) (Kp.refl _ _)) h1 (fun _ f => f.elim)) (q0'.kp (drewN_kp (fun _ => False) (k + n) (Kp.refl _ _)) h2 (fun _ f => f.elim))).mono
            fun e w' ⟨he, m, hw⟩ => ⟨he, n + m, by rw [hw, World.drewN_drewN, Nat.add_assoc]⟩)
        clear q0 q0'
        cases hxy : decide (x = y)
        · rw [hxy] at Q
          have hfin := Lib.hid (show decide (xs = ys) = false by rw [hD2.out, hxy]; rfl)
          go_wp2_with fail
          refine (show Calls Try.prog 63 #[s, t] (w.drewN k) _ from Q.out 0).mono ?_
          rintro r w1 ⟨rfl, n1, rfl⟩
          go_wp2
          go_ret
          exact ⟨retB hfin.out.symm, ⟨_, rfl⟩⟩
        · rw [hxy] at Q
          go_wp2_with fail
          refine (show Calls Try.prog 63 #[s, t] (w.drewN k) _ from Q.out 0).mono ?_
          rintro r w1 ⟨rfl, n1, rfl⟩
          go_wp2
          go_roundw
          case rel => exact ⟨j + 1, by omega, by go_num, ⟨_, rfl⟩, Lib.hid (by rw [hD2.out, hxy]; rfl)⟩
          case measure => simp [intOf]; omega
      · have hfin := Lib.hid (show decide (xs = ys) = true by rw [hD.out, List.drop_of_length_le (by omega), List.drop_of_length_le (by have := hL.out; omega)]; rfl)
        have hge2 : xs.length ≤ j := by omega
        clear hD
        go_wp2
        go_ret
        exact ⟨retB hfin.out.symm, ⟨_, rfl⟩⟩
  · have hq : ((xs.length : Int) != (ys.length : Int)) = true := by simp; omega
    have hfin := Lib.hid (show decide (xs = ys) = false by
      rw [decide_eq_false_iff_not]; intro e; exact hlen (by rw [e]))
    clear hlen
    go_enter Try.func64, Try.ntmps64
    go_wp2
    go_ret
    exact ⟨retB hfin.out.symm, 0, rfl⟩
set_option maxHeartbeats 1000000 in
theorem implSame (w : World) (lo hi lo' hi' : Nat) (ta tb ua ub : Value) (xa : List Int) (xb : List (List Int)) (ya : List Int) (yb : List (List Int)) (sa : IntsR w lo hi ta xa) (sb : MatR w lo hi tb xb) (ra : IntsR w lo' hi' ua ya) (rb : MatR w lo' hi' ub yb) (h1 : hi ≤ w.heap.size) (h2 : hi' ≤ w.heap.size) :
    Calls Try.prog 23 #[.agg #[ta, tb], .agg #[ua, ub]] w fun e w' => e = .returned (.bool (decide (xa = ya) && (decide (xb = yb)))) ∧ New w w' := by
  go_enter Try.func23, Try.ntmps23
  go_wp2_with fail
  have N0 : New w ((w.alloc (.cells #[ta, tb] 38)).alloc (.cells #[ua, ub] 38)) := ((Kp.refl _ _).alloc _).alloc _
  have bA : ((w.alloc (.cells #[ta, tb] 38)).alloc (.cells #[ua, ub] 38)).heap[w.heap.size]? = some (.cells #[ta, tb] 38) := heap_old (alloc_heap _ _)
  have bB : ((w.alloc (.cells #[ta, tb] 38)).alloc (.cells #[ua, ub] 38)).heap[w.heap.size + 1]? = some (.cells #[ua, ub] 38) := heap_at (by simp)
  have z0 : w.heap.size ≤ ((w.alloc (.cells #[ta, tb] 38)).alloc (.cells #[ua, ub] 38)).heap.size := N0.size
  generalize ((w.alloc (.cells #[ta, tb] 38)).alloc (.cells #[ua, ub] 38)) = w0 at *
  have bA_c0 := cell_of_heap bA 0
  have bA_c1 := cell_of_heap bA 1
  have bB_c0 := cell_of_heap bB 0
  have bB_c1 := cell_of_heap bB 1
  refine (newOf (Sl.eqI _ _ _ _ _ _ _ _ _ (sa.new h1 N0) (ra.new h2 N0))).mono ?_
  rintro e w1 ⟨rfl, hn1⟩
  have z1 : w0.heap.size ≤ w1.heap.size := hn1.size
  have N1 : New w w1 := N0.trans hn1
  have bA_1 := heap_new hn1 bA
  clear bA bA_c0 bA_c1
  have bA_1_c0 := cell_of_heap bA_1 0
  have bA_1_c1 := cell_of_heap bA_1 1
  have bB_1 := heap_new hn1 bB
  clear bB bB_c0 bB_c1
  have bB_1_c0 := cell_of_heap bB_1 0
  have bB_1_c1 := cell_of_heap bB_1 1
  clear hn1
  cases exa : decide (xa = ya)
  · go_wp2
    go_ret
    exact ⟨retB (by rw [exa]; rfl), N1⟩
  go_wp2_with fail
  refine (newOf (equalFuncM _ _ _ _ _ _ _ _ _ (sb.new h1 N1) (rb.new h2 N1) (by omega) (by omega))).mono ?_
  rintro e w2 ⟨rfl, hn2⟩
  have z2 : w1.heap.size ≤ w2.heap.size := hn2.size
  have N2 : New w w2 := N1.trans hn2
  have bA_2 := heap_new hn2 bA_1
  clear bA_1 bA_1_c0 bA_1_c1
  have bA_2_c0 := cell_of_heap bA_2 0
  have bA_2_c1 := cell_of_heap bA_2 1
  have bB_2 := heap_new hn2 bB_1
  clear bB_1 bB_1_c0 bB_1_c1
  have bB_2_c0 := cell_of_heap bB_2 0
  have bB_2_c1 := cell_of_heap bB_2 1
  clear hn2
  cases exb : decide (xb = yb)
  · go_wp2
    go_ret
    exact ⟨retB (by rw [exa, exb]; rfl), N2⟩
  go_wp2
  go_ret
  exact ⟨retB (by rw [exa, exb]; rfl), N2⟩
set_option maxHeartbeats 1000000 in
theorem specSame (w : World) (lo hi lo' hi' : Nat) (ta tb ua ub : Value) (xa : List Int) (xb : List (List Int)) (ya : List Int) (yb : List (List Int)) (sa : IntsR w lo hi ta xa) (sb : MatR w lo hi tb xb) (ra : IntsR w lo' hi' ua ya) (rb : MatR w lo' hi' ub yb) (h1 : hi ≤ w.heap.size) (h2 : hi' ≤ w.heap.size) :
    Calls Try.prog 21 #[.agg #[ta, tb], .agg #[ua, ub]] w fun e w' => e = .returned (.bool (decide (xa = ya) && (decide (xb = yb)))) ∧ New w w' := by
  go_enter Try.func21, Try.ntmps21
  go_wp2_with fail
  have N0 : New w ((w.alloc (.cells #[ta, tb] 38)).alloc (.cells #[ua, ub] 38)) := ((Kp.refl _ _).alloc _).alloc _
  have bA : ((w.alloc (.cells #[ta, tb] 38)).alloc (.cells #[ua, ub] 38)).heap[w.heap.size]? = some (.cells #[ta, tb] 38) := heap_old (alloc_heap _ _)
  have bB : ((w.alloc (.cells #[ta, tb] 38)).alloc (.cells #[ua, ub] 38)).heap[w.heap.size + 1]? = some (.cells #[ua, ub] 38) := heap_at (by simp)
  have z0 : w.heap.size ≤ ((w.alloc (.cells #[ta, tb] 38)).alloc (.cells #[ua, ub] 38)).heap.size := N0.size
  generalize ((w.alloc (.cells #[ta, tb] 38)).alloc (.cells #[ua, ub] 38)) = w0 at *
  have bA_c0 := cell_of_heap bA 0
  have bA_c1 := cell_of_heap bA 1
  have bB_c0 := cell_of_heap bB 0
  have bB_c1 := cell_of_heap bB 1
  refine (newOf (SameC.l2Ints _ _ _ _ _ _ _ _ _ (sa.new h1 N0) (ra.new h2 N0))).mono ?_
  rintro e w1 ⟨rfl, hn1⟩
  have z1 : w0.heap.size ≤ w1.heap.size := hn1.size
  have N1 : New w w1 := N0.trans hn1
  have bA_1 := heap_new hn1 bA
  clear bA bA_c0 bA_c1
  have bA_1_c0 := cell_of_heap bA_1 0
  have bA_1_c1 := cell_of_heap bA_1 1
  have bB_1 := heap_new hn1 bB
  clear bB bB_c0 bB_c1
  have bB_1_c0 := cell_of_heap bB_1 0
  have bB_1_c1 := cell_of_heap bB_1 1
  clear hn1
  cases exa : decide (xa = ya)
  · go_wp2
    go_ret
    exact ⟨retB (by rw [exa]; rfl), N1⟩
  have P : MatR w1 lo hi tb xb := sb.new h1 N1
  have R : MatR w1 lo' hi' ub yb := rb.new h2 N1
  have g1 : hi ≤ w1.heap.size := by omega
  have g2 : hi' ≤ w1.heap.size := by omega
  obtain ⟨a, c, rfl, hl1⟩ := P.len
  obtain ⟨a', c', rfl, hl2⟩ := R.len
  clear sa sb ra rb
  by_cases hlen : xb.length = yb.length
  · have hL := Lib.hid hlen
    have hq3 : ((xb.length : Int) != (yb.length : Int)) = false := by simp [hlen]
    have hle : yb.length ≤ xb.length := by omega
    have hge : xb.length ≤ yb.length := by omega
    clear hlen
    go_wp2_with fail
    go_loopw [5] (fun i wr => ∃ j : Nat, j ≤ xb.length ∧ i = .int .i64 j ∧ (∃ k, wr = w1.drewN k) ∧ Hid (decide (xb = yb) = decide (xb.drop j = yb.drop j))) (fun i _ => xb.length - (intOf i).toNat)
    case atStart => exact ⟨0, Nat.zero_le _, rfl, ⟨0, rfl⟩, Lib.hid rfl⟩
    case round =>
      obtain ⟨j, hj, rfl, ⟨k, rfl⟩, hD⟩ := hrel
      by_cases hlt : j < xb.length
      · obtain ⟨b, o, s, rfl, hb1, hb2, c0, q0⟩ := P.at' j hlt
        obtain ⟨b', o', t, rfl, hb1', hb2', c0', q0'⟩ := R.at' j (by omega)
        have hlt2 : j < yb.length := by omega
        have hD2 : Hid (decide (xb = yb) = (decide (xb[j] = yb[j]) && decide (xb.drop (j + 1) = yb.drop (j + 1)))) := Lib.hid (by
          rw [hD.out, List.drop_eq_getElem_cons hlt, List.drop_eq_getElem_cons hlt2]; simp only [List.cons.injEq, Bool.decide_and])
        clear hD P R
        generalize xb[j] = x at *
        generalize yb[j] = y at *
        have Q := Lib.hid (show ∀ n, Calls Try.prog 60 #[s, t] (w1.drewN (k + n)) fun e w' => e = .returned (.bool (decide (x = y))) ∧ ∃ m, w' = w1.drewN (k + m) from fun n =>
          (SameC.l2Ints _ _ _ _ _ _ _ _ _ (q0.kp (drewN_kp (fun _ => False) (k + n) (Kp.refl _ _)) g1 (fun _ f => f.elim)) (q0'.kp (drewN_kp (fun _ => False) (k + n) (Kp.refl _ _)) g2 (fun _ f => f.elim))).mono
            fun e w' ⟨he, m, hw⟩ => ⟨he, n + m, by rw [hw, World.drewN_drewN, Nat.add_assoc]⟩)
        clear q0 q0'
        cases hxy : decide (x = y)
        · rw [hxy] at Q
          have hfin := Lib.hid (show decide (xb = yb) = false by rw [hD2.out, hxy]; rfl)
          go_wp2_with fail
          go_quiet ((go_at_call 60; exact Q.out _))
          go_wp2
          go_ret
          exact ⟨retB (by rw [exa, hfin.out]; rfl), drewN_kp _ _ (drewN_kp _ _ N1)⟩
        · rw [hxy] at Q
          go_wp2_with fail
          go_quiet ((go_at_call 60; exact Q.out _))
          go_wp2
          go_roundw
          case rel => exact ⟨j + 1, by omega, by go_num, ⟨_, rfl⟩, Lib.hid (by rw [hD2.out, hxy]; rfl)⟩
          case measure => simp [intOf]; omega
      · have hfin := Lib.hid (show decide (xb = yb) = true by rw [hD.out, List.drop_of_length_le (by omega), List.drop_of_length_le (by have := hL.out; omega)]; rfl)
        have hge2 : xb.length ≤ j := by omega
        clear hD
        go_wp2
        go_ret
        exact ⟨retB (by rw [exa, hfin.out]; rfl), drewN_kp _ _ N1⟩
  · have hq : ((xb.length : Int) != (yb.length : Int)) = true := by simp; omega
    have hfin := Lib.hid (show decide (xb = yb) = false by
      rw [decide_eq_false_iff_not]; intro e; exact hlen (by rw [e]))
    clear hlen
    go_wp2
    go_ret
    exact ⟨retB (by rw [exa, hfin.out]; rfl), N1⟩
end Go.Proofs.Ytiokjfgkheollaa.SameM
