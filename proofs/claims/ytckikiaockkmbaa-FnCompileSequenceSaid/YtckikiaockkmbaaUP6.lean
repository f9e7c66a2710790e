/- Instances of the library's slices.Equal at ints, events, instructions. No conditions. -/
import Derived.Test.YtckikiaockkmbaaUP2
import Derived.Laws.StructEq
import Derived.Deep.RegionHeld3
import Derived.Test.YtckikiaockkmbaaUP1
namespace Go.Proofs.Ytckikiaockkmbaa.Sl
open Go.RowKit Kit
set_option linter.unusedVariables false

set_option maxHeartbeats 1000000 in
theorem eqI (w : World) (lo hi lo' hi' : Nat) (s t : Value) (xs ys : List Int) (hs : IntsR w lo hi s xs) (ht : IntsR w lo' hi' t ys) :
    Calls Try.prog 93 #[s, t] w fun e w' => e = .returned (.bool (decide (xs = ys))) ∧ ∃ k, w' = w.drewN k := by
  obtain ⟨a, c, rfl, hl1⟩ := hs.len
  obtain ⟨a', c', rfl, hl2⟩ := ht.len
  by_cases hlen : xs.length = ys.length
  · have hL := Lib.hid hlen
    have hq3 : ((xs.length : Int) != (ys.length : Int)) = false := by simp [hlen]
    have hle : ys.length ≤ xs.length := by omega
    have hge : xs.length ≤ ys.length := by omega
    clear hlen
    go_enter Try.func93, Try.ntmps93
    go_wp2_with fail
    go_loopw [13] (fun i wr => ∃ j : Nat, j ≤ xs.length ∧ i = .int .i64 j ∧ (∃ k, wr = w.drewN k) ∧ Hid (decide (xs = ys) = decide (xs.drop j = ys.drop j))) (fun i _ => xs.length - (intOf i).toNat)
    case atStart => exact ⟨0, Nat.zero_le _, rfl, ⟨0, rfl⟩, Lib.hid rfl⟩
    case round =>
      obtain ⟨j, hj, rfl, ⟨k, rfl⟩, hD⟩ := hrel
      by_cases hlt : j < xs.length
      · obtain ⟨b, o, rfl, hb1, hb2, c0⟩ := hs.at j hlt
        obtain ⟨b', o', rfl, hb1', hb2', c0'⟩ := ht.at j (by omega)
        have hlt2 : j < ys.length := by omega
        have hD2 : Hid (decide (xs = ys) = (decide (xs[j] = ys[j]) && decide (xs.drop (j + 1) = ys.drop (j + 1)))) := Lib.hid (by
          rw [hD.out, List.drop_eq_getElem_cons hlt, List.drop_eq_getElem_cons hlt2]; simp only [List.cons.injEq, Bool.decide_and])
        clear hD hs ht
        generalize xs[j] = x at *
        generalize ys[j] = y at *
        by_cases hxy : x = y
        · subst hxy
          go_wp2_with fail
          go_quiet (fail)
          go_wp2
          go_roundw
          case rel => exact ⟨j + 1, by omega, by go_num, ⟨_, rfl⟩, Lib.hid (by rw [hD2.out]; simp)⟩
          case measure => simp [intOf]; omega
        · have hfin := Lib.hid (show decide (xs = ys) = false by rw [hD2.out]; simp [hxy])
          have hb : (x != y) = true := by simp [hxy]
          have hb2 : (x == y) = false := by simp [hxy]
          clear hxy
          go_wp2_with fail
          go_quiet (fail)
          go_wp2
          go_ret
          exact ⟨retB hfin.out.symm, ⟨_, World.drewN_drewN _ _ _⟩⟩
      · have hfin := Lib.hid (show decide (xs = ys) = true by rw [hD.out, List.drop_of_length_le (by omega), List.drop_of_length_le (by have := hL.out; omega)]; rfl)
        have hge2 : xs.length ≤ j := by omega
        clear hD
        go_wp2
        go_ret
        exact ⟨retB hfin.out.symm, ⟨_, rfl⟩⟩
  · have hq : ((xs.length : Int) != (ys.length : Int)) = true := by simp; omega
    have hfin := Lib.hid (show decide (xs = ys) = false by
      rw [decide_eq_false_iff_not]; intro e; exact hlen (by rw [e]))
    clear hlen
    go_enter Try.func93, Try.ntmps93
    go_wp2
    go_ret
    exact ⟨retB hfin.out.symm, 0, rfl⟩

set_option maxHeartbeats 1000000 in
theorem eqN (w : World) (lo hi lo' hi' : Nat) (s t : Value) (xs ys : List Ins) (hs : InssR w lo hi s xs) (ht : InssR w lo' hi' t ys) :
    Calls Try.prog 99 #[s, t] w fun e w' => e = .returned (.bool (decide (xs = ys))) ∧ ∃ k, w' = w.drewN k := by
  obtain ⟨a, c, rfl, hl1⟩ := hs.len
  obtain ⟨a', c', rfl, hl2⟩ := ht.len
  by_cases hlen : xs.length = ys.length
  · have hL := Lib.hid hlen
    have hq3 : ((xs.length : Int) != (ys.length : Int)) = false := by simp [hlen]
    have hle : ys.length ≤ xs.length := by omega
    have hge : xs.length ≤ ys.length := by omega
    clear hlen
    go_enter Try.func99, Try.ntmps99
    go_wp2_with fail
    go_loopw [13] (fun i wr => ∃ j : Nat, j ≤ xs.length ∧ i = .int .i64 j ∧ (∃ k, wr = w.drewN k) ∧ Hid (decide (xs = ys) = decide (xs.drop j = ys.drop j))) (fun i _ => xs.length - (intOf i).toNat)
    case atStart => exact ⟨0, Nat.zero_le _, rfl, ⟨0, rfl⟩, Lib.hid rfl⟩
    case round =>
      obtain ⟨j, hj, rfl, ⟨k, rfl⟩, hD⟩ := hrel
      by_cases hlt : j < xs.length
      · obtain ⟨b, o, rfl, hb1, hb2, c0, c1, c2, c3, c4⟩ := hs.at j hlt
        obtain ⟨b', o', rfl, hb1', hb2', c0', c1', c2', c3', c4'⟩ := ht.at j (by omega)
        have hlt2 : j < ys.length := by omega
        have hD2 : Hid (decide (xs = ys) = (decide (xs[j] = ys[j]) && decide (xs.drop (j + 1) = ys.drop (j + 1)))) := Lib.hid (by
          rw [hD.out, List.drop_eq_getElem_cons hlt, List.drop_eq_getElem_cons hlt2]; simp only [List.cons.injEq, Bool.decide_and])
        clear hD hs ht
        generalize xs[j] = x at *
        generalize ys[j] = y at *
        by_cases hxy : x = y
        · subst hxy
          go_wp2_with fail
          go_quiet (fail)
          go_wp2
          go_roundw
          case rel => exact ⟨j + 1, by omega, by go_num, ⟨_, rfl⟩, Lib.hid (by rw [hD2.out]; simp)⟩
          case measure => simp [intOf]; omega
        · have hfin := Lib.hid (show decide (xs = ys) = false by rw [hD2.out]; simp [hxy])
          by_cases h0 : x.op = y.op
          · rw [← h0] at c0'
            by_cases h1 : x.a = y.a
            · rw [← h1] at c1'
              by_cases h2 : x.b = y.b
              · rw [← h2] at c2'
                by_cases h3 : x.c = y.c
                · rw [← h3] at c3'
                  have h4 : (x.d == y.d) = false := by rw [beq_eq_false_iff_ne]; intro e; exact hxy (by cases x; cases y; simp_all)
                  clear hxy h0 h1 h2 h3
                  go_wp2_with fail
                  go_quiet (fail)
                  go_wp2
                  go_ret
                  exact ⟨retB hfin.out.symm, ⟨_, World.drewN_drewN _ _ _⟩⟩
                · have g3 : (x.c == y.c) = false := by rw [beq_eq_false_iff_ne]; exact h3
                  clear hxy h0 h1 h2 h3
                  go_wp2_with fail
                  go_quiet (fail)
                  go_wp2
                  go_ret
                  exact ⟨retB hfin.out.symm, ⟨_, World.drewN_drewN _ _ _⟩⟩
              · have g2 : (x.b == y.b) = false := by rw [beq_eq_false_iff_ne]; exact h2
                clear hxy h0 h1 h2
                go_wp2_with fail
                go_quiet (fail)
                go_wp2
                go_ret
                exact ⟨retB hfin.out.symm, ⟨_, World.drewN_drewN _ _ _⟩⟩
            · have g1 : (x.a == y.a) = false := by rw [beq_eq_false_iff_ne]; exact h1
              clear hxy h0 h1
              go_wp2_with fail
              go_quiet (fail)
              go_wp2
              go_ret
              exact ⟨retB hfin.out.symm, ⟨_, World.drewN_drewN _ _ _⟩⟩
          · have g0 : (x.op == y.op) = false := by rw [beq_eq_false_iff_ne]; exact h0
            clear hxy h0
            go_wp2_with fail
            go_quiet (fail)
            go_wp2
            go_ret
            exact ⟨retB hfin.out.symm, ⟨_, World.drewN_drewN _ _ _⟩⟩
      · have hfin := Lib.hid (show decide (xs = ys) = true by rw [hD.out, List.drop_of_length_le (by omega), List.drop_of_length_le (by have := hL.out; omega)]; rfl)
        have hge2 : xs.length ≤ j := by omega
        clear hD
        go_wp2
        go_ret
        exact ⟨retB hfin.out.symm, ⟨_, rfl⟩⟩
  · have hq : ((xs.length : Int) != (ys.length : Int)) = true := by simp; omega
    have hfin := Lib.hid (show decide (xs = ys) = false by
      rw [decide_eq_false_iff_not]; intro e; exact hlen (by rw [e]))
    clear hlen
    go_enter Try.func99, Try.ntmps99
    go_wp2
    go_ret
    exact ⟨retB hfin.out.symm, 0, rfl⟩
end Go.Proofs.Ytckikiaockkmbaa.Sl

/- CodeSame of spec and of impl. Condition: none. -/
namespace Go.Proofs.Ytckikiaockkmbaa.SameC
open Go.RowKit Kit
set_option linter.unusedVariables false
set_option maxHeartbeats 1000000 in
theorem implSame (w : World) (lo hi lo' hi' : Nat) (ta tb tc ua ub uc : Value) (xa xb ya yb : List Int) (x y : List Ins) (sa : IntsR w lo hi ta xa) (sb : IntsR w lo hi tb xb) (s : InssR w lo hi tc x) (ra : IntsR w lo' hi' ua ya) (rb : IntsR w lo' hi' ub yb) (r : InssR w lo' hi' uc y) (h1 : hi ≤ w.heap.size) (h2 : hi' ≤ w.heap.size) :
    Calls Try.prog 53 #[.agg #[ta, tb, tc], .agg #[ua, ub, uc]] w fun e w' => e = .returned (.bool (decide (xa = ya) && (decide (xb = yb) && decide (x = y)))) ∧ New w w' := by
  go_enter Try.func53, Try.ntmps53
  go_wp2_with fail
  have N0 : New w ((w.alloc (.cells #[ta, tb, tc] 70)).alloc (.cells #[ua, ub, uc] 70)) := ((Kp.refl _ _).alloc _).alloc _
  have bA : ((w.alloc (.cells #[ta, tb, tc] 70)).alloc (.cells #[ua, ub, uc] 70)).heap[w.heap.size]? = some (.cells #[ta, tb, tc] 70) := heap_old (alloc_heap _ _)
  have bB : ((w.alloc (.cells #[ta, tb, tc] 70)).alloc (.cells #[ua, ub, uc] 70)).heap[w.heap.size + 1]? = some (.cells #[ua, ub, uc] 70) := heap_at (by simp)
  have z0 := N0.size
  generalize ((w.alloc (.cells #[ta, tb, tc] 70)).alloc (.cells #[ua, ub, uc] 70)) = w0 at *
  obtain ⟨bA_c0, bA_c1, bA_c2⟩ := cells3 bA
  obtain ⟨bB_c0, bB_c1, bB_c2⟩ := cells3 bB
  refine (newOf (Sl.eqI _ _ _ _ _ _ _ _ _ (sa.new h1 N0) (ra.new h2 N0))).mono ?_
  rintro e w1 ⟨rfl, hn1⟩
  have z1 := hn1.size
  have N1 : New w w1 := N0.trans hn1
  have bA_1 := heap_new hn1 bA
  clear bA bA_c0 bA_c1 bA_c2
  obtain ⟨bA_1_c0, bA_1_c1, bA_1_c2⟩ := cells3 bA_1
  have bB_1 := heap_new hn1 bB
  clear bB bB_c0 bB_c1 bB_c2
  obtain ⟨bB_1_c0, bB_1_c1, bB_1_c2⟩ := cells3 bB_1
  clear hn1
  cases exa : decide (xa = ya)
  · go_wp2
    go_ret
    exact ⟨retB (by rw [exa]; rfl), N1⟩
  go_wp2_with fail
  refine (newOf (Sl.eqI _ _ _ _ _ _ _ _ _ (sb.new h1 N1) (rb.new h2 N1))).mono ?_
  rintro e w2 ⟨rfl, hn2⟩
  have z2 := hn2.size
  have N2 : New w w2 := N1.trans hn2
  have bA_2 := heap_new hn2 bA_1
  clear bA_1 bA_1_c0 bA_1_c1 bA_1_c2
  obtain ⟨bA_2_c0, bA_2_c1, bA_2_c2⟩ := cells3 bA_2
  have bB_2 := heap_new hn2 bB_1
  clear bB_1 bB_1_c0 bB_1_c1 bB_1_c2
  obtain ⟨bB_2_c0, bB_2_c1, bB_2_c2⟩ := cells3 bB_2
  clear hn2
  cases exb : decide (xb = yb)
  · go_wp2
    go_ret
    exact ⟨retB (by rw [exa, exb]; rfl), N2⟩
  go_wp2_with fail
  refine (newOf (Sl.eqN _ _ _ _ _ _ _ _ _ (s.new h1 N2) (r.new h2 N2))).mono ?_
  rintro e w3 ⟨rfl, hn3⟩
  have z3 := hn3.size
  have N3 : New w w3 := N2.trans hn3
  have bA_3 := heap_new hn3 bA_2
  clear bA_2 bA_2_c0 bA_2_c1 bA_2_c2
  obtain ⟨bA_3_c0, bA_3_c1, bA_3_c2⟩ := cells3 bA_3
  have bB_3 := heap_new hn3 bB_2
  clear bB_2 bB_2_c0 bB_2_c1 bB_2_c2
  obtain ⟨bB_3_c0, bB_3_c1, bB_3_c2⟩ := cells3 bB_3
  clear hn3
  cases ex : decide (x = y)
  · go_wp2
    go_ret
    exact ⟨retB (by rw [exa, exb, ex]; rfl), N3⟩
  go_wp2
  go_ret
  exact ⟨retB (by rw [exa, exb, ex]; rfl), N3⟩
end Go.Proofs.Ytckikiaockkmbaa.SameC
