/- Instances of the library's slices.Equal at ints, events, instructions. No conditions. -/
import Derived.Test.YtiokjfgkheollaaLawF
import Derived.Laws.StructEq
namespace Go.Proofs.Ytiokjfgkheollaa.Sl
open Go.RowKit Kit
set_option linter.unusedVariables false

set_option maxHeartbeats 1000000 in
theorem eqI (w : World) (lo hi lo' hi' : Nat) (s t : Value) (xs ys : List Int) (hs : IntsR w lo hi s xs) (ht : IntsR w lo' hi' t ys) :
    Calls Try.prog 63 #[s, t] w fun e w' => e = .returned (.bool (decide (xs = ys))) ∧ ∃ k, w' = w.drewN k := by
  obtain ⟨a, c, rfl, hl1⟩ := hs.len
  obtain ⟨a', c', rfl, hl2⟩ := ht.len
  by_cases hlen : xs.length = ys.length
  · have hL := Lib.hid hlen
    have hq3 : ((xs.length : Int) != (ys.length : Int)) = false := by simp [hlen]
    have hle : ys.length ≤ xs.length := by omega
    have hge : xs.length ≤ ys.length := by omega
    clear hlen
    go_enter Try.func63, Try.ntmps63
    go_wp2_with fail
    go_loopw [13] (fun i wr => ∃ j : Nat, j ≤ xs.length ∧ i = .int .i64 j ∧ (∃ k, wr = w.drewN k) ∧ Hid (decide (xs = ys) = decide (xs.drop j = ys.drop j))) (fun i _ => xs.length - (intOf i).toNat)
    case atStart => exact ⟨0, Nat.zero_le _, rfl, ⟨0, rfl⟩, Lib.hid rfl⟩
    case round =>
      obtain ⟨j, hj, rfl, ⟨k, rfl⟩, hD⟩ := hrel
      by_cases hlt : j < xs.length
      · obtain ⟨b, o, rfl, hb1, hb2, c0⟩ := hs.at j hlt
        obtain ⟨b', o', rfl, hb1', hb2', c0'⟩ := ht.at j (by omega)
        have hlt2 : j < ys.length := by omega
        have hD2 : Hid (decide (xs = ys) = (decide (xs[j] = ys[j]) && decide (xs.drop (j + 1) = ys.drop (j + 1)))) := Lib.hid (by
          rw [hD.out, List.drop_eq_getElem_cons hlt, List.drop_eq_getElem_cons hlt2]; simp only [List.cons.injEq, Bool.decide_and])
        clear hD hs ht
        generalize xs[j] = x at *
        generalize ys[j] = y at *
        by_cases hxy : x = y
        · subst hxy
          go_wp2_with fail
          go_quiet (fail)
          go_wp2
          go_roundw
          case rel => exact ⟨j + 1, by omega, by go_num, ⟨_, rfl⟩, Lib.hid (by rw [hD2.out]; simp)⟩
          case measure => simp [intOf]; omega
        · have hfin := Lib.hid (show decide (xs = ys) = false by rw [hD2.out]; simp [hxy])
          have hb : (x != y) = true := by simp [hxy]
          have hb2 : (x == y) = false := by simp [hxy]
          clear hxy
          go_wp2_with fail
          go_quiet (fail)
          go_wp2
          go_ret
          exact ⟨retB hfin.out.symm, ⟨_, World.drewN_drewN _ _ _⟩⟩
      · have hfin := Lib.hid (show decide (xs = ys) = true by rw [hD.out, List.drop_of_length_le (by omega), List.drop_of_length_le (by have := hL.out; omega)]; rfl)
        have hge2 : xs.length ≤ j := by omega
        clear hD
        go_wp2
        go_ret
        exact ⟨retB hfin.out.symm, ⟨_, rfl⟩⟩
  · have hq : ((xs.length : Int) != (ys.length : Int)) = true := by simp; omega
    have hfin := Lib.hid (show decide (xs = ys) = false by
      rw [decide_eq_false_iff_not]; intro e; exact hlen (by rw [e]))
    clear hlen
    go_enter Try.func63, Try.ntmps63
    go_wp2
    go_ret
    exact ⟨retB hfin.out.symm, 0, rfl⟩


set_option maxHeartbeats 1000000 in
theorem eqN (w : World) (lo hi lo' hi' : Nat) (s t : Value) (xs ys : List Ins) (hs : InssR w lo hi s xs) (ht : InssR w lo' hi' t ys) :
    Calls Try.prog 69 #[s, t] w fun e w' => e = .returned (.bool (decide (xs = ys))) ∧ ∃ k, w' = w.drewN k := by
  obtain ⟨a, c, rfl, hl1⟩ := hs.len
  obtain ⟨a', c', rfl, hl2⟩ := ht.len
  by_cases hlen : xs.length = ys.length
  · have hL := Lib.hid hlen
    have hq3 : ((xs.length : Int) != (ys.length : Int)) = false := by simp [hlen]
    have hle : ys.length ≤ xs.length := by omega
    have hge : xs.length ≤ ys.length := by omega
    clear hlen
    go_enter Try.func69, Try.ntmps69
    go_wp2_with fail
    go_loopw [13] (fun i wr => ∃ j : Nat, j ≤ xs.length ∧ i = .int .i64 j ∧ (∃ k, wr = w.drewN k) ∧ Hid (decide (xs = ys) = decide (xs.drop j = ys.drop j))) (fun i _ => xs.length - (intOf i).toNat)
    case atStart => exact ⟨0, Nat.zero_le _, rfl, ⟨0, rfl⟩, Lib.hid rfl⟩
    case round =>
      obtain ⟨j, hj, rfl, ⟨k, rfl⟩, hD⟩ := hrel
      by_cases hlt : j < xs.length
      · obtain ⟨b, o, rfl, hb1, hb2, c0, c1, c2, c3, c4⟩ := hs.at j hlt
        obtain ⟨b', o', rfl, hb1', hb2', c0', c1', c2', c3', c4'⟩ := ht.at j (by omega)
        have hlt2 : j < ys.length := by omega
        have hD2 : Hid (decide (xs = ys) = (decide (xs[j] = ys[j]) && decide (xs.drop (j + 1) = ys.drop (j + 1)))) := Lib.hid (by
          rw [hD.out, List.drop_eq_getElem_cons hlt, List.drop_eq_getElem_cons hlt2]; simp only [List.cons.injEq, Bool.decide_and])
        clear hD hs ht
        generalize xs[j] = x at *
        generalize ys[j] = y at *
        by_cases hxy : x = y
        · subst hxy
          go_wp2_with fail
          go_quiet (fail)
          go_wp2
          go_roundw
          case rel => exact ⟨j + 1, by omega, by go_num, ⟨_, rfl⟩, Lib.hid (by rw [hD2.out]; simp)⟩
          case measure => simp [intOf]; omega
        · have hfin := Lib.hid (show decide (xs = ys) = false by rw [hD2.out]; simp [hxy])
          by_cases h0 : x.op = y.op
          · rw [← h0] at c0'
            by_cases h1 : x.a = y.a
            · rw [← h1] at c1'
              by_cases h2 : x.b = y.b
              · rw [← h2] at c2'
                by_cases h3 : x.c = y.c
                · rw [← h3] at c3'
                  have h4 : (x.d == y.d) = false := by rw [beq_eq_false_iff_ne]; intro e; exact hxy (by cases x; cases y; simp_all)
                  clear hxy h0 h1 h2 h3
                  go_wp2_with fail
                  go_quiet (fail)
                  go_wp2
                  go_ret
                  exact ⟨retB hfin.out.symm, ⟨_, World.drewN_drewN _ _ _⟩⟩
                · have g3 : (x.c == y.c) = false := by rw [beq_eq_false_iff_ne]; exact h3
                  clear hxy h0 h1 h2 h3
                  go_wp2_with fail
                  go_quiet (fail)
                  go_wp2
                  go_ret
                  exact ⟨retB hfin.out.symm, ⟨_, World.drewN_drewN _ _ _⟩⟩
              · have g2 : (x.b == y.b) = false := by rw [beq_eq_false_iff_ne]; exact h2
                clear hxy h0 h1 h2
                go_wp2_with fail
                go_quiet (fail)
                go_wp2
                go_ret
                exact ⟨retB hfin.out.symm, ⟨_, World.drewN_drewN _ _ _⟩⟩
            · have g1 : (x.a == y.a) = false := by rw [beq_eq_false_iff_ne]; exact h1
              clear hxy h0 h1
              go_wp2_with fail
              go_quiet (fail)
              go_wp2
              go_ret
              exact ⟨retB hfin.out.symm, ⟨_, World.drewN_drewN _ _ _⟩⟩
          · have g0 : (x.op == y.op) = false := by rw [beq_eq_false_iff_ne]; exact h0
            clear hxy h0
            go_wp2_with fail
            go_quiet (fail)
            go_wp2
            go_ret
            exact ⟨retB hfin.out.symm, ⟨_, World.drewN_drewN _ _ _⟩⟩
      · have hfin := Lib.hid (show decide (xs = ys) = true by rw [hD.out, List.drop_of_length_le (by omega), List.drop_of_length_le (by have := hL.out; omega)]; rfl)
        have hge2 : xs.length ≤ j := by omega
        clear hD
        go_wp2
        go_ret
        exact ⟨retB hfin.out.symm, ⟨_, rfl⟩⟩
  · have hq : ((xs.length : Int) != (ys.length : Int)) = true := by simp; omega
    have hfin := Lib.hid (show decide (xs = ys) = false by
      rw [decide_eq_false_iff_not]; intro e; exact hlen (by rw [e]))
    clear hlen
    go_enter Try.func69, Try.ntmps69
    go_wp2
    go_ret
    exact ⟨retB hfin.out.symm, 0, rfl⟩
end Go.Proofs.Ytiokjfgkheollaa.Sl
