/- Instances of the library's slices.Equal at ints, events, instructions. No conditions. -/
import Derived.Test.YtckikiaockkmbaaRP2
import Derived.Laws.StructEq
namespace Go.Proofs.Ytckikiaockkmbaa.Sl
open Go.RowKit Kit
set_option linter.unusedVariables false

set_option maxHeartbeats 1000000 in
theorem eqE (w : World) (lo hi lo' hi' : Nat) (s t : Value) (xs ys : List Ev) (hs : EvsR w lo hi s xs) (ht : EvsR w lo' hi' t ys) :
    Calls Try.prog 58 #[s, t] w fun e w' => e = .returned (.bool (decide (xs = ys))) ∧ ∃ k, w' = w.drewN k := by
  obtain ⟨a, c, rfl, hl1⟩ := hs.len
  obtain ⟨a', c', rfl, hl2⟩ := ht.len
  by_cases hlen : xs.length = ys.length
  · have hL := Lib.hid hlen
    have hq3 : ((xs.length : Int) != (ys.length : Int)) = false := by simp [hlen]
    have hle : ys.length ≤ xs.length := by omega
    have hge : xs.length ≤ ys.length := by omega
    clear hlen
    go_enter Try.func58, Try.ntmps58
    go_wp2_with fail
    go_loopw [13] (fun i wr => ∃ j : Nat, j ≤ xs.length ∧ i = .int .i64 j ∧ (∃ k, wr = w.drewN k) ∧ Hid (decide (xs = ys) = decide (xs.drop j = ys.drop j))) (fun i _ => xs.length - (intOf i).toNat)
    case atStart => exact ⟨0, Nat.zero_le _, rfl, ⟨0, rfl⟩, Lib.hid rfl⟩
    case round =>
      obtain ⟨j, hj, rfl, ⟨k, rfl⟩, hD⟩ := hrel
      by_cases hlt : j < xs.length
      · obtain ⟨b, o, rfl, hb1, hb2, c0, c1⟩ := hs.at j hlt
        obtain ⟨b', o', rfl, hb1', hb2', c0', c1'⟩ := ht.at j (by omega)
        have hlt2 : j < ys.length := by omega
        have hD2 : Hid (decide (xs = ys) = (decide (xs[j] = ys[j]) && decide (xs.drop (j + 1) = ys.drop (j + 1)))) := Lib.hid (by
          rw [hD.out, List.drop_eq_getElem_cons hlt, List.drop_eq_getElem_cons hlt2]; simp only [List.cons.injEq, Bool.decide_and])
        clear hD hs ht
        generalize xs[j] = x at *
        generalize ys[j] = y at *
        by_cases hxy : x = y
        · subst hxy
          go_wp2_with fail
          go_quiet (fail)
          go_wp2
          go_roundw
          case rel => exact ⟨j + 1, by omega, by go_num, ⟨_, rfl⟩, Lib.hid (by rw [hD2.out]; simp)⟩
          case measure => simp [intOf]; omega
        · have hfin := Lib.hid (show decide (xs = ys) = false by rw [hD2.out]; simp [hxy])
          by_cases h0 : x.1 = y.1
          · rw [← h0] at c0'
            have h1 : (x.2 == y.2) = false := by rw [beq_eq_false_iff_ne]; intro e; exact hxy (Prod.ext h0 e)
            clear hxy h0
            go_wp2_with fail
            go_quiet (fail)
            go_wp2
            go_ret
            exact ⟨retB hfin.out.symm, ⟨_, World.drewN_drewN _ _ _⟩⟩
          · have g0 : (x.1 == y.1) = false := by rw [beq_eq_false_iff_ne]; exact h0
            clear hxy h0
            go_wp2_with fail
            go_quiet (fail)
            go_wp2
            go_ret
            exact ⟨retB hfin.out.symm, ⟨_, World.drewN_drewN _ _ _⟩⟩
      · have hfin := Lib.hid (show decide (xs = ys) = true by rw [hD.out, List.drop_of_length_le (by omega), List.drop_of_length_le (by have := hL.out; omega)]; rfl)
        have hge2 : xs.length ≤ j := by omega
        clear hD
        go_wp2
        go_ret
        exact ⟨retB hfin.out.symm, ⟨_, rfl⟩⟩
  · have hq : ((xs.length : Int) != (ys.length : Int)) = true := by simp; omega
    have hfin := Lib.hid (show decide (xs = ys) = false by
      rw [decide_eq_false_iff_not]; intro e; exact hlen (by rw [e]))
    clear hlen
    go_enter Try.func58, Try.ntmps58
    go_wp2
    go_ret
    exact ⟨retB hfin.out.symm, 0, rfl⟩

end Go.Proofs.Ytckikiaockkmbaa.Sl
