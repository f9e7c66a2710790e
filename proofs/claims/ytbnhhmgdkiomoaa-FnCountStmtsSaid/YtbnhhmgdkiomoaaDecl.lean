/- declared, isMemory of impl; l2Heads, l3Values, l3Fits, l6Heads of spec. No conditions. -/
import Derived.Test.YtbnhhmgdkiomoaaCont
import Derived.Test.YtbnhhmgdkiomoaaMany
import Derived.Test.YtbnhhmgdkiomoaaShort
namespace Go.Proofs.Ytbnhhmgdkiomoaa.Decl
open Go.RowKit Kit Val
set_option linter.unusedVariables false
set_option maxHeartbeats 1000000 in
theorem declared {w : World} {lo hi lo' hi' : Nat} {s t : Value} {xa xb : List Int} (sa : IntsR w lo hi s xa) (sb : IntsR w lo' hi' t xb) :
    Calls Try.prog 63 #[s, t] w fun e w' => e = .returned (.bool (declB xa xb)) ∧ w = w' := by
  have hA := Lib.hid sa; have hB := Lib.hid sb
  obtain ⟨a, c, rfl, m1⟩ := sa.len
  obtain ⟨a', c', rfl, m2⟩ := sb.len
  clear sa sb
  have D := Lib.hid (show declB xa xb = (Lab.inside xa.length 1 12 && decide (xb.length ≤ 2) && good xa && good xb) by
    have e1 : Lab.inside (xa.length : Int) 1 12 = (decide (1 ≤ xa.length) && decide (xa.length ≤ 12)) := by rw [Bool.eq_iff_iff]; simp [Lab.inside]; omega
    rw [declB, e1])
  cases h1 : Lab.inside (xa.length : Int) 1 12
  · go_enter Try.func63, Try.ntmps63
    go_wp2_with (go_at_call 105; refine (Lab.within _ _ _ _).mono ?_; rintro e w' ⟨rfl, rfl⟩)
    go_ret
    exact ⟨retB (by rw [D.out, h1]; rfl), rfl⟩
  · by_cases h2 : (xb.length : Int) ≤ 2
    · cases h3 : good xa
      · go_enter Try.func63, Try.ntmps63
        go_wp2_with (first | (go_at_call 105; refine (Lab.within _ _ _ _).mono ?_; rintro e w' ⟨rfl, rfl⟩) | (go_at_call 106; refine (Cont.areLabels _ _ _ _ _ hA.out).mono ?_; rintro e w' ⟨rfl, rfl⟩))
        go_ret
        exact ⟨retB (by rw [D.out, h1, h3]; simp), rfl⟩
      · go_enter Try.func63, Try.ntmps63
        go_wp2_with fail
        refine (Lab.within _ _ _ _).mono ?_
        rintro e w' ⟨rfl, rfl⟩
        go_wp2_with fail
        refine (Cont.areLabels _ _ _ _ _ hA.out).mono ?_
        rintro e w' ⟨rfl, rfl⟩
        go_wp2_with fail
        refine (Cont.areLabels _ _ _ _ _ hB.out).mono ?_
        rintro e w' ⟨rfl, rfl⟩
        go_wp2
        go_ret
        exact ⟨retB (by have h2' : decide (xb.length ≤ 2) = true := by simp; omega
                        rw [D.out, h1, h3, h2']; rfl), rfl⟩
    · go_enter Try.func63, Try.ntmps63
      go_wp2_with (go_at_call 105; refine (Lab.within _ _ _ _).mono ?_; rintro e w' ⟨rfl, rfl⟩)
      go_ret
      exact ⟨retB (by have h2' : decide (xb.length ≤ 2) = false := by simp; omega
                      rw [D.out, h1, h2']; rfl), rfl⟩
set_option maxHeartbeats 2000000 in
theorem heads {w : World} {lo hi : Nat} {ta tb tc : Value} {xa xb : List Int} (sa : IntsR w lo hi ta xa) (sb : IntsR w lo hi tb xb) (h1 : hi ≤ w.heap.size) :
    Calls Try.prog 65 #[.agg #[ta, tb, tc]] w fun e w' => e = .returned (.bool (declB xa xb)) ∧ New w w' := by
  obtain ⟨a, c, rfl, m1⟩ := sa.len
  obtain ⟨a', c', rfl, m2⟩ := sb.len
  go_enter Try.func65, Try.ntmps65
  go_wp2_with fail
  have N0 : New w (w.alloc (.cells #[.slice a xa.length c, .slice a' xb.length c', tc] 33)) := ((Kp.refl _ _).alloc _)
  have bA_0 : (w.alloc (.cells #[.slice a xa.length c, .slice a' xb.length c', tc] 33)).heap[w.heap.size]? = some (.cells #[.slice a xa.length c, .slice a' xb.length c', tc] 33) := alloc_heap _ _
  have z0 : w.heap.size < (w.alloc (.cells #[.slice a xa.length c, .slice a' xb.length c', tc] 33)).heap.size := by simp
  generalize (w.alloc (.cells #[.slice a xa.length c, .slice a' xb.length c', tc] 33)) = w0 at *
  have sa0 := sa.new h1 N0
  have sb0 := sb.new h1 N0
  clear sa sb
  obtain ⟨bA_0_c0, bA_0_c1⟩ := cells2 bA_0
  go_loop [3] (fun i => ∃ j : Nat, j ≤ xa.length ∧ i = .int .i64 j ∧ Hid (good (xa.take j) = true)) (fun i => xa.length - (intOf i).toNat)
  case atStart => exact ⟨0, Nat.zero_le _, rfl, Lib.hid rfl⟩
  case round =>
    obtain ⟨j, hj, rfl, hG⟩ := hrel
    by_cases hlt : j < xa.length
    · obtain ⟨b, o, rfl, hb1, hb2, c0⟩ := IntsR.at sa0 j hlt
      have hB := Lib.hid (good_bad (xs := xa) hlt)
      have hT := Lib.hid (good_take (xs := xa) hlt)
      clear sa0
      generalize xa[j] = x at *
      go_wp2_with fail
      refine (Lab.specLabelValid _ _).mono ?_
      rintro r w1 ⟨rfl, rfl⟩
      cases hp : Lab.okL x
      · have hfin := Lib.hid (show declB xa xb = false by rw [declB, hB.out hp]; simp)
        clear hB hT
        go_wp2
        go_ret
        exact ⟨retB hfin.out.symm, N0⟩
      · have hG2 := Lib.hid (show good (xa.take (j + 1)) = true by rw [hT.out, hG.out, hp]; rfl)
        clear hB hT hG
        go_wp2
        go_round
        case rel => exact ⟨j + 1, by omega, by go_num, hG2⟩
        case measure => simp [intOf]; omega
    · have hGA := Lib.hid (show good xa = true by have h := hG.out; rwa [List.take_of_length_le (by omega)] at h)
      have hge : xa.length ≤ j := by omega
      clear hG sa0
      go_wp2_with fail
      go_loop [4] (fun i => ∃ j : Nat, j ≤ xb.length ∧ i = .int .i64 j ∧ Hid (good (xb.take j) = true)) (fun i => xb.length - (intOf i).toNat)
      case atStart => exact ⟨0, Nat.zero_le _, rfl, Lib.hid rfl⟩
      case round =>
        obtain ⟨j, hj, rfl, hG⟩ := hrel
        by_cases hlt : j < xb.length
        · obtain ⟨b, o, rfl, hb1, hb2, c0⟩ := IntsR.at sb0 j hlt
          have hB := Lib.hid (good_bad (xs := xb) hlt)
          have hT := Lib.hid (good_take (xs := xb) hlt)
          clear sb0
          generalize xb[j] = x at *
          go_wp2_with fail
          refine (Lab.specLabelValid _ _).mono ?_
          rintro r w1 ⟨rfl, rfl⟩
          cases hp : Lab.okL x
          · have hfin := Lib.hid (show declB xa xb = false by rw [declB, hB.out hp]; simp)
            clear hB hT
            go_wp2
            go_ret
            exact ⟨retB hfin.out.symm, N0⟩
          · have hG2 := Lib.hid (show good (xb.take (j + 1)) = true by rw [hT.out, hG.out, hp]; rfl)
            clear hB hT hG
            go_wp2
            go_round
            case rel => exact ⟨j + 1, by omega, by go_num, hG2⟩
            case measure => simp [intOf]; omega
        · have hGB := Lib.hid (show good xb = true by have h := hG.out; rwa [List.take_of_length_le (by omega)] at h)
          have hge2 : xb.length ≤ j := by omega
          have D := Lib.hid (show declB xa xb = (decide (1 ≤ xa.length) && decide (xa.length ≤ 12) && decide (xb.length ≤ 2)) by rw [declB, hGA.out, hGB.out]; simp)
          clear hG sb0 hGA hGB
          by_cases g1 : (1 : Int) ≤ xa.length
          · by_cases g2 : (xa.length : Int) ≤ 12
            · by_cases g3 : (xb.length : Int) ≤ 2
              · have hfin := Lib.hid (show declB xa xb = true by rw [D.out]; simp; omega)
                go_wp2
                go_ret
                exact ⟨retB hfin.out.symm, N0⟩
              · have hfin := Lib.hid (show declB xa xb = false by rw [D.out]; simp; omega)
                go_wp2
                go_ret
                exact ⟨retB hfin.out.symm, N0⟩
            · have hfin := Lib.hid (show declB xa xb = false by rw [D.out]; simp; omega)
              go_wp2
              go_ret
              exact ⟨retB hfin.out.symm, N0⟩
          · have hfin := Lib.hid (show declB xa xb = false by rw [D.out]; simp; omega)
            go_wp2
            go_ret
            exact ⟨retB hfin.out.symm, N0⟩
end Go.Proofs.Ytbnhhmgdkiomoaa.Decl
