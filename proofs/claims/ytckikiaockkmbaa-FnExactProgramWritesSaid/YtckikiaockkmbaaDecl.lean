/- declared, isMemory of impl; l2Heads, l3Values, l3Fits, l6Heads of spec. No conditions. -/
import Derived.Test.YtckikiaockkmbaaCont
import Derived.Test.YtckikiaockkmbaaMany
import Derived.Test.YtckikiaockkmbaaShort
namespace Go.Proofs.Ytckikiaockkmbaa.Decl
open Go.RowKit Kit Val
set_option linter.unusedVariables false
set_option maxHeartbeats 1000000 in
theorem declared {w : World} {lo hi lo' hi' : Nat} {s t : Value} {xa xb : List Int} (sa : IntsR w lo hi s xa) (sb : IntsR w lo' hi' t xb) :
    Calls Try.prog 105 #[s, t] w fun e w' => e = .returned (.bool (declB xa xb)) ∧ w = w' := by
  have hA := Lib.hid sa; have hB := Lib.hid sb
  obtain ⟨a, c, rfl, m1⟩ := sa.len
  obtain ⟨a', c', rfl, m2⟩ := sb.len
  clear sa sb
  have D := Lib.hid (show declB xa xb = (Lab.inside xa.length 1 12 && decide (xb.length ≤ 2) && good xa && good xb) by
    have e1 : Lab.inside (xa.length : Int) 1 12 = (decide (1 ≤ xa.length) && decide (xa.length ≤ 12)) := by rw [Bool.eq_iff_iff]; simp [Lab.inside]; omega
    rw [declB, e1])
  cases h1 : Lab.inside (xa.length : Int) 1 12
  · go_enter Try.func105, Try.ntmps105
    go_wp2_with (go_at_call 57; refine (Lab.within _ _ _ _).mono ?_; rintro e w' ⟨rfl, rfl⟩)
    go_ret
    exact ⟨retB (by rw [D.out, h1]; rfl), rfl⟩
  · by_cases h2 : (xb.length : Int) ≤ 2
    · cases h3 : good xa
      · go_enter Try.func105, Try.ntmps105
        go_wp2_with (first | (go_at_call 57; refine (Lab.within _ _ _ _).mono ?_; rintro e w' ⟨rfl, rfl⟩) | (go_at_call 130; refine (Cont.areLabels _ _ _ _ _ hA.out).mono ?_; rintro e w' ⟨rfl, rfl⟩))
        go_ret
        exact ⟨retB (by rw [D.out, h1, h3]; simp), rfl⟩
      · go_enter Try.func105, Try.ntmps105
        go_wp2_with fail
        refine (Lab.within _ _ _ _).mono ?_
        rintro e w' ⟨rfl, rfl⟩
        go_wp2_with fail
        refine (Cont.areLabels _ _ _ _ _ hA.out).mono ?_
        rintro e w' ⟨rfl, rfl⟩
        go_wp2_with fail
        refine (Cont.areLabels _ _ _ _ _ hB.out).mono ?_
        rintro e w' ⟨rfl, rfl⟩
        go_wp2
        go_ret
        exact ⟨retB (by have h2' : decide (xb.length ≤ 2) = true := by simp; omega
                        rw [D.out, h1, h3, h2']; rfl), rfl⟩
    · go_enter Try.func105, Try.ntmps105
      go_wp2_with (go_at_call 57; refine (Lab.within _ _ _ _).mono ?_; rintro e w' ⟨rfl, rfl⟩)
      go_ret
      exact ⟨retB (by have h2' : decide (xb.length ≤ 2) = false := by simp; omega
                      rw [D.out, h1, h2']; rfl), rfl⟩
set_option maxHeartbeats 2000000 in
theorem heads {w : World} {lo hi : Nat} {ta tb tc : Value} {xa xb : List Int} (sa : IntsR w lo hi ta xa) (sb : IntsR w lo hi tb xb) (h1 : hi ≤ w.heap.size) :
    Calls Try.prog 65 #[.agg #[ta, tb, tc]] w fun e w' => e = .returned (.bool (declB xa xb)) ∧ New w w' := by
  obtain ⟨a, c, rfl, m1⟩ := sa.len
  obtain ⟨a', c', rfl, m2⟩ := sb.len
  go_enter Try.func65, Try.ntmps65
  go_wp2_with fail
  have N0 : New w (w.alloc (.cells #[.slice a xa.length c, .slice a' xb.length c', tc] 37)) := ((Kp.refl _ _).alloc _)
  have bA_0 : (w.alloc (.cells #[.slice a xa.length c, .slice a' xb.length c', tc] 37)).heap[w.heap.size]? = some (.cells #[.slice a xa.length c, .slice a' xb.length c', tc] 37) := alloc_heap _ _
  have z0 : w.heap.size < (w.alloc (.cells #[.slice a xa.length c, .slice a' xb.length c', tc] 37)).heap.size := by simp
  generalize (w.alloc (.cells #[.slice a xa.length c, .slice a' xb.length c', tc] 37)) = w0 at *
  have sa0 := sa.new h1 N0
  have sb0 := sb.new h1 N0
  clear sa sb
  obtain ⟨bA_0_c0, bA_0_c1⟩ := cells2 bA_0
  go_loop [3] (fun i => ∃ j : Nat, j ≤ xa.length ∧ i = .int .i64 j ∧ Hid (good (xa.take j) = true)) (fun i => xa.length - (intOf i).toNat)
  case atStart => exact ⟨0, Nat.zero_le _, rfl, Lib.hid rfl⟩
  case round =>
    obtain ⟨j, hj, rfl, hG⟩ := hrel
    by_cases hlt : j < xa.length
    · obtain ⟨b, o, rfl, hb1, hb2, c0⟩ := IntsR.at sa0 j hlt
      have hB := Lib.hid (good_bad (xs := xa) hlt)
      have hT := Lib.hid (good_take (xs := xa) hlt)
      clear sa0
      generalize xa[j] = x at *
      go_wp2_with fail
      refine (Lab.specLabelValid _ _).mono ?_
      rintro r w1 ⟨rfl, rfl⟩
      cases hp : Lab.okL x
      · have hfin := Lib.hid (show declB xa xb = false by rw [declB, hB.out hp]; simp)
        clear hB hT
        go_wp2
        go_ret
        exact ⟨retB hfin.out.symm, N0⟩
      · have hG2 := Lib.hid (show good (xa.take (j + 1)) = true by rw [hT.out, hG.out, hp]; rfl)
        clear hB hT hG
        go_wp2
        go_round
        case rel => exact ⟨j + 1, by omega, by go_num, hG2⟩
        case measure => simp [intOf]; omega
    · have hGA := Lib.hid (show good xa = true by have h := hG.out; rwa [List.take_of_length_le (by omega)] at h)
      have hge : xa.length ≤ j := by omega
      clear hG sa0
      go_wp2_with fail
      go_loop [4] (fun i => ∃ j : Nat, j ≤ xb.length ∧ i = .int .i64 j ∧ Hid (good (xb.take j) = true)) (fun i => xb.length - (intOf i).toNat)
      case atStart => exact ⟨0, Nat.zero_le _, rfl, Lib.hid rfl⟩
      case round =>
        obtain ⟨j, hj, rfl, hG⟩ := hrel
        by_cases hlt : j < xb.length
        · obtain ⟨b, o, rfl, hb1, hb2, c0⟩ := IntsR.at sb0 j hlt
          have hB := Lib.hid (good_bad (xs := xb) hlt)
          have hT := Lib.hid (good_take (xs := xb) hlt)
          clear sb0
          generalize xb[j] = x at *
          go_wp2_with fail
          refine (Lab.specLabelValid _ _).mono ?_
          rintro r w1 ⟨rfl, rfl⟩
          cases hp : Lab.okL x
          · have hfin := Lib.hid (show declB xa xb = false by rw [declB, hB.out hp]; simp)
            clear hB hT
            go_wp2
            go_ret
            exact ⟨retB hfin.out.symm, N0⟩
          · have hG2 := Lib.hid (show good (xb.take (j + 1)) = true by rw [hT.out, hG.out, hp]; rfl)
            clear hB hT hG
            go_wp2
            go_round
            case rel => exact ⟨j + 1, by omega, by go_num, hG2⟩
            case measure => simp [intOf]; omega
        · have hGB := Lib.hid (show good xb = true by have h := hG.out; rwa [List.take_of_length_le (by omega)] at h)
          have hge2 : xb.length ≤ j := by omega
          have D := Lib.hid (show declB xa xb = (decide (1 ≤ xa.length) && decide (xa.length ≤ 12) && decide (xb.length ≤ 2)) by rw [declB, hGA.out, hGB.out]; simp)
          clear hG sb0 hGA hGB
          by_cases g1 : (1 : Int) ≤ xa.length
          · by_cases g2 : (xa.length : Int) ≤ 12
            · by_cases g3 : (xb.length : Int) ≤ 2
              · have hfin := Lib.hid (show declB xa xb = true by rw [D.out]; simp; omega)
                go_wp2
                go_ret
                exact ⟨retB hfin.out.symm, N0⟩
              · have hfin := Lib.hid (show declB xa xb = false by rw [D.out]; simp; omega)
                go_wp2
                go_ret
                exact ⟨retB hfin.out.symm, N0⟩
            · have hfin := Lib.hid (show declB xa xb = false by rw [D.out]; simp; omega)
              go_wp2
              go_ret
              exact ⟨retB hfin.out.symm, N0⟩
          · have hfin := Lib.hid (show declB xa xb = false by rw [D.out]; simp; omega)
            go_wp2
            go_ret
            exact ⟨retB hfin.out.symm, N0⟩
set_option maxHeartbeats 1000000 in
theorem values {w : World} {lo hi : Nat} {s : Value} {xs : List Int} (hs : IntsR w lo hi s xs) : Calls Try.prog 144 #[s] w fun e w' => e = .returned (.bool (okVs xs)) ∧ w = w' := by
  obtain ⟨a, c, rfl, hl1⟩ := hs.len
  go_enter Try.func144, Try.ntmps144
  go_wp2_with fail
  go_loop [3] (fun i => ∃ j : Nat, j ≤ xs.length ∧ i = .int .i64 j ∧ Hid (okVs (xs.take j) = true)) (fun i => xs.length - (intOf i).toNat)
  case atStart => exact ⟨0, Nat.zero_le _, rfl, Lib.hid rfl⟩
  case round =>
    obtain ⟨j, hj, rfl, hG⟩ := hrel
    by_cases hlt : j < xs.length
    · obtain ⟨b, o, rfl, hb1, hb2, c0⟩ := IntsR.at hs j hlt
      have hB := Lib.hid (okVs_bad (xs := xs) hlt)
      have hT := Lib.hid (okVs_take (xs := xs) hlt)
      clear hs
      generalize xs[j] = x at *
      have hV := Lib.hid (show okV x = (decide (0 ≤ x) && decide (x ≤ 255)) by simp [okV, Lab.inside])
      by_cases g1 : x < 0
      · have hfin := Lib.hid (hB.out (by rw [hV.out]; simp; omega))
        go_wp2
        go_ret
        exact ⟨retB hfin.out.symm, rfl⟩
      · by_cases g2 : x ≤ 255
        · have hG2 := Lib.hid (show okVs (xs.take (j + 1)) = true by rw [hT.out, hG.out, hV.out]; simp; omega)
          clear hB hT hG hV
          go_wp2
          go_round
          case rel => exact ⟨j + 1, by omega, by go_num, hG2⟩
          case measure => simp [intOf]; omega
        · have hfin := Lib.hid (hB.out (by rw [hV.out]; simp; omega))
          go_wp2
          go_ret
          exact ⟨retB hfin.out.symm, rfl⟩
    · have hfin := Lib.hid (show okVs xs = true by have h := hG.out; rwa [List.take_of_length_le (by omega)] at h)
      have hge : xs.length ≤ j := by omega
      clear hG hs
      go_wp2
      go_ret
      exact ⟨retB hfin.out.symm, rfl⟩
set_option maxHeartbeats 1000000 in
theorem isMemory {w : World} {a a' : Option Addr} {n c n' c' : Nat} {lo hi : Nat} {ma mb : Value} {ya : List Int} {yb : List (List Int)} (ra : IntsR w lo hi ma ya) (rb : MatR w lo hi mb yb) (h1 : hi ≤ w.heap.size) :
    Calls Try.prog 121 #[.slice a n c, .slice a' n' c', .agg #[ma, mb]] w fun e w' => e = .returned (.bool (fitB n n' ya yb)) ∧ New w w' := by
  obtain ⟨c2, d2, rfl, m1⟩ := ra.len
  obtain ⟨c3, d3, rfl, m2⟩ := rb.len
  by_cases e1 : ya.length = n
  · by_cases e2 : yb.length = n'
    · have f1 : ((ya.length : Int) != (n : Int)) = false := by simp; omega
      have f2 : ((yb.length : Int) != (n' : Int)) = false := by simp; omega
      have D := Lib.hid (show fitB n n' ya yb = (okVs ya && yb.all rowB) by simp [fitB, e1, e2])
      have D2 := Lib.hid (show yb.all rowB = !(yb.any Cont.badRow) by
        rw [List.all_eq_not_any_not]; rfl)
      clear e1 e2
      go_enter Try.func121, Try.ntmps121
      go_wp2_with fail
      have N0 : New w (w.alloc (.cells #[.slice c2 ya.length d2, .slice c3 yb.length d3] 79)) := ((Kp.refl _ _).alloc _)
      have bB_0 : (w.alloc (.cells #[.slice c2 ya.length d2, .slice c3 yb.length d3] 79)).heap[w.heap.size]? = some (.cells #[.slice c2 ya.length d2, .slice c3 yb.length d3] 79) := alloc_heap _ _
      have z0 : w.heap.size < (w.alloc (.cells #[.slice c2 ya.length d2, .slice c3 yb.length d3] 79)).heap.size := by simp
      generalize (w.alloc (.cells #[.slice c2 ya.length d2, .slice c3 yb.length d3] 79)) = w0 at *
      have rb0 := rb.new h1 N0
      have ra0 := ra.new h1 N0
      clear ra rb
      obtain ⟨bB_c0, bB_c1⟩ := cells2 bB_0
      have RA := Lib.hid ra0; have RB := Lib.hid rb0
      clear ra0 rb0
      refine (Cont.areValues _ _ _ _ _ RA.out).mono ?_
      rintro e w' ⟨rfl, rfl⟩
      cases hv : okVs ya
      · go_wp2
        go_ret
        exact ⟨retB (by rw [D.out, hv]; rfl), N0⟩
      · go_wp2_with fail
        refine (Cont.containsFuncM 142 (enters_of Try.func142 (by kernel_rfl) rfl) Cont.badRow Cont.isMemory1 _ _ _ _ _ RB.out).mono ?_
        rintro e w' ⟨rfl, rfl⟩
        go_wp2
        go_ret
        exact ⟨retB (by rw [D.out, hv, D2.out]; simp), N0⟩
    · have f1 : ((ya.length : Int) != (n : Int)) = false := by simp; omega
      have f2 : ((yb.length : Int) != (n' : Int)) = true := by simp; omega
      have D := Lib.hid (show fitB n n' ya yb = false by simp [fitB, e2])
      clear e1 e2
      go_enter Try.func121, Try.ntmps121
      go_wp2
      go_ret
      exact ⟨retB D.out.symm, (Kp.refl _ _).alloc _⟩
  · have f1 : ((ya.length : Int) != (n : Int)) = true := by simp; omega
    have D := Lib.hid (show fitB n n' ya yb = false by simp [fitB, e1])
    clear e1
    go_enter Try.func121, Try.ntmps121
    go_wp2
    go_ret
    exact ⟨retB D.out.symm, (Kp.refl _ _).alloc _⟩
set_option maxHeartbeats 2000000 in
theorem fits {w : World} {lo hi : Nat} {a a' : Option Addr} {n c n' c' : Nat} {tc ma mb : Value} {ya : List Int} {yb : List (List Int)} (ra : IntsR w lo hi ma ya) (rb : MatR w lo hi mb yb) (h1 : hi ≤ w.heap.size) :
    Calls Try.prog 123 #[.agg #[.slice a n c, .slice a' n' c', tc], .agg #[ma, mb]] w fun e w' => e = .returned (.bool (fitB n n' ya yb)) ∧ New w w' := by
  obtain ⟨c2, d2, rfl, m1⟩ := ra.len
  obtain ⟨c3, d3, rfl, m2⟩ := rb.len
  by_cases e1 : ya.length = n
  · by_cases e2 : yb.length = n'
    · have f1 : ((ya.length : Int) != (n : Int)) = false := by simp; omega
      have f2 : ((yb.length : Int) != (n' : Int)) = false := by simp; omega
      have D := Lib.hid (show fitB n n' ya yb = (okVs ya && yb.all rowB) by simp [fitB, e1, e2])
      clear e1 e2
      go_enter Try.func123, Try.ntmps123
      go_wp2_with fail
      have N0 : New w ((w.alloc (.cells #[.slice a n c, .slice a' n' c', tc] 37)).alloc (.cells #[.slice c2 ya.length d2, .slice c3 yb.length d3] 79)) := (((Kp.refl _ _).alloc _).alloc _)
      have bA_0 : ((w.alloc (.cells #[.slice a n c, .slice a' n' c', tc] 37)).alloc (.cells #[.slice c2 ya.length d2, .slice c3 yb.length d3] 79)).heap[w.heap.size]? = some (.cells #[.slice a n c, .slice a' n' c', tc] 37) := heap_old (alloc_heap _ _)
      have bB_0 : ((w.alloc (.cells #[.slice a n c, .slice a' n' c', tc] 37)).alloc (.cells #[.slice c2 ya.length d2, .slice c3 yb.length d3] 79)).heap[w.heap.size + 1]? = some (.cells #[.slice c2 ya.length d2, .slice c3 yb.length d3] 79) := heap_at (by simp)
      have z0 : w.heap.size + 1 < ((w.alloc (.cells #[.slice a n c, .slice a' n' c', tc] 37)).alloc (.cells #[.slice c2 ya.length d2, .slice c3 yb.length d3] 79)).heap.size := by simp
      generalize ((w.alloc (.cells #[.slice a n c, .slice a' n' c', tc] 37)).alloc (.cells #[.slice c2 ya.length d2, .slice c3 yb.length d3] 79)) = w0 at *
      obtain ⟨bA_0_c0, bA_0_c1, bA_0_c2⟩ := cells3 bA_0
      obtain ⟨bB_0_c0, bB_0_c1⟩ := cells2 bB_0
      have rb0 := rb.new h1 N0
      have RA := Lib.hid (ra.new h1 N0)
      clear ra rb
      refine (values RA.out).mono ?_
      rintro e w' ⟨rfl, rfl⟩
      cases hv : okVs ya
      · go_wp2
        go_ret
        exact ⟨retB (by rw [D.out, hv]; rfl), N0⟩
      · go_wp2_with fail
        go_loop [5] (fun i => ∃ j : Nat, j ≤ yb.length ∧ i = .int .i64 j ∧ Hid ((yb.take j).all rowB = true)) (fun i => yb.length - (intOf i).toNat)
        case atStart => exact ⟨0, Nat.zero_le _, rfl, Lib.hid rfl⟩
        case round =>
          obtain ⟨j, hj, rfl, hG⟩ := hrel
          by_cases hlt : j < yb.length
          · obtain ⟨b, o, s, rfl, hb1, hb2, g0, q0⟩ := rb0.at' j hlt
            obtain ⟨x2, x3, rfl, _⟩ := q0.len
            have Q := Lib.hid q0
            have hB := Lib.hid (all_bad (p := rowB) (xs := yb) hlt)
            have hT := Lib.hid (all_take (p := rowB) (xs := yb) hlt)
            clear rb0 q0
            generalize yb[j] = x at *
            by_cases h4 : x.length = 4
            · have e4 : ((x.length : Int) != 4) = false := by simp [h4]
              have hR := Lib.hid (show rowB x = okVs x by simp [rowB, h4])
              clear h4
              go_wp2_with fail
              refine (values Q.out).mono ?_
              rintro r w1 ⟨rfl, rfl⟩
              cases hp : okVs x
              · have hfin := Lib.hid (show fitB n n' ya yb = false by rw [D.out, hB.out (by rw [hR.out, hp])]; simp)
                clear hB hT
                go_wp2
                go_ret
                exact ⟨retB hfin.out.symm, N0⟩
              · have hG2 := Lib.hid (show (yb.take (j + 1)).all rowB = true by rw [hT.out, hG.out, hR.out, hp]; rfl)
                clear hB hT hG
                go_wp2
                go_round
                case rel => exact ⟨j + 1, by omega, by go_num, hG2⟩
                case measure => simp [intOf]; omega
            · have e4 : ((x.length : Int) != 4) = true := by simp; omega
              have hfin := Lib.hid (show fitB n n' ya yb = false by rw [D.out, hB.out (by simp [rowB, h4])]; simp)
              clear hB hT h4
              go_wp2
              go_ret
              exact ⟨retB hfin.out.symm, N0⟩
          · have hfin := Lib.hid (show fitB n n' ya yb = true by
              have h := hG.out
              rw [List.take_of_length_le (by omega)] at h
              rw [D.out, hv, h]; rfl)
            have hge : yb.length ≤ j := by omega
            clear hG rb0
            go_wp2
            go_ret
            exact ⟨retB hfin.out.symm, N0⟩
    · have f1 : ((ya.length : Int) != (n : Int)) = false := by simp; omega
      have f2 : ((yb.length : Int) != (n' : Int)) = true := by simp; omega
      have D := Lib.hid (show fitB n n' ya yb = false by simp [fitB, e2])
      clear e1 e2
      go_enter Try.func123, Try.ntmps123
      go_wp2
      go_ret
      exact ⟨retB D.out.symm, ((Kp.refl _ _).alloc _).alloc _⟩
  · have f1 : ((ya.length : Int) != (n : Int)) = true := by simp; omega
    have D := Lib.hid (show fitB n n' ya yb = false by simp [fitB, e1])
    clear e1
    go_enter Try.func123, Try.ntmps123
    go_wp2
    go_ret
    exact ⟨retB D.out.symm, ((Kp.refl _ _).alloc _).alloc _⟩
end Go.Proofs.Ytckikiaockkmbaa.Decl
