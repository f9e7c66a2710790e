/- FnEvalQuiet: for every input the law returns true, and the arguments read as they did. No conditions. -/
import Derived.Test.YtbicpkmlionldaaRows
import Derived.Test.YtbicpkmlionldaaEDrawQ
import Derived.Test.YtbicpkmlionldaaEEvM
import Derived.Test.YtbicpkmlionldaaEDiff
import Derived.Test.YtbicpkmlionldaaELawE
import Derived.Test.YtbicpkmlionldaaEP1
import Derived.Deep.RegionHeld3
import Derived.RegionTactic
import Derived.WalkKit
import Derived.ProofKit
import Derived.OpenShut
import Derived.ShutString
import Derived.ChangeOld
import Derived.Below
namespace Go.Proofs.Ytbicpkmlionldaa.fnEvalQuiet
open Go.ChangeShapes Go.WideShapes Go.ChangeAt Go.RowKit Kit MarkC
open Go.ChangeMaps (open_string shut_string)
set_option linter.unusedVariables false
theorem own : ownKnob Try.prog.godebug = none := by kernel_rfl
theorem laidOut : laidOutB Try.prog = true := by kernel_rfl
set_option maxHeartbeats 16000000 in
set_option maxRecDepth 100000 in
theorem walk (a0 : Option Addr) (l0 c0 : Nat) (a1 : Option Addr) (l1 c1 : Nat) (w : World) (s0 : Kit.Src w a0 l0 c0) (s1 : Kit.Src w a1 l1 c1) :
    Calls Try.prog 5 #[.slice a0 l0 c0, .slice a1 l1 c1] w fun e w' => e = .returned (.bool true) ∧ Below w.heap.size w w' := by
  by_cases hl : 1048576 < l0
  · go_enter Try.func5, Try.ntmps5
    go_wp2
    go_ret
    exact ⟨rfl, Below.refl _ _⟩
  have hl1 : ¬ 1048576 < l0 := hl
  clear hl
  by_cases hl : 1048576 < l1
  · go_enter Try.func5, Try.ntmps5
    go_wp2
    go_ret
    exact ⟨rfl, Below.refl _ _⟩
  · go_enter Try.func5, Try.ntmps5
    go_wp2_with fail
    refine (DrawQ.drawEval _ a0 l0 c0 s0).mono ?_
    rintro e w1 ⟨va, vb, vc, ya, yb, m, ma, mb, za, zb, k, v, s, ks, rfl, N1, hA, hB, hC, hM, hK, hl2, hz1, hz2, hz3, hk2⟩
    obtain ⟨e1, f1, rfl, _⟩ := hA.len
    obtain ⟨e2, f2, rfl, _⟩ := hB.len
    obtain ⟨e3, f3, rfl, _⟩ := hC.len
    obtain ⟨⟨g4, h4, rfl⟩, g5, h5, rfl⟩ := hM.lens
    obtain ⟨e6, f6, rfl, _⟩ := hK.len
    clear hz3
    have oA_1 := Lib.hid hA
    have oB_1 := Lib.hid hB
    have oC_1 := Lib.hid hC
    have oM_1 := Lib.hid hM
    have oK_1 := Lib.hid hK
    clear hA hB hC hM hK
    have zw := N1.size
    have hn2 : New w1 (((w1.alloc (.cells #[.slice e1 ya.length f1, .slice e2 yb.length f2, .slice e3 m.length f3] 49)).alloc (.cells #[.slice g4 za.length h4, .slice g5 zb.length h5] 29)).alloc (.cells #[.int .i64 k, .int .i64 v, .slice e6 ks.length f6] 52)) := (((Kp.refl _ _).alloc _).alloc _).alloc _
    have bA_2 : (((w1.alloc (.cells #[.slice e1 ya.length f1, .slice e2 yb.length f2, .slice e3 m.length f3] 49)).alloc (.cells #[.slice g4 za.length h4, .slice g5 zb.length h5] 29)).alloc (.cells #[.int .i64 k, .int .i64 v, .slice e6 ks.length f6] 52)).heap[w1.heap.size]? = some (.cells #[.slice e1 ya.length f1, .slice e2 yb.length f2, .slice e3 m.length f3] 49) := heap_old (heap_old (alloc_heap _ _))
    have bB_2 : (((w1.alloc (.cells #[.slice e1 ya.length f1, .slice e2 yb.length f2, .slice e3 m.length f3] 49)).alloc (.cells #[.slice g4 za.length h4, .slice g5 zb.length h5] 29)).alloc (.cells #[.int .i64 k, .int .i64 v, .slice e6 ks.length f6] 52)).heap[w1.heap.size + 1]? = some (.cells #[.slice g4 za.length h4, .slice g5 zb.length h5] 29) := heap_old (heap_at (by simp))
    have bX_2 : (((w1.alloc (.cells #[.slice e1 ya.length f1, .slice e2 yb.length f2, .slice e3 m.length f3] 49)).alloc (.cells #[.slice g4 za.length h4, .slice g5 zb.length h5] 29)).alloc (.cells #[.int .i64 k, .int .i64 v, .slice e6 ks.length f6] 52)).heap[w1.heap.size + 1 + 1]? = some (.cells #[.int .i64 k, .int .i64 v, .slice e6 ks.length f6] 52) := heap_at (by simp)
    have y2 : w1.heap.size + 1 + 1 < (((w1.alloc (.cells #[.slice e1 ya.length f1, .slice e2 yb.length f2, .slice e3 m.length f3] 49)).alloc (.cells #[.slice g4 za.length h4, .slice g5 zb.length h5] 29)).alloc (.cells #[.int .i64 k, .int .i64 v, .slice e6 ks.length f6] 52)).heap.size := by simp
    go_upto_region 4 with fail
    generalize (((w1.alloc (.cells #[.slice e1 ya.length f1, .slice e2 yb.length f2, .slice e3 m.length f3] 49)).alloc (.cells #[.slice g4 za.length h4, .slice g5 zb.length h5] 29)).alloc (.cells #[.int .i64 k, .int .i64 v, .slice e6 ks.length f6] 52)) = w2 at *
    have z2 := hn2.size
    have oA_2 := Lib.hid (oA_1.out.new (by omega) hn2)
    have oB_2 := Lib.hid (oB_1.out.new (by omega) hn2)
    have oC_2 := Lib.hid (oC_1.out.new (by omega) hn2)
    have oM_2 := Lib.hid (oM_1.out.new (by omega) hn2)
    have oK_2 := Lib.hid (oK_1.out.new (by omega) hn2)
    have N2 : New w w2 := N1.trans hn2
    clear oA_1 oB_1 oC_1 oM_1 oK_1 N1 hn2
    obtain ⟨t, ht⟩ : ∃ t, EvM.evT ya yb m za zb k v ks = t := ⟨_, rfl⟩
    have hth := Lib.hid ht
    clear ht
    cases t
    · obtain ⟨cA0, cA1, cA2⟩ := cells3 bA_2
      have lA := heap_lt bA_2
      obtain ⟨cB0, cB1⟩ := cells2 bB_2
      have lB := heap_lt bB_2
      obtain ⟨cX0, cX1, cX2⟩ := cells3 bX_2
      have lX := heap_lt bX_2
      go_wp2_with fail
      clear cA0 cA1 cA2 lA cB0 cB1 lB cX0 cX1 cX2 lX
      refine (EvM.implE (xa := ya) (xb := yb) (l := m) (ya := za) (yb := zb) (k := k) (v := v) (ks := ks) oA_2.out oB_2.out oC_2.out oM_2.out.reads.1 oM_2.out.reads.2 oK_2.out (by omega) (by omega) (by omega) (by omega) (by omega) (by omega) (by omega)).mono ?_
      intro e w3 h3
      obtain ⟨pP, qP, rfl, hn3, hMP⟩ := LawE.got_no h3 hth.out 
      have z3 := hn3.size
      have bA_3 := hn3.bk bA_2
      have bB_3 := hn3.bk bB_2
      have bX_3 := hn3.bk bX_2
      have oA_3 := Lib.hid (oA_2.out.new (by omega) hn3)
      have oB_3 := Lib.hid (oB_2.out.new (by omega) hn3)
      have oC_3 := Lib.hid (oC_2.out.new (by omega) hn3)
      have oM_3 := Lib.hid (oM_2.out.new (by omega) hn3)
      have oK_3 := Lib.hid (oK_2.out.new (by omega) hn3)
      have N3 : New w w3 := N2.trans hn3
      clear bA_2 bB_2 bX_2 oA_2 oB_2 oC_2 oM_2 oK_2 N2 hn3
      have oP_3 := Lib.hid hMP
      clear hMP
      obtain ⟨cA0, cA1, cA2⟩ := cells3 bA_3
      have lA := heap_lt bA_3
      obtain ⟨cB0, cB1⟩ := cells2 bB_3
      have lB := heap_lt bB_3
      obtain ⟨cX0, cX1, cX2⟩ := cells3 bX_3
      have lX := heap_lt bX_3
      go_wp2_with fail
      clear cA0 cA1 cA2 lA cB0 cB1 lB cX0 cX1 cX2 lX
      refine (EvM.specE (xa := ya) (xb := yb) (l := m) (ya := za) (yb := zb) (k := k) (v := v) (ks := ks) oA_3.out oB_3.out oC_3.out oM_3.out.reads.1 oM_3.out.reads.2 oK_3.out (by omega) (by omega) (by omega) (by omega) (by omega) (by omega) (by omega)).mono ?_
      intro e w4 h3
      obtain ⟨pQ, qQ, rfl, hn4, hMQ⟩ := LawE.got_no h3 hth.out 
      have z4 := hn4.size
      have bA_4 := hn4.bk bA_3
      have bB_4 := hn4.bk bB_3
      have bX_4 := hn4.bk bX_3
      have oA_4 := Lib.hid (oA_3.out.new (by omega) hn4)
      have oB_4 := Lib.hid (oB_3.out.new (by omega) hn4)
      have oC_4 := Lib.hid (oC_3.out.new (by omega) hn4)
      have oM_4 := Lib.hid (oM_3.out.new (by omega) hn4)
      have oK_4 := Lib.hid (oK_3.out.new (by omega) hn4)
      have oP_4 := Lib.hid (oP_3.out.new hn4)
      have N4 : New w w4 := N3.trans hn4
      clear bA_3 bB_3 bX_3 oA_3 oB_3 oC_3 oM_3 oK_3 oP_3 N3 hn4
      have oQ_4 := Lib.hid hMQ
      clear hMQ
      go_wp2_with fail
      refine (Diff.implSame w4 _ _ _ _ _ _ ([] : List Ev) ([] : List Ev) oP_4.out.reads oQ_4.out.reads).mono ?_
      rintro e w5 ⟨rfl, hn5⟩
      have z5 := hn5.size
      have bA_5 := hn5.bk bA_4
      have bB_5 := hn5.bk bB_4
      have bX_5 := hn5.bk bX_4
      have oA_5 := Lib.hid (oA_4.out.new (by omega) hn5)
      have oB_5 := Lib.hid (oB_4.out.new (by omega) hn5)
      have oC_5 := Lib.hid (oC_4.out.new (by omega) hn5)
      have oM_5 := Lib.hid (oM_4.out.new (by omega) hn5)
      have oK_5 := Lib.hid (oK_4.out.new (by omega) hn5)
      have oP_5 := Lib.hid (oP_4.out.new hn5)
      have oQ_5 := Lib.hid (oQ_4.out.new hn5)
      have N5 : New w w5 := N4.trans hn5
      clear bA_4 bB_4 bX_4 oA_4 oB_4 oC_4 oM_4 oK_4 oP_4 oQ_4 N4 hn5
      have hs : decide (([] : List Ev) = ([] : List Ev)) = true := by simp
      rw [hs]
      clear hs
      go_wp2_with fail
      refine (Diff.implSame w5 _ _ _ _ _ _ ([] : List Ev) ([] : List Ev) oP_5.out.reads oQ_5.out.reads).mono ?_
      rintro e w6 ⟨rfl, hn6⟩
      have z6 := hn6.size
      have bA_6 := hn6.bk bA_5
      have bB_6 := hn6.bk bB_5
      have bX_6 := hn6.bk bX_5
      have oA_6 := Lib.hid (oA_5.out.new (by omega) hn6)
      have oB_6 := Lib.hid (oB_5.out.new (by omega) hn6)
      have oC_6 := Lib.hid (oC_5.out.new (by omega) hn6)
      have oM_6 := Lib.hid (oM_5.out.new (by omega) hn6)
      have oK_6 := Lib.hid (oK_5.out.new (by omega) hn6)
      have oP_6 := Lib.hid (oP_5.out.new hn6)
      have oQ_6 := Lib.hid (oQ_5.out.new hn6)
      have N6 : New w w6 := N5.trans hn6
      clear bA_5 bB_5 bX_5 oA_5 oB_5 oC_5 oM_5 oK_5 oP_5 oQ_5 N5 hn6
      have hs : decide (([] : List Ev) = ([] : List Ev)) = true := by simp
      rw [hs]
      clear hs
      go_wp2
      go_ret
      exact ⟨rfl, N6.toBelow⟩
    · obtain ⟨X, hX⟩ : ∃ X, EvP.evl za zb (.node k v ks) = X := ⟨_, rfl⟩
      obtain ⟨TR, hT⟩ : ∃ TR, EvP.evt za zb (.node k v ks) = TR := ⟨_, rfl⟩
      have hXh := Lib.hid hX
      have hTh := Lib.hid hT
      have hXX : (X != X) = false := by simp
      have hXe : (X == X) = true := by simp
      have htl : TR.length ≤ 1001 := by rw [← hT]; have := EvP.evt_len (ya := za) (yb := zb) (.node k v ks); simp only [Ex.size] at this; omega
      clear hX hT
      obtain ⟨cA0, cA1, cA2⟩ := cells3 bA_2
      have lA := heap_lt bA_2
      obtain ⟨cB0, cB1⟩ := cells2 bB_2
      have lB := heap_lt bB_2
      obtain ⟨cX0, cX1, cX2⟩ := cells3 bX_2
      have lX := heap_lt bX_2
      go_wp2_with fail
      clear cA0 cA1 cA2 lA cB0 cB1 lB cX0 cX1 cX2 lX
      refine (EvM.implE (xa := ya) (xb := yb) (l := m) (ya := za) (yb := zb) (k := k) (v := v) (ks := ks) oA_2.out oB_2.out oC_2.out oM_2.out.reads.1 oM_2.out.reads.2 oK_2.out (by omega) (by omega) (by omega) (by omega) (by omega) (by omega) (by omega)).mono ?_
      intro e w3 h3
      obtain ⟨pP, qP, rfl, hn3, hMP⟩ := LawE.got_yes h3 hth.out hXh.out hTh.out
      have z3 := hn3.size
      have bA_3 := hn3.bk bA_2
      have bB_3 := hn3.bk bB_2
      have bX_3 := hn3.bk bX_2
      have oA_3 := Lib.hid (oA_2.out.new (by omega) hn3)
      have oB_3 := Lib.hid (oB_2.out.new (by omega) hn3)
      have oC_3 := Lib.hid (oC_2.out.new (by omega) hn3)
      have oM_3 := Lib.hid (oM_2.out.new (by omega) hn3)
      have oK_3 := Lib.hid (oK_2.out.new (by omega) hn3)
      have N3 : New w w3 := N2.trans hn3
      clear bA_2 bB_2 bX_2 oA_2 oB_2 oC_2 oM_2 oK_2 N2 hn3
      have oP_3 := Lib.hid hMP
      clear hMP
      obtain ⟨cA0, cA1, cA2⟩ := cells3 bA_3
      have lA := heap_lt bA_3
      obtain ⟨cB0, cB1⟩ := cells2 bB_3
      have lB := heap_lt bB_3
      obtain ⟨cX0, cX1, cX2⟩ := cells3 bX_3
      have lX := heap_lt bX_3
      go_wp2_with fail
      clear cA0 cA1 cA2 lA cB0 cB1 lB cX0 cX1 cX2 lX
      refine (EvM.specE (xa := ya) (xb := yb) (l := m) (ya := za) (yb := zb) (k := k) (v := v) (ks := ks) oA_3.out oB_3.out oC_3.out oM_3.out.reads.1 oM_3.out.reads.2 oK_3.out (by omega) (by omega) (by omega) (by omega) (by omega) (by omega) (by omega)).mono ?_
      intro e w4 h3
      obtain ⟨pQ, qQ, rfl, hn4, hMQ⟩ := LawE.got_yes h3 hth.out hXh.out hTh.out
      have z4 := hn4.size
      have bA_4 := hn4.bk bA_3
      have bB_4 := hn4.bk bB_3
      have bX_4 := hn4.bk bX_3
      have oA_4 := Lib.hid (oA_3.out.new (by omega) hn4)
      have oB_4 := Lib.hid (oB_3.out.new (by omega) hn4)
      have oC_4 := Lib.hid (oC_3.out.new (by omega) hn4)
      have oM_4 := Lib.hid (oM_3.out.new (by omega) hn4)
      have oK_4 := Lib.hid (oK_3.out.new (by omega) hn4)
      have oP_4 := Lib.hid (oP_3.out.new hn4)
      have N4 : New w w4 := N3.trans hn4
      clear bA_3 bB_3 bX_3 oA_3 oB_3 oC_3 oM_3 oK_3 oP_3 N3 hn4
      have oQ_4 := Lib.hid hMQ
      clear hMQ
      go_wp2_with fail
      refine (Diff.implSame w4 _ _ _ _ _ _ TR TR oP_4.out.reads oQ_4.out.reads).mono ?_
      rintro e w5 ⟨rfl, hn5⟩
      have z5 := hn5.size
      have bA_5 := hn5.bk bA_4
      have bB_5 := hn5.bk bB_4
      have bX_5 := hn5.bk bX_4
      have oA_5 := Lib.hid (oA_4.out.new (by omega) hn5)
      have oB_5 := Lib.hid (oB_4.out.new (by omega) hn5)
      have oC_5 := Lib.hid (oC_4.out.new (by omega) hn5)
      have oM_5 := Lib.hid (oM_4.out.new (by omega) hn5)
      have oK_5 := Lib.hid (oK_4.out.new (by omega) hn5)
      have oP_5 := Lib.hid (oP_4.out.new hn5)
      have oQ_5 := Lib.hid (oQ_4.out.new hn5)
      have N5 : New w w5 := N4.trans hn5
      clear bA_4 bB_4 bX_4 oA_4 oB_4 oC_4 oM_4 oK_4 oP_4 oQ_4 N4 hn5
      have hs : decide (TR = TR) = true := by simp
      rw [hs]
      clear hs
      by_cases hn0 : TR.length = 0
      · obtain rfl : TR = [] := List.eq_nil_of_length_eq_zero hn0
        clear hn0 htl
        clear oP_5
        clear oQ_5
        have hq := Lib.hid (LawE.quiet_evl za zb (List.replicate zb.length [1, 2, 3, (l1 : Int) % 256]) _ hTh.out)
        have hX2 := Lib.hid (hq.out.symm.trans hXh.out)
        have hth2 := Lib.hid (LawE.evT_rows (q := (l1 : Int) % 256) hth.out (by omega) (by omega))
        clear hq hXh hTh
        obtain ⟨cB0, cB1⟩ := cells2 bB_5
        have lB := heap_lt bB_5
        have hnN : New w5 (w5.alloc (.cells #[.slice g4 za.length h4, .slice none 0 0] 29)) := (Kp.refl _ _).alloc _
        have bN := alloc_heap w5 (.cells #[.slice g4 za.length h4, .slice none 0 0] 29)
        have yN : w5.heap.size < (w5.alloc (.cells #[.slice g4 za.length h4, .slice none 0 0] 29)).heap.size := by simp
        go_upto_region 9 with fail
        generalize hbN : w5.heap.size = nN at bN yN ⊢
        have hbN2 : w5.heap.size ≤ nN := Nat.le_of_eq hbN
        generalize (w5.alloc (.cells #[.slice g4 za.length h4, .slice none 0 0] 29)) = wN at *
        have hN0 := Lib.hid hnN
        have bN0 := Lib.hid bN
        have hM0 := Lib.hid (MatO.nil wN (nN + 1) wN.heap.size 23 3)
        clear hnN bN hbN
        clear cB0 cB1 lB
        obtain ⟨cB0, cB1⟩ := cells2 bB_5
        have lB := heap_lt bB_5
        go_wp2_with fail
        go_loopw [15] (fun i wr => ∃ (j : Nat) (nv : Value), j ≤ zb.length ∧ i = .int .i64 j ∧ nN < wr.heap.size ∧ New w5 wr ∧ wr.heap[nN]? = some (.cells #[.slice g4 za.length h4, nv] 29 (0, 0)) ∧ MatO wr (nN + 1) wr.heap.size 23 3 nv (List.replicate j [1, 2, 3, (l1 : Int) % 256])) (fun i _ => zb.length - (intOf i).toNat)
        case atStart => exact ⟨0, _, Nat.zero_le _, rfl, yN, hN0.out, bN0.out, hM0.out⟩
        case round =>
          clear cB0 cB1 lB
          obtain ⟨j, nv, hj, rfl, zr, hn6, bN, hM⟩ := hrel
          clear hN0 bN0 hM0 yN
          have hMh := Lib.hid hM
          have bNh := Lib.hid bN
          clear hM
          have hnw := Lib.hid hn6
          have z6 := hn6.size
          have bA_6 := hn6.bk bA_5
          have bB_6 := hn6.bk bB_5
          have bX_6 := hn6.bk bX_5
          have oA_6 := Lib.hid (oA_5.out.new (by omega) hn6)
          have oB_6 := Lib.hid (oB_5.out.new (by omega) hn6)
          have oC_6 := Lib.hid (oC_5.out.new (by omega) hn6)
          have oM_6 := Lib.hid (oM_5.out.new (by omega) hn6)
          have oK_6 := Lib.hid (oK_5.out.new (by omega) hn6)
          have N6 : New w wr := N5.trans hn6
          clear hn6
          by_cases hlt : j < zb.length
          · obtain ⟨cB0, cB1⟩ := cells2 bB_6
            have lB := heap_lt bB_6
            obtain ⟨vs, hO, hOl, hG⟩ := hMh.out.grow (by omega)
            have hOl2 : vs.length ≤ j := by rw [hOl]; simp
            have hGh := Lib.hid hG
            have hOh := Lib.hid hO
            clear hO hOl hG
            have cN1 := cell_of_heap bN 1
            have kA : New wr ((wr.alloc (.cells #[.int .i64 1, .int .i64 2, .int .i64 3, .int .i64 ((l1 : Int) % 256)] 3)).alloc (.cells #[.slice (some ⟨wr.heap.size, 0, none⟩) 4 4] 23)) := ((Kp.refl _ _).alloc _).alloc _
            have hrow := Lib.hid (LawE.row4 wr ((l1 : Int) % 256) (.cells #[.slice (some ⟨wr.heap.size, 0, none⟩) 4 4] 23))
            have hsrc := Lib.hid (LawE.hdr ((wr.alloc (.cells #[.int .i64 1, .int .i64 2, .int .i64 3, .int .i64 ((l1 : Int) % 256)] 3))) (.slice (some ⟨wr.heap.size, 0, none⟩) 4 4) 23)
            have hOA := Lib.hid (hOh.out.new kA)
            have kAh := Lib.hid kA
            have zA := kA.size
            have hsz : ((wr.alloc (.cells #[.int .i64 1, .int .i64 2, .int .i64 3, .int .i64 ((l1 : Int) % 256)] 3))).heap.size = wr.heap.size + 1 := by simp
            rw [hsz] at hsrc
            have bNA := heap_new kA bN
            have hneN := Lib.hid (show nv.ownBlock ≠ some nN from fun e => by have := (hOh.out.lt _ e).1; omega)
            clear hsz hOh kA bN
            go_wp2_with (at_builtin; refine wpList_pushesN rfl _ _ 27 rfl (nN + 1) 23 _ 24 Try.underlying27 MatF.infoM rfl (by decide) nv vs rfl hOA.out _ [.slice (some ⟨wr.heap.size, 0, none⟩) 4 4] rfl hsrc.out (fun y hy _ => by rw [List.mem_singleton] at hy; subst hy; rfl) ?ca ?cb ?cc ?_)
            case ca => simp; omega
            case cb => simp; omega
            case cc => simp; omega
            intro v4 w4 hv4 hk4 ha4
            have hM4 := hGh.out _ w4 v4 _ _ kAh.out hrow.out hk4 (ha4.imp id fun e => by rw [e]; simp) hv4
            have bN4 := (hk4.block _ (by simp; omega) hneN.out).trans bNA
            have hlt4 := hOA.out.lt
            have hN4 := Lib.hid (New.on (hnw.out.trans kAh.out) hk4 (fun c e => by have := hlt4 c e; omega))
            have z4 : wr.heap.size ≤ w4.heap.size := Nat.le_trans zA hk4.size
            have hMs := Lib.hid (show MatO w4 (nN + 1) w4.heap.size 23 3 v4 (List.replicate (j + 1) [1, 2, 3, (l1 : Int) % 256]) by rw [List.replicate_succ']; exact hM4)
            clear hM4 hk4 ha4 hv4 hlt4 hGh hrow hsrc hOA kAh bNA hneN
            clear cN1
            obtain ⟨a9, d9, rfl, _⟩ := hMs.out.reads.len
            simp only [List.length_replicate] at hMs ⊢
            have cN1 := cell_of_heap bN4 1
            have cNf := frozen_of_heap bN4
            have cNl := heap_lt bN4
            have bN4h := Lib.hid bN4
            clear bN4
            clear cB0 cB1 lB
            have hkk : Kp (fun c => c = nN) w4 (w4.setCell ⟨nN, 1, none⟩ (.slice a9 (j + 1) d9)) := (Kp.refl (fun c => c = nN) _).setCell (.inl rfl) _
            have zk := hkk.size
            have hNs := Lib.hid (New.one hN4.out hkk (by omega))
            have bNs := Lib.hid (setCell_heap (o := 1) bN4h.out (.slice a9 (j + 1) d9))
            have hMz := Lib.hid ((hMs.out.kp hkk (fun c e => .inl (by subst e; omega))).mono (Nat.le_refl _) zk)
            clear hkk bN4h hMs hN4
            go_wp2
            go_roundw
            case rel => exact ⟨j + 1, _, by omega, by go_num, by omega, hNs.out, bNs.out, hMz.out⟩
            case measure => simp [intOf]; omega
          · obtain ⟨cB0, cB1⟩ := cells2 bB_6
            have lB := heap_lt bB_6
            obtain rfl : j = zb.length := by omega
            clear hlt
            obtain ⟨aN, dN, rfl, _⟩ := hMh.out.reads.len
            have eN := Lib.hid (List.length_replicate (n := zb.length) (a := ([1, 2, 3, (l1 : Int) % 256] : List Int)))
            simp only [List.length_replicate] at bNh hMh ⊢
            have cN0 := cell_of_heap bNh.out 0
            have cN1 := cell_of_heap bNh.out 1
            obtain ⟨cA0, cA1, cA2⟩ := cells3 bA_6
            have lA := heap_lt bA_6
            obtain ⟨cX0, cX1, cX2⟩ := cells3 bX_6
            have lX := heap_lt bX_6
            go_wp2_with fail
            clear cB0 cB1 lB cA0 cA1 cA2 lA cX0 cX1 cX2 lX
            refine (EvM.implE (xa := ya) (xb := yb) (l := m) (ya := za) (yb := (List.replicate zb.length [1, 2, 3, (l1 : Int) % 256])) (k := k) (v := v) (ks := ks) oA_6.out oB_6.out oC_6.out (oM_6.out.reads.1.mono (lo' := w.heap.size) (hi' := wr.heap.size) (Nat.le_refl _) (by omega)) (hMh.out.reads.mono (by omega) (Nat.le_refl _)) oK_6.out (by omega) (Nat.le_refl _) (by omega) (by omega) (by simp; omega) (by omega) (by omega)).mono ?_
            intro e wn h3
            obtain ⟨pZ, qZ, rfl, hnk, -⟩ := LawE.got_yes h3 hth2.out hX2.out rfl
            clear h3
            go_wp2
            go_ret
            exact ⟨rfl, (N6.trans hnk).toBelow⟩
      · have hg2 : 0 < TR.length := by omega
        clear hn0
        go_wp2_with fail
        refine (Diff.implSame w5 _ _ _ _ _ _ TR TR oP_5.out.reads oQ_5.out.reads).mono ?_
        rintro e w6 ⟨rfl, hn6⟩
        have z6 := hn6.size
        have bA_6 := hn6.bk bA_5
        have bB_6 := hn6.bk bB_5
        have bX_6 := hn6.bk bX_5
        have oA_6 := Lib.hid (oA_5.out.new (by omega) hn6)
        have oB_6 := Lib.hid (oB_5.out.new (by omega) hn6)
        have oC_6 := Lib.hid (oC_5.out.new (by omega) hn6)
        have oM_6 := Lib.hid (oM_5.out.new (by omega) hn6)
        have oK_6 := Lib.hid (oK_5.out.new (by omega) hn6)
        have oP_6 := Lib.hid (oP_5.out.new hn6)
        have oQ_6 := Lib.hid (oQ_5.out.new hn6)
        have N6 : New w w6 := N5.trans hn6
        clear bA_5 bB_5 bX_5 oA_5 oB_5 oC_5 oM_5 oK_5 oP_5 oQ_5 N5 hn6
        have hs : decide (TR = TR) = true := by simp
        rw [hs]
        clear hs
        go_wp2
        go_ret
        exact ⟨rfl, N6.toBelow⟩
set_option maxRecDepth 100000 in
theorem lifted (os : Os) (started : os.Started) (H : Type) (enc : TypeId × Value → H) :
    ReturnsInHanded {} Try.checked os 5 .any (Rows.fnEvalQuietSpec.pre6 enc Try.prog Try.f5 Rows.fnEvalQuietRow.domain false) (Rows.fnEvalQuietSpec.post enc Try.prog Try.f5 false true false false) := by
  refine returnsInHanded_of_change (C := Try.checked) own started (by kernel_rfl) Try.func5
    (ChangeSpec.witness6 (enc := enc) (C := Try.checked) false ⟨#[], #[.slice none 0 0, .slice none 0 0], []⟩ 8 (by kernel_rfl) (by kernel_rfl) (by kernel_rfl) (by kernel_rfl)) ?_
  intro W base args ds gs before hval0 hW hcnd _
  have hval : ∀ (j : Nat) t v, Try.f5.params[j]? = some t → args[j]? = some v → Value.okWide Try.prog W .any base t v := hval0
  have hW' := hW
  obtain ⟨p, q, hA0, hV, rfl, hfz, hnd⟩ := hW
  have hA : DataW.TrodAll enc Try.prog W 0 (fun _ => true) true Try.f5.params.toList args.toList ds p := hA0
  rw [Try.params5] at hA hval
  obtain ⟨v0, vs0, d0, ds0, p0, q0, hargs, rfl, rfl, h0, r0⟩ := trodAll_cons hA
  obtain ⟨v1, vs1, d1, ds1, p1, q1, rfl, rfl, rfl, h1, r1⟩ := trodAll_cons r0
  obtain ⟨rfl, rfl, rfl⟩ := trodAll_nil r1
  obtain rfl : args = #[v0, v1] := by cases args; simp_all
  obtain ⟨rfl, rfl⟩ := trodVars_none hV
  have kk0 := h0
  have lt0 : ∀ x ∈ p0, x.block < W.heap.size := by obtain ⟨m, hm⟩ := kk0; exact DataW.trod_lt m _ _ _ hm
  obtain ⟨a0, l0, c0, rfl, s0⟩ := Kit.open_bytes Try.underlying22 Try.underlying5 (by kernel_rfl) (hval 0 22 v0 rfl rfl) h0
  have kk1 := h1
  have lt1 : ∀ x ∈ p1, x.block < W.heap.size := by obtain ⟨m, hm⟩ := kk1; exact DataW.trod_lt m _ _ _ hm
  obtain ⟨a1, l1, c1, rfl, s1⟩ := Kit.open_bytes Try.underlying22 Try.underlying5 (by kernel_rfl) (hval 1 22 v1 rfl rfl) h1
  clear hA0 hval0
  refine (walk a0 l0 c0 a1 l1 c1 W s0 s1).mono fun e W' ⟨he, bel⟩ => ?_
  subst he
  exact ⟨_, rfl, _, _, _, [], _, [], hW', trodAll_mk1 (shut_bool Try.underlying4 _), (trodAll_cons_mk (Below.trod laidOut (by kernel_rfl) (of_decide_eq_true (by kernel_rfl)) kk0 bel lt0) (trodAll_cons_mk (Below.trod laidOut (by kernel_rfl) (of_decide_eq_true (by kernel_rfl)) kk1 bel lt1) trodAll_mk0)), rfl, bel.frame _, fun h => by cases h⟩
theorem over : Rows.fnEvalQuietRow.holds Try.pinned (OpenSpec.ofChange Rows.fnEvalQuietSpec) :=
  OpenClaim.holds_of_wide 5 Try.f5 rfl rfl rfl rfl rfl rfl rfl ⟨rfl, rfl, rfl, rfl, rfl⟩ rfl rfl rfl rfl rfl (by kernel_rfl) Try.func5 (by kernel_rfl)
    (of_decide_eq_true (by kernel_rfl)) (by unfold Func.isWrapper; first | (rw [if_pos (by decide +kernel)]; kernel_rfl) | (rw [if_neg (by decide +kernel)]; exact ⟨rfl, rfl⟩))
    (fun os started H enc _ => lifted os started H enc)
theorem proved : Rows.FnEvalQuietSaid := over
#print axioms proved
end Go.Proofs.Ytbicpkmlionldaa.fnEvalQuiet
