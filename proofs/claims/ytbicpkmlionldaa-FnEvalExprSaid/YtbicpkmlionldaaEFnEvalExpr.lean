/- FnEvalExpr: for every input the law returns true, and the arguments read as they did. No conditions. -/
import Derived.Test.YtbicpkmlionldaaRows
import Derived.Test.YtbicpkmlionldaaEDrawQ
import Derived.Test.YtbicpkmlionldaaEEvM
import Derived.Test.YtbicpkmlionldaaEDiff
import Derived.Test.YtbicpkmlionldaaELawE
import Derived.Test.YtbicpkmlionldaaEP1
import Derived.Deep.RegionHeld3
import Derived.RegionTactic
import Derived.WalkKit
import Derived.ProofKit
import Derived.OpenShut
import Derived.ShutString
import Derived.ChangeOld
import Derived.Below
namespace Go.Proofs.Ytbicpkmlionldaa.fnEvalExpr
open Go.ChangeShapes Go.WideShapes Go.ChangeAt Go.RowKit Kit MarkC
open Go.ChangeMaps (open_string shut_string)
set_option linter.unusedVariables false
theorem own : ownKnob Try.prog.godebug = none := by kernel_rfl
theorem laidOut : laidOutB Try.prog = true := by kernel_rfl
set_option maxHeartbeats 16000000 in
set_option maxRecDepth 100000 in
theorem walk (a0 : Option Addr) (l0 c0 : Nat) (w : World) (s0 : Kit.Src w a0 l0 c0) :
    Calls Try.prog 4 #[.slice a0 l0 c0] w fun e w' => e = .returned (.bool true) ∧ Below w.heap.size w w' := by
  by_cases hl : 1048576 < l0
  · go_enter Try.func4, Try.ntmps4
    go_wp2
    go_ret
    exact ⟨rfl, Below.refl _ _⟩
  · go_enter Try.func4, Try.ntmps4
    go_wp2_with fail
    refine (DrawQ.drawEval _ a0 l0 c0 s0).mono ?_
    rintro e w1 ⟨va, vb, vc, ya, yb, m, ma, mb, za, zb, k, v, s, ks, rfl, N1, hA, hB, hC, hM, hK, hl2, hz1, hz2, hz3, hk2⟩
    obtain ⟨e1, f1, rfl, _⟩ := hA.len
    obtain ⟨e2, f2, rfl, _⟩ := hB.len
    obtain ⟨e3, f3, rfl, _⟩ := hC.len
    obtain ⟨⟨g4, h4, rfl⟩, g5, h5, rfl⟩ := hM.lens
    obtain ⟨e6, f6, rfl, _⟩ := hK.len
    clear hz3
    have oA_1 := Lib.hid hA
    have oB_1 := Lib.hid hB
    have oC_1 := Lib.hid hC
    have oM_1 := Lib.hid hM
    have oK_1 := Lib.hid hK
    clear hA hB hC hM hK
    have zw := N1.size
    have hn2 : New w1 (((w1.alloc (.cells #[.slice e1 ya.length f1, .slice e2 yb.length f2, .slice e3 m.length f3] 49)).alloc (.cells #[.slice g4 za.length h4, .slice g5 zb.length h5] 29)).alloc (.cells #[.int .i64 k, .int .i64 v, .slice e6 ks.length f6] 52)) := (((Kp.refl _ _).alloc _).alloc _).alloc _
    have bA_2 : (((w1.alloc (.cells #[.slice e1 ya.length f1, .slice e2 yb.length f2, .slice e3 m.length f3] 49)).alloc (.cells #[.slice g4 za.length h4, .slice g5 zb.length h5] 29)).alloc (.cells #[.int .i64 k, .int .i64 v, .slice e6 ks.length f6] 52)).heap[w1.heap.size]? = some (.cells #[.slice e1 ya.length f1, .slice e2 yb.length f2, .slice e3 m.length f3] 49) := heap_old (heap_old (alloc_heap _ _))
    have bB_2 : (((w1.alloc (.cells #[.slice e1 ya.length f1, .slice e2 yb.length f2, .slice e3 m.length f3] 49)).alloc (.cells #[.slice g4 za.length h4, .slice g5 zb.length h5] 29)).alloc (.cells #[.int .i64 k, .int .i64 v, .slice e6 ks.length f6] 52)).heap[w1.heap.size + 1]? = some (.cells #[.slice g4 za.length h4, .slice g5 zb.length h5] 29) := heap_old (heap_at (by simp))
    have bX_2 : (((w1.alloc (.cells #[.slice e1 ya.length f1, .slice e2 yb.length f2, .slice e3 m.length f3] 49)).alloc (.cells #[.slice g4 za.length h4, .slice g5 zb.length h5] 29)).alloc (.cells #[.int .i64 k, .int .i64 v, .slice e6 ks.length f6] 52)).heap[w1.heap.size + 1 + 1]? = some (.cells #[.int .i64 k, .int .i64 v, .slice e6 ks.length f6] 52) := heap_at (by simp)
    have y2 : w1.heap.size + 1 + 1 < (((w1.alloc (.cells #[.slice e1 ya.length f1, .slice e2 yb.length f2, .slice e3 m.length f3] 49)).alloc (.cells #[.slice g4 za.length h4, .slice g5 zb.length h5] 29)).alloc (.cells #[.int .i64 k, .int .i64 v, .slice e6 ks.length f6] 52)).heap.size := by simp
    go_upto_region 4 with fail
    generalize (((w1.alloc (.cells #[.slice e1 ya.length f1, .slice e2 yb.length f2, .slice e3 m.length f3] 49)).alloc (.cells #[.slice g4 za.length h4, .slice g5 zb.length h5] 29)).alloc (.cells #[.int .i64 k, .int .i64 v, .slice e6 ks.length f6] 52)) = w2 at *
    have z2 := hn2.size
    have oA_2 := Lib.hid (oA_1.out.new (by omega) hn2)
    have oB_2 := Lib.hid (oB_1.out.new (by omega) hn2)
    have oC_2 := Lib.hid (oC_1.out.new (by omega) hn2)
    have oM_2 := Lib.hid (oM_1.out.new (by omega) hn2)
    have oK_2 := Lib.hid (oK_1.out.new (by omega) hn2)
    have N2 : New w w2 := N1.trans hn2
    clear oA_1 oB_1 oC_1 oM_1 oK_1 N1 hn2
    obtain ⟨t, ht⟩ : ∃ t, EvM.evT ya yb m za zb k v ks = t := ⟨_, rfl⟩
    have hth := Lib.hid ht
    clear ht
    cases t
    · obtain ⟨cA0, cA1, cA2⟩ := cells3 bA_2
      have lA := heap_lt bA_2
      obtain ⟨cB0, cB1⟩ := cells2 bB_2
      have lB := heap_lt bB_2
      obtain ⟨cX0, cX1, cX2⟩ := cells3 bX_2
      have lX := heap_lt bX_2
      go_wp2_with fail
      clear cA0 cA1 cA2 lA cB0 cB1 lB cX0 cX1 cX2 lX
      refine (EvM.implE (xa := ya) (xb := yb) (l := m) (ya := za) (yb := zb) (k := k) (v := v) (ks := ks) oA_2.out oB_2.out oC_2.out oM_2.out.reads.1 oM_2.out.reads.2 oK_2.out (by omega) (by omega) (by omega) (by omega) (by omega) (by omega) (by omega)).mono ?_
      intro e w3 h3
      obtain ⟨pP, qP, rfl, hn3, hMP⟩ := LawE.got_no h3 hth.out 
      have z3 := hn3.size
      have bA_3 := hn3.bk bA_2
      have bB_3 := hn3.bk bB_2
      have bX_3 := hn3.bk bX_2
      have oA_3 := Lib.hid (oA_2.out.new (by omega) hn3)
      have oB_3 := Lib.hid (oB_2.out.new (by omega) hn3)
      have oC_3 := Lib.hid (oC_2.out.new (by omega) hn3)
      have oM_3 := Lib.hid (oM_2.out.new (by omega) hn3)
      have oK_3 := Lib.hid (oK_2.out.new (by omega) hn3)
      have N3 : New w w3 := N2.trans hn3
      clear bA_2 bB_2 bX_2 oA_2 oB_2 oC_2 oM_2 oK_2 N2 hn3
      have oP_3 := Lib.hid hMP
      clear hMP
      obtain ⟨cA0, cA1, cA2⟩ := cells3 bA_3
      have lA := heap_lt bA_3
      obtain ⟨cB0, cB1⟩ := cells2 bB_3
      have lB := heap_lt bB_3
      obtain ⟨cX0, cX1, cX2⟩ := cells3 bX_3
      have lX := heap_lt bX_3
      go_wp2_with fail
      clear cA0 cA1 cA2 lA cB0 cB1 lB cX0 cX1 cX2 lX
      refine (EvM.specE (xa := ya) (xb := yb) (l := m) (ya := za) (yb := zb) (k := k) (v := v) (ks := ks) oA_3.out oB_3.out oC_3.out oM_3.out.reads.1 oM_3.out.reads.2 oK_3.out (by omega) (by omega) (by omega) (by omega) (by omega) (by omega) (by omega)).mono ?_
      intro e w4 h3
      obtain ⟨pQ, qQ, rfl, hn4, hMQ⟩ := LawE.got_no h3 hth.out 
      have z4 := hn4.size
      have bA_4 := hn4.bk bA_3
      have bB_4 := hn4.bk bB_3
      have bX_4 := hn4.bk bX_3
      have oA_4 := Lib.hid (oA_3.out.new (by omega) hn4)
      have oB_4 := Lib.hid (oB_3.out.new (by omega) hn4)
      have oC_4 := Lib.hid (oC_3.out.new (by omega) hn4)
      have oM_4 := Lib.hid (oM_3.out.new (by omega) hn4)
      have oK_4 := Lib.hid (oK_3.out.new (by omega) hn4)
      have oP_4 := Lib.hid (oP_3.out.new hn4)
      have N4 : New w w4 := N3.trans hn4
      clear bA_3 bB_3 bX_3 oA_3 oB_3 oC_3 oM_3 oK_3 oP_3 N3 hn4
      have oQ_4 := Lib.hid hMQ
      clear hMQ
      go_wp2_with fail
      refine (Diff.implSame w4 _ _ _ _ _ _ ([] : List Ev) ([] : List Ev) oP_4.out.reads oQ_4.out.reads).mono ?_
      rintro e w5 ⟨rfl, hn5⟩
      have z5 := hn5.size
      have bA_5 := hn5.bk bA_4
      have bB_5 := hn5.bk bB_4
      have bX_5 := hn5.bk bX_4
      have oA_5 := Lib.hid (oA_4.out.new (by omega) hn5)
      have oB_5 := Lib.hid (oB_4.out.new (by omega) hn5)
      have oC_5 := Lib.hid (oC_4.out.new (by omega) hn5)
      have oM_5 := Lib.hid (oM_4.out.new (by omega) hn5)
      have oK_5 := Lib.hid (oK_4.out.new (by omega) hn5)
      have oP_5 := Lib.hid (oP_4.out.new hn5)
      have oQ_5 := Lib.hid (oQ_4.out.new hn5)
      have N5 : New w w5 := N4.trans hn5
      clear bA_4 bB_4 bX_4 oA_4 oB_4 oC_4 oM_4 oK_4 oP_4 oQ_4 N4 hn5
      have hs : decide (([] : List Ev) = ([] : List Ev)) = true := by simp
      rw [hs]
      clear hs
      go_wp2_with fail
      refine (Diff.implSame w5 _ _ _ _ _ _ ([] : List Ev) ([] : List Ev) oP_5.out.reads oQ_5.out.reads).mono ?_
      rintro e w6 ⟨rfl, hn6⟩
      have z6 := hn6.size
      have bA_6 := hn6.bk bA_5
      have bB_6 := hn6.bk bB_5
      have bX_6 := hn6.bk bX_5
      have oA_6 := Lib.hid (oA_5.out.new (by omega) hn6)
      have oB_6 := Lib.hid (oB_5.out.new (by omega) hn6)
      have oC_6 := Lib.hid (oC_5.out.new (by omega) hn6)
      have oM_6 := Lib.hid (oM_5.out.new (by omega) hn6)
      have oK_6 := Lib.hid (oK_5.out.new (by omega) hn6)
      have oP_6 := Lib.hid (oP_5.out.new hn6)
      have oQ_6 := Lib.hid (oQ_5.out.new hn6)
      have N6 : New w w6 := N5.trans hn6
      clear bA_5 bB_5 bX_5 oA_5 oB_5 oC_5 oM_5 oK_5 oP_5 oQ_5 N5 hn6
      have hs : decide (([] : List Ev) = ([] : List Ev)) = true := by simp
      rw [hs]
      clear hs
      go_wp2
      go_ret
      exact ⟨rfl, N6.toBelow⟩
    · obtain ⟨X, hX⟩ : ∃ X, EvP.evl za zb (.node k v ks) = X := ⟨_, rfl⟩
      obtain ⟨TR, hT⟩ : ∃ TR, EvP.evt za zb (.node k v ks) = TR := ⟨_, rfl⟩
      have hXh := Lib.hid hX
      have hTh := Lib.hid hT
      have hXX : (X != X) = false := by simp
      have hXe : (X == X) = true := by simp
      have htl : TR.length ≤ 1001 := by rw [← hT]; have := EvP.evt_len (ya := za) (yb := zb) (.node k v ks); simp only [Ex.size] at this; omega
      clear hX hT
      obtain ⟨cA0, cA1, cA2⟩ := cells3 bA_2
      have lA := heap_lt bA_2
      obtain ⟨cB0, cB1⟩ := cells2 bB_2
      have lB := heap_lt bB_2
      obtain ⟨cX0, cX1, cX2⟩ := cells3 bX_2
      have lX := heap_lt bX_2
      go_wp2_with fail
      clear cA0 cA1 cA2 lA cB0 cB1 lB cX0 cX1 cX2 lX
      refine (EvM.implE (xa := ya) (xb := yb) (l := m) (ya := za) (yb := zb) (k := k) (v := v) (ks := ks) oA_2.out oB_2.out oC_2.out oM_2.out.reads.1 oM_2.out.reads.2 oK_2.out (by omega) (by omega) (by omega) (by omega) (by omega) (by omega) (by omega)).mono ?_
      intro e w3 h3
      obtain ⟨pP, qP, rfl, hn3, hMP⟩ := LawE.got_yes h3 hth.out hXh.out hTh.out
      have z3 := hn3.size
      have bA_3 := hn3.bk bA_2
      have bB_3 := hn3.bk bB_2
      have bX_3 := hn3.bk bX_2
      have oA_3 := Lib.hid (oA_2.out.new (by omega) hn3)
      have oB_3 := Lib.hid (oB_2.out.new (by omega) hn3)
      have oC_3 := Lib.hid (oC_2.out.new (by omega) hn3)
      have oM_3 := Lib.hid (oM_2.out.new (by omega) hn3)
      have oK_3 := Lib.hid (oK_2.out.new (by omega) hn3)
      have N3 : New w w3 := N2.trans hn3
      clear bA_2 bB_2 bX_2 oA_2 oB_2 oC_2 oM_2 oK_2 N2 hn3
      have oP_3 := Lib.hid hMP
      clear hMP
      obtain ⟨cA0, cA1, cA2⟩ := cells3 bA_3
      have lA := heap_lt bA_3
      obtain ⟨cB0, cB1⟩ := cells2 bB_3
      have lB := heap_lt bB_3
      obtain ⟨cX0, cX1, cX2⟩ := cells3 bX_3
      have lX := heap_lt bX_3
      go_wp2_with fail
      clear cA0 cA1 cA2 lA cB0 cB1 lB cX0 cX1 cX2 lX
      refine (EvM.specE (xa := ya) (xb := yb) (l := m) (ya := za) (yb := zb) (k := k) (v := v) (ks := ks) oA_3.out oB_3.out oC_3.out oM_3.out.reads.1 oM_3.out.reads.2 oK_3.out (by omega) (by omega) (by omega) (by omega) (by omega) (by omega) (by omega)).mono ?_
      intro e w4 h3
      obtain ⟨pQ, qQ, rfl, hn4, hMQ⟩ := LawE.got_yes h3 hth.out hXh.out hTh.out
      have z4 := hn4.size
      have bA_4 := hn4.bk bA_3
      have bB_4 := hn4.bk bB_3
      have bX_4 := hn4.bk bX_3
      have oA_4 := Lib.hid (oA_3.out.new (by omega) hn4)
      have oB_4 := Lib.hid (oB_3.out.new (by omega) hn4)
      have oC_4 := Lib.hid (oC_3.out.new (by omega) hn4)
      have oM_4 := Lib.hid (oM_3.out.new (by omega) hn4)
      have oK_4 := Lib.hid (oK_3.out.new (by omega) hn4)
      have oP_4 := Lib.hid (oP_3.out.new hn4)
      have N4 : New w w4 := N3.trans hn4
      clear bA_3 bB_3 bX_3 oA_3 oB_3 oC_3 oM_3 oK_3 oP_3 N3 hn4
      have oQ_4 := Lib.hid hMQ
      clear hMQ
      go_wp2_with fail
      refine (Diff.implSame w4 _ _ _ _ _ _ TR TR oP_4.out.reads oQ_4.out.reads).mono ?_
      rintro e w5 ⟨rfl, hn5⟩
      have z5 := hn5.size
      have bA_5 := hn5.bk bA_4
      have bB_5 := hn5.bk bB_4
      have bX_5 := hn5.bk bX_4
      have oA_5 := Lib.hid (oA_4.out.new (by omega) hn5)
      have oB_5 := Lib.hid (oB_4.out.new (by omega) hn5)
      have oC_5 := Lib.hid (oC_4.out.new (by omega) hn5)
      have oM_5 := Lib.hid (oM_4.out.new (by omega) hn5)
      have oK_5 := Lib.hid (oK_4.out.new (by omega) hn5)
      have oP_5 := Lib.hid (oP_4.out.new hn5)
      have oQ_5 := Lib.hid (oQ_4.out.new hn5)
      have N5 : New w w5 := N4.trans hn5
      clear bA_4 bB_4 bX_4 oA_4 oB_4 oC_4 oM_4 oK_4 oP_4 oQ_4 N4 hn5
      have hs : decide (TR = TR) = true := by simp
      rw [hs]
      clear hs
      have hsh := Lib.hid (LawE.shp_of hth.out)
      have hf := Lib.hid (LawE.fit_of hth.out)
      have hk3 : ks.length ≤ 3 := LawE.kids3 hth.out
      obtain ⟨vs, hvs⟩ : ∃ vs, EvP.evls za zb ks = vs := ⟨_, rfl⟩
      have hvsh := Lib.hid hvs
      have hvl : vs.length = ks.length := by rw [← hvs]; exact EvP.evls_length ks
      have hvlh := Lib.hid hvl
      clear hvs hvl
      have hn6 : New w5 ((w5.alloc (.cells #[] 68)).alloc (.cells #[.int .i64 0, .int .i64 0, .int .i64 0] 3)) := ((Kp.refl _ _).alloc _).alloc _
      have hEV := OwnF.empty (α := Ev) (n := 2) (enc := encE) w5 68 (base := w5.heap.size) (Nat.le_refl _)
      have hEV2 := Lib.hid (hEV.new ((Kp.refl _ _).alloc (.cells #[.int .i64 0, .int .i64 0, .int .i64 0] 3)))
      have bV_6 : ((w5.alloc (.cells #[] 68)).alloc (.cells #[.int .i64 0, .int .i64 0, .int .i64 0] 3)).heap[w5.heap.size + 1]? = some (.cells #[.int .i64 0, .int .i64 0, .int .i64 0] 3) := heap_at (by simp)
      have yV : w5.heap.size + 1 < ((w5.alloc (.cells #[] 68)).alloc (.cells #[.int .i64 0, .int .i64 0, .int .i64 0] 3)).heap.size := by simp
      go_upto_region 10 with fail
      clear hEV
      generalize hbE : w5.heap.size = bEV at bV_6 yV hEV2 ⊢
      have hbE2 : w5.heap.size ≤ bEV := Nat.le_of_eq hbE
      generalize ((w5.alloc (.cells #[] 68)).alloc (.cells #[.int .i64 0, .int .i64 0, .int .i64 0] 3)) = wr at *
      clear hbE
      have hR0 := Lib.hid (show LawE.RowI wr (bEV + 1) (LawE.pad vs 0) from bV_6)
      clear bV_6
      have hn0 := Lib.hid hn6
      clear hn6
      obtain ⟨cX0, cX1, cX2⟩ := cells3 bX_5
      have lX := heap_lt bX_5
      go_wp2_with fail
      go_loopw [12, 14] (fun q i wr => ∃ (j : Nat) (u : Value), j ≤ ks.length ∧ i = .int .i64 j ∧ u = q ∧ New w5 wr ∧ LawE.RowI wr (bEV + 1) (LawE.pad vs j) ∧ OwnF 2 encE wr bEV 68 u (EvP.evts za zb (ks.take j))) (fun _ i _ => ks.length - (intOf i).toNat)
      case atStart => exact ⟨0, _, Nat.zero_le _, rfl, rfl, hn0.out, hR0.out, hEV2.out⟩
      case round =>
        clear cX0 cX1 cX2 lX
        obtain ⟨j, u, hj, rfl, rfl, hn6, hR, hE⟩ := hrel
        clear hR0 hEV2 hn0
        have hRh := Lib.hid hR
        have hEh := Lib.hid hE
        clear hR hE
        have hnw := Lib.hid hn6
        have z6 := hn6.size
        have bA_6 := hn6.bk bA_5
        have bB_6 := hn6.bk bB_5
        have bX_6 := hn6.bk bX_5
        have oA_6 := Lib.hid (oA_5.out.new (by omega) hn6)
        have oB_6 := Lib.hid (oB_5.out.new (by omega) hn6)
        have oC_6 := Lib.hid (oC_5.out.new (by omega) hn6)
        have oM_6 := Lib.hid (oM_5.out.new (by omega) hn6)
        have oK_6 := Lib.hid (oK_5.out.new (by omega) hn6)
        have oP_6 := Lib.hid (oP_5.out.new hn6)
        have N6 : New w wr := N5.trans hn6
        clear hn6
        by_cases hlt : j < ks.length
        · have yVr : bEV + 1 < wr.heap.size := heap_lt hRh.out
          obtain ⟨gb, go_, gs, ge, gl1, gl2, e0, e1_, e2_, gk⟩ := oK_6.out.at j hlt
          cases ge
          obtain ⟨a6, d6, rfl, _⟩ := gk.len
          have gkh := Lib.hid gk
          have htk := Lib.hid (LawE.evT_kid hth.out j hlt)
          have hts := Lib.hid (EvP.evts_take (ya := za) (yb := zb) hlt)
          have hxe : ks[j] = .node ks[j].kind ks[j].val ks[j].kids := by cases ks[j]; rfl
          have hsz2 := Ex.kids_get ks j hlt
          have htl2 := EvP.evts_take_len (ya := za) (yb := zb) ks j
          have hvj := Lib.hid (show EvP.evl za zb ks[j] = Step.at0 vs j by rw [← hvsh.out]; exact (LawE.at0_evls hlt).symm)
          obtain ⟨x, hx⟩ : ∃ x, ks[j] = x := ⟨_, rfl⟩
          rw [hx] at e0 e1_ e2_ gkh htk hts hxe hsz2 hvj
          rw [hx] at gk
          have hxeh := Lib.hid hxe
          have hxl := EvP.evt_len (ya := za) (yb := zb) x
          have hxs := Ex.size_kids x
          clear hx gk hxe
          obtain ⟨cA0, cA1, cA2⟩ := cells3 bA_6
          have lA := heap_lt bA_6
          obtain ⟨cB0, cB1⟩ := cells2 bB_6
          have lB := heap_lt bB_6
          obtain ⟨cX0, cX1, cX2⟩ := cells3 bX_6
          have lX := heap_lt bX_6
          go_wp2_with fail
          refine wp_region_held_drew (S := fun w' => w'.cell? ⟨w1.heap.size, 0, none⟩ = some (.slice e1 ya.length f1) ∧ w'.cell? ⟨w1.heap.size, 1, none⟩ = some (.slice e2 yb.length f2) ∧ w'.cell? ⟨w1.heap.size, 2, none⟩ = some (.slice e3 m.length f3) ∧ w'.cell? ⟨w1.heap.size + 1, 0, none⟩ = some (.slice g4 za.length h4) ∧ w'.cell? ⟨w1.heap.size + 1, 1, none⟩ = some (.slice g5 zb.length h5) ∧ w'.cell? ⟨w1.heap.size + 1 + 1, 2, none⟩ = some (.slice (some ⟨gb, go_, none⟩) ks.length f6) ∧ w'.cell? ⟨gb, go_ + j * 3, none⟩ = some (.int .i64 x.kind) ∧ w'.cell? ⟨gb, go_ + j * 3 + 1, none⟩ = some (.int .i64 x.val) ∧ w'.cell? ⟨gb, go_ + j * 3 + 2, none⟩ = some (.slice a6 x.kids.length d6)) (by kernel_rfl) ?_ (fun hHeld => ?_)
          · exact ⟨cA0, cA1, cA2, cB0, cB1, cX2, e0, e1_, e2_⟩
          refine HT 0 rfl ?_
          try simp only [AP]
          refine HT 1 rfl ?_
          try simp only [AP]
          refine HT 2 rfl ?_
          try simp only [AP]
          refine HT 3 rfl ?_
          try simp only [AP]
          refine HT 4 rfl ?_
          try simp only [AP]
          refine HT 5 rfl ?_
          try simp only [AP]
          refine HT 6 rfl ?_
          try simp only [AP]
          refine HR 7 rfl fun K hK => ?_
          go_simp
          have kd : New wr wr.drew := (Kp.refl _ _).drew
          refine (EvM.implE (xa := ya) (xb := yb) (l := m) (ya := za) (yb := zb) (k := x.kind) (v := x.val) (ks := x.kids) (oA_6.out.new (by omega) kd) (oB_6.out.new (by omega) kd) (oC_6.out.new (by omega) kd) ((oM_6.out.new (by omega) kd).reads.1) ((oM_6.out.new (by omega) kd).reads.2) (gkh.out.new (by omega) kd) (show w1.heap.size ≤ wr.heap.size by omega) (show w1.heap.size ≤ wr.heap.size by omega) (show w1.heap.size ≤ wr.heap.size by omega) (by omega) (by omega) (by omega) (by omega)).mono ?_
          intro e wn h3
          obtain ⟨pK, qK, rfl, hnk, hMK⟩ := LawE.got_yes h3 htk.out rfl rfl
          rw [← hxeh.out] at hMK
          rw [← hxeh.out]
          have hnN := kd.trans hnk
          have zn := hnN.size
          have dA0 := (hnN.cell (cell_lt cA0) (fun f => f) _).trans cA0
          have dA1 := (hnN.cell (cell_lt cA1) (fun f => f) _).trans cA1
          have dA2 := (hnN.cell (cell_lt cA2) (fun f => f) _).trans cA2
          have dB0 := (hnN.cell (cell_lt cB0) (fun f => f) _).trans cB0
          have dB1 := (hnN.cell (cell_lt cB1) (fun f => f) _).trans cB1
          have dX2 := (hnN.cell (cell_lt cX2) (fun f => f) _).trans cX2
          have d0 := (hnN.cell (cell_lt e0) (fun f => f) _).trans e0
          have d1 := (hnN.cell (cell_lt e1_) (fun f => f) _).trans e1_
          have d2 := (hnN.cell (cell_lt e2_) (fun f => f) _).trans e2_
          have hMKh := Lib.hid hMK
          clear hMK h3
          refine hK.out _ _ ?_ (fun hHeld2 => ?_)
          · exact ⟨dA0, dA1, dA2, dB0, dB1, dX2, d0, d1, d2⟩
          clear hK K hHeld
          have hHeld := hHeld2
          clear hHeld2
          try simp only [AP]
          refine HT 8 rfl ?_
          try simp only [AP]
          refine HT 9 rfl ?_
          try simp only [AP]
          refine HT 10 rfl ?_
          try simp only [AP]
          refine HT 11 rfl ?_
          try simp only [AP]
          refine HT 12 rfl ?_
          try simp only [AP]
          refine HT 13 rfl ?_
          try simp only [AP]
          refine HT 14 rfl ?_
          try simp only [AP]
          refine wpAnyH_done (by kernel_rfl) ?_ _
          clear cA0 cA1 cA2 lA cB0 cB1 lB cX0 cX1 cX2 lX
          clear e0 e1_ e2_ d0 d1 d2 dA0 dA1 dA2 dB0 dB1 dX2
          have hR2 := Lib.hid (hRh.out.bk hnN (fun f => f))
          have hE2 := Lib.hid (hEh.out.new hnN)
          have hN2 := Lib.hid (hnw.out.trans hnN)
          have zN2 := hN2.out.size
          have hvj2 := hvj.out
          generalize hz : EvP.evl za zb x = z at *
          have cV := hR2.out.cell j (by rw [LawE.pad_length]; omega)
          have fV := hR2.out.free j
          generalize hcv : (LawE.pad vs j)[j]'_ = cv0 at cV
          have hps := Lib.hid (show LawE.pad vs (j + 1) = (LawE.pad vs j).set j z by rw [hvj2]; exact LawE.pad_set vs j (by omega))
          clear hcv hvj2 hvj hz hRh hEh hnk kd hxeh gkh htk
          have hk3 : Kp (fun c => c = bEV + 1) wn (wn.setCell ⟨bEV + 1, j, none⟩ (.int .i64 z)) := (Kp.refl (fun c => c = bEV + 1) _).setCell (.inl rfl) _
          have hR3 := Lib.hid (show LawE.RowI (wn.setCell ⟨bEV + 1, j, none⟩ (.int .i64 z)) (bEV + 1) (LawE.pad vs (j + 1)) by rw [hps.out]; exact hR2.out.set j z)
          have hne := Lib.hid (OwnF.box hE2.out hR2.out (by decide))
          have hE3 := Lib.hid (hE2.out.kp hk3 (fun c e1 e2 => by subst e2; exact hne.out e1))
          have hMK3 := Lib.hid (hMKh.out.reads.kp hk3 (Nat.le_refl _) (fun c e => .inl (by subst e; exact Nat.lt_of_lt_of_le yVr (show wr.heap.size ≤ wr.drew.heap.size from Nat.le_refl _))))
          have hN3 := Lib.hid (New.one hN2.out hk3 (by omega))
          have zN3 := hk3.size
          generalize hTx : EvP.evt za zb x = Tx at *
          clear hk3 hR2 hE2 hMKh hN2 hne hTx hps
          go_wp2_with (at_builtin; refine wpList_pushesN rfl _ _ 32 rfl bEV 68 _ 16 Try.underlying32 EvI.infoE rfl (by decide) u (EvP.evts za zb (ks.take j)) rfl hE3.out _ Tx rfl hMK3.out (fun q _ => EvI.oneE q) ?ca ?cb ?cc ?_)
          case ca => omega
          case cb => omega
          case cc => omega
          intro v4 w4 hv4 hk4 ha4
          have hne4 := Lib.hid (OwnF.box hE3.out hR3.out (by decide))
          have hR4 := Lib.hid (hR3.out.bk hk4 hne4.out)
          have hlt4 := Lib.hid hE3.out.lt
          have hN4 := Lib.hid (New.on hN3.out hk4 (fun c e => by have := hlt4.out c e; omega))
          have hv4h := Lib.hid (show OwnF 2 encE w4 bEV 68 v4 (EvP.evts za zb (ks.take (j + 1))) by rw [hts.out]; exact hv4)
          clear cV fV hv4 hk4 ha4 hne4 hlt4 hE3 hMK3 hR3 hN3
          go_wp2
          go_roundw
          case rel => exact ⟨j + 1, v4, by omega, by go_num, rfl, hN4.out, hR4.out, hv4h.out⟩
          case measure => simp [intOf]; omega
        · have hall : ks.take j = ks := List.take_of_length_le (by omega)
          obtain rfl : j = ks.length := by omega
          rw [hall] at hEh
          clear hall hlt
          obtain ⟨p4, q4, rfl, _⟩ := hEh.out.reads.len
          have hvr := Lib.hid (LawE.range_of hth.out)
          obtain ⟨ts, hts⟩ : ∃ ts, EvP.evts za zb ks = ts := ⟨_, rfl⟩
          have hXv := Lib.hid (show EvP.opV za zb k v vs = X by rw [← hXh.out, EvP.evl, hvsh.out])
          have hTv := Lib.hid (show ts ++ EvP.opT k v vs = TR by rw [← hTh.out, EvP.evt, hts, hvsh.out])
          rw [hvsh.out] at hvr
          rw [hts] at hEh ⊢
          clear hts hvsh
          have hlv := hvlh.out
          have oE_6 := Lib.hid hEh.out
          clear hEh hXh hTh
          rcases EvP.kinds hsh.out with ⟨rfl, e1, r2, r3⟩ | ⟨rfl, e1, r2, r3⟩ | ⟨rfl, e1, r2, r3⟩ | ⟨r1, r2, e1, rfl⟩ | ⟨rfl, e1, rfl⟩
          · as_aux_lemma =>
              have hTT := hTv.out
              rw [EvP.opT, if_neg (by omega), List.append_nil] at hTT
              subst hTT
              obtain ⟨cX0, cX1, cX2⟩ := cells3 bX_6
              have lX := heap_lt bX_6
              clear hXv hTv hvr hlv hvlh
              go_wp2_with fail
              refine (Diff.implSame wr _ _ _ _ _ _ ts ts oP_6.out.reads oE_6.out.reads).mono ?_
              rintro e w7 ⟨rfl, hn7⟩
              have z7 := hn7.size
              have bA_7 := hn7.bk bA_6
              have bB_7 := hn7.bk bB_6
              have bX_7 := hn7.bk bX_6
              have oA_7 := Lib.hid (oA_6.out.new (by omega) hn7)
              have oB_7 := Lib.hid (oB_6.out.new (by omega) hn7)
              have oC_7 := Lib.hid (oC_6.out.new (by omega) hn7)
              have oM_7 := Lib.hid (oM_6.out.new (by omega) hn7)
              have oK_7 := Lib.hid (oK_6.out.new (by omega) hn7)
              have oP_7 := Lib.hid (oP_6.out.new hn7)
              have oE_7 := Lib.hid (oE_6.out.new hn7)
              have N7 : New w w7 := N6.trans hn7
              clear cX0 cX1 cX2 lX
              clear bA_6 bB_6 bX_6 oA_6 oB_6 oC_6 oM_6 oK_6 oP_6 oE_6 N6 hn7
              have hs : decide (ts = ts) = true := by simp
              rw [hs]
              clear hs
              go_wp2
              go_ret
              exact ⟨rfl, N7.toBelow⟩
          · as_aux_lemma =>
              have hTT := hTv.out
              rw [EvP.opT, if_neg (by omega), List.append_nil] at hTT
              subst hTT
              obtain ⟨cX0, cX1, cX2⟩ := cells3 bX_6
              have lX := heap_lt bX_6
              clear hXv hTv hvr hlv hvlh
              go_wp2_with fail
              refine (Diff.implSame wr _ _ _ _ _ _ ts ts oP_6.out.reads oE_6.out.reads).mono ?_
              rintro e w7 ⟨rfl, hn7⟩
              have z7 := hn7.size
              have bA_7 := hn7.bk bA_6
              have bB_7 := hn7.bk bB_6
              have bX_7 := hn7.bk bX_6
              have oA_7 := Lib.hid (oA_6.out.new (by omega) hn7)
              have oB_7 := Lib.hid (oB_6.out.new (by omega) hn7)
              have oC_7 := Lib.hid (oC_6.out.new (by omega) hn7)
              have oM_7 := Lib.hid (oM_6.out.new (by omega) hn7)
              have oK_7 := Lib.hid (oK_6.out.new (by omega) hn7)
              have oP_7 := Lib.hid (oP_6.out.new hn7)
              have oE_7 := Lib.hid (oE_6.out.new hn7)
              have N7 : New w w7 := N6.trans hn7
              clear cX0 cX1 cX2 lX
              clear bA_6 bB_6 bX_6 oA_6 oB_6 oC_6 oM_6 oK_6 oP_6 oE_6 N6 hn7
              have hs : decide (ts = ts) = true := by simp
              rw [hs]
              clear hs
              go_wp2
              go_ret
              exact ⟨rfl, N7.toBelow⟩
          · as_aux_lemma =>
              rw [e1] at hRh
              have bV : wr.heap[bEV + 1]? = some (.cells #[.int .i64 (Step.at0 vs 0), .int .i64 0, .int .i64 0] 3) := (show wr.heap[bEV + 1]? = some (.cells (List.map (Value.int .i64) (LawE.pad vs 1)).toArray 3 (0, 0)) from hRh.out)
              clear hRh
              obtain ⟨i0, hi0, hi02⟩ : ∃ n : Nat, Step.at0 vs 0 = n ∧ n ≤ 255 := LawE.at0_nat hvr.out 0 (by omega)
              rw [hi0] at bV
              obtain ⟨n, rfl⟩ := Int.eq_ofNat_of_zero_le r2
              have hn : n < zb.length := by have := hf.out.al; omega
              have h4n := hf.out.ar n hn
              obtain ⟨a7, o7, s7, hc7, _, _, q3, hrow⟩ := oM_6.out.reads.2.at' n hn
              cases hc7
              obtain ⟨a8, d8, rfl, _⟩ := hrow.len
              have hr4 : i0 % 4 < zb[n].length := by omega
              obtain ⟨a9, o9, hc9, _, _, q8⟩ := IntsR.at hrow (i0 % 4) hr4
              obtain rfl := hc9
              have hX2 : zb[n][i0 % 4] = X := by rw [← hXv.out, EvP.opV, if_neg (by decide), if_neg (by decide), if_pos rfl, hi0, EvP.row0_nat hn, show ((i0 : Int) % 4) = ((i0 % 4 : Nat) : Int) by omega, EvP.at0_nat hr4]
              rw [hX2] at q8
              have hT2 : TR.length = ts.length + 1 := by rw [← hTv.out, EvP.opT, if_pos rfl]; simp
              rw [hT2]
              have h4a : zb[n].length ≤ 4 := by omega
              have h4b : 4 ≤ zb[n].length := by omega
              have htl3 : ts.length ≤ 1000 := by omega
              clear hX2 hrow hXv hTv hvr hlv hvlh h4n hT2 oP_6 oE_6
              generalize zb[n].length = ln at *
              have cV0 := cell_of_heap bV 0
              have hwh := Lib.hid (show IntKind.i64.wrap ((ts.length : Int) + 1) = (ts.length : Int) + 1 from IntWalk.i64_in _ (by omega))
              obtain ⟨cX0, cX1, cX2⟩ := cells3 bX_6
              have lX := heap_lt bX_6
              obtain ⟨cB0, cB1⟩ := cells2 bB_6
              have lB := heap_lt bB_6
              go_wp2_with fail
              have hw := hwh.out
              go_quiet (fail)
              clear hw
              go_wp2
              go_ret
              exact ⟨rfl, (N6.trans (drewN_kp _ _ (Kp.refl _ _))).toBelow⟩
          · as_aux_lemma =>
              by_cases hk4 : k = 4
              · subst hk4
                rw [e1] at hRh
                have bV : wr.heap[bEV + 1]? = some (.cells #[.int .i64 (Step.at0 vs 0), .int .i64 (Step.at0 vs 1), .int .i64 0] 3) := (show wr.heap[bEV + 1]? = some (.cells (List.map (Value.int .i64) (LawE.pad vs 2)).toArray 3 (0, 0)) from hRh.out)
                clear hRh
                obtain ⟨i0, hi0, hi02⟩ : ∃ n : Nat, Step.at0 vs 0 = n ∧ n ≤ 255 := LawE.at0_nat hvr.out 0 (by omega)
                rw [hi0] at bV
                obtain ⟨i1, hi1, hi12⟩ : ∃ n : Nat, Step.at0 vs 1 = n ∧ n ≤ 255 := LawE.at0_nat hvr.out 1 (by omega)
                rw [hi1] at bV
                have hX2 := hXv.out
                rw [EvP.opV, if_neg (by decide), if_neg (by decide), if_neg (by decide), if_neg (by decide), hi0, hi1] at hX2
                have hTT := hTv.out
                rw [EvP.opT, if_neg (by omega), List.append_nil] at hTT
                subst hTT
                have hX3 : ((i0 : Int) + (i1 : Int)).tmod 256 = X := by rw [← hX2, Int.tmod_eq_emod_of_nonneg (by omega)]; rfl
                have hw : IntKind.i64.wrap ((i0 : Int) + (i1 : Int)) = (i0 : Int) + (i1 : Int) := IntWalk.i64_in _ (by omega)
                have hq : (X == X) = true := by simp
                have hwh := Lib.hid hw
                obtain ⟨cV0, cV1⟩ := cells2 bV
                clear hX2 hXv hTv hvr hlv hvlh hi0 hi1 hw
                obtain ⟨cX0, cX1, cX2⟩ := cells3 bX_6
                have lX := heap_lt bX_6
                go_wp2_with fail
                have hw := hwh.out
                refine wp_region_held_drew (S := fun w' => w'.cell? ⟨bEV + 1, 0, none⟩ = some (.int .i64 i0) ∧ w'.cell? ⟨bEV + 1, 1, none⟩ = some (.int .i64 i1)) (by kernel_rfl) ?_ (fun hHeld => ?_)
                · exact ⟨cV0, cV1⟩
                refine HT 0 rfl ?_
                try simp only [AP]
                refine HT 1 rfl ?_
                try simp only [AP]
                refine HT 2 rfl ?_
                try simp only [AP]
                refine HT 3 rfl ?_
                try simp only [AP]
                refine HT 4 rfl ?_
                try simp only [AP]
                refine HT 5 rfl ?_
                try simp only [AP]
                refine HT 6 rfl ?_
                try simp only [AP]
                refine HT 7 rfl ?_
                try simp only [AP]
                refine HT 8 rfl ?_
                try simp only [AP]
                refine HT 9 rfl ?_
                try simp only [AP]
                refine HT 10 rfl ?_
                try simp only [AP]
                refine HT 11 rfl ?_
                try simp only [AP]
                refine HT 12 rfl ?_
                try simp only [AP]
                refine HR 13 rfl fun K hK => ?_
                go_simp
                have kd : New wr wr.drew := (Kp.refl _ _).drew
                refine (Diff.implSame wr.drew _ _ _ _ _ _ ts ts (oP_6.out.new kd).reads (oE_6.out.new kd).reads).mono ?_
                rintro e wn ⟨rfl, hnk⟩
                have hs : decide (ts = ts) = true := by simp
                rw [hs]
                have hnN := kd.trans hnk
                have d0 := (hnN.cell (cell_lt cV0) (fun f => f) _).trans cV0
                have d1 := (hnN.cell (cell_lt cV1) (fun f => f) _).trans cV1
                clear hs
                go_simp
                refine hK.out _ _ ?_ (fun hHeld2 => ?_)
                · exact ⟨d0, d1⟩
                clear hK K hHeld
                have hHeld := hHeld2
                clear hHeld2
                try simp only [AP]
                refine HT 14 rfl ?_
                try simp only [AP]
                refine HT 15 rfl ?_
                try simp only [AP]
                refine wpAnyH_done (by kernel_rfl) ?_ _
                clear hw
                go_wp2
                go_ret
                exact ⟨rfl, ((N6.trans hnN).toBelow)⟩
              · by_cases hk5 : k = 5
                · subst hk5
                  rw [e1] at hRh
                  have bV : wr.heap[bEV + 1]? = some (.cells #[.int .i64 (Step.at0 vs 0), .int .i64 (Step.at0 vs 1), .int .i64 0] 3) := (show wr.heap[bEV + 1]? = some (.cells (List.map (Value.int .i64) (LawE.pad vs 2)).toArray 3 (0, 0)) from hRh.out)
                  clear hRh
                  obtain ⟨i0, hi0, hi02⟩ : ∃ n : Nat, Step.at0 vs 0 = n ∧ n ≤ 255 := LawE.at0_nat hvr.out 0 (by omega)
                  rw [hi0] at bV
                  obtain ⟨i1, hi1, hi12⟩ : ∃ n : Nat, Step.at0 vs 1 = n ∧ n ≤ 255 := LawE.at0_nat hvr.out 1 (by omega)
                  rw [hi1] at bV
                  have hX2 := hXv.out
                  rw [EvP.opV, if_neg (by decide), if_neg (by decide), if_neg (by decide), if_neg (by decide), hi0, hi1] at hX2
                  have hTT := hTv.out
                  rw [EvP.opT, if_neg (by omega), List.append_nil] at hTT
                  subst hTT
                  have hX4 : X = ((i0 : Int) - (i1 : Int) + 256) % 256 := hX2.symm
                  have hX5 : 0 ≤ X ∧ X ≤ 255 := by omega
                  have hX6 := hX5.1
                  have hX7 := hX5.2
                  have hw : IntKind.i64.wrap (X + (i1 : Int)) = X + (i1 : Int) := IntWalk.i64_in _ (by omega)
                  have hX3 : (X + (i1 : Int)).tmod 256 = (i0 : Int) := by rw [Int.tmod_eq_emod_of_nonneg (by omega)]; omega
                  have hq : ((i0 : Int) == (i0 : Int)) = true := by simp
                  clear hX4 hX5
                  have hwh := Lib.hid hw
                  obtain ⟨cV0, cV1⟩ := cells2 bV
                  clear hX2 hXv hTv hvr hlv hvlh hi0 hi1 hw
                  obtain ⟨cX0, cX1, cX2⟩ := cells3 bX_6
                  have lX := heap_lt bX_6
                  go_wp2_with fail
                  have hw := hwh.out
                  refine wp_region_held_drew (S := fun w' => w'.cell? ⟨bEV + 1, 0, none⟩ = some (.int .i64 i0) ∧ w'.cell? ⟨bEV + 1, 1, none⟩ = some (.int .i64 i1)) (by kernel_rfl) ?_ (fun hHeld => ?_)
                  · exact ⟨cV0, cV1⟩
                  refine HT 0 rfl ?_
                  try simp only [AP]
                  refine HT 1 rfl ?_
                  try simp only [AP]
                  refine HT 2 rfl ?_
                  try simp only [AP]
                  refine HT 3 rfl ?_
                  try simp only [AP]
                  refine HT 4 rfl ?_
                  try simp only [AP]
                  refine HT 5 rfl ?_
                  try simp only [AP]
                  refine HT 6 rfl ?_
                  try simp only [AP]
                  refine HT 7 rfl ?_
                  try simp only [AP]
                  refine HT 8 rfl ?_
                  try simp only [AP]
                  refine HT 9 rfl ?_
                  try simp only [AP]
                  refine HT 10 rfl ?_
                  try simp only [AP]
                  refine HT 11 rfl ?_
                  try simp only [AP]
                  refine HT 12 rfl ?_
                  try simp only [AP]
                  refine HR 13 rfl fun K hK => ?_
                  go_simp
                  have kd : New wr wr.drew := (Kp.refl _ _).drew
                  refine (Diff.implSame wr.drew _ _ _ _ _ _ ts ts (oP_6.out.new kd).reads (oE_6.out.new kd).reads).mono ?_
                  rintro e wn ⟨rfl, hnk⟩
                  have hs : decide (ts = ts) = true := by simp
                  rw [hs]
                  have hnN := kd.trans hnk
                  have d0 := (hnN.cell (cell_lt cV0) (fun f => f) _).trans cV0
                  have d1 := (hnN.cell (cell_lt cV1) (fun f => f) _).trans cV1
                  clear hs
                  go_simp
                  refine hK.out _ _ ?_ (fun hHeld2 => ?_)
                  · exact ⟨d0, d1⟩
                  clear hK K hHeld
                  have hHeld := hHeld2
                  clear hHeld2
                  try simp only [AP]
                  refine HT 14 rfl ?_
                  try simp only [AP]
                  refine HT 15 rfl ?_
                  try simp only [AP]
                  refine wpAnyH_done (by kernel_rfl) ?_ _
                  clear hw
                  go_wp2
                  go_ret
                  exact ⟨rfl, ((N6.trans hnN).toBelow)⟩
                · have hTT := hTv.out
                  rw [EvP.opT, if_neg (by omega), List.append_nil] at hTT
                  subst hTT
                  have n1 : (k == 3) = false := by rw [beq_eq_false_iff_ne]; omega
                  have n2 : (k == 11) = false := by rw [beq_eq_false_iff_ne]; omega
                  have n3 : (k == 4) = false := by rw [beq_eq_false_iff_ne]; omega
                  have n4 : (k == 5) = false := by rw [beq_eq_false_iff_ne]; omega
                  clear hk4 hk5
                  obtain ⟨cX0, cX1, cX2⟩ := cells3 bX_6
                  have lX := heap_lt bX_6
                  clear hXv hTv hvr hlv hvlh
                  go_wp2_with fail
                  refine (Diff.implSame wr _ _ _ _ _ _ ts ts oP_6.out.reads oE_6.out.reads).mono ?_
                  rintro e w7 ⟨rfl, hn7⟩
                  have z7 := hn7.size
                  have bA_7 := hn7.bk bA_6
                  have bB_7 := hn7.bk bB_6
                  have bX_7 := hn7.bk bX_6
                  have oA_7 := Lib.hid (oA_6.out.new (by omega) hn7)
                  have oB_7 := Lib.hid (oB_6.out.new (by omega) hn7)
                  have oC_7 := Lib.hid (oC_6.out.new (by omega) hn7)
                  have oM_7 := Lib.hid (oM_6.out.new (by omega) hn7)
                  have oK_7 := Lib.hid (oK_6.out.new (by omega) hn7)
                  have oP_7 := Lib.hid (oP_6.out.new hn7)
                  have oE_7 := Lib.hid (oE_6.out.new hn7)
                  have N7 : New w w7 := N6.trans hn7
                  clear cX0 cX1 cX2 lX
                  clear bA_6 bB_6 bX_6 oA_6 oB_6 oC_6 oM_6 oK_6 oP_6 oE_6 N6 hn7
                  have hs : decide (ts = ts) = true := by simp
                  rw [hs]
                  clear hs
                  go_wp2
                  go_ret
                  exact ⟨rfl, N7.toBelow⟩
          · as_aux_lemma =>
              rw [e1] at hRh
              have bV : wr.heap[bEV + 1]? = some (.cells #[.int .i64 (Step.at0 vs 0), .int .i64 (Step.at0 vs 1), .int .i64 (Step.at0 vs 2)] 3) := (show wr.heap[bEV + 1]? = some (.cells (List.map (Value.int .i64) (LawE.pad vs 3)).toArray 3 (0, 0)) from hRh.out)
              clear hRh
              have hX2 := hXv.out
              rw [EvP.opV, if_neg (by decide), if_neg (by decide), if_neg (by decide), if_pos rfl] at hX2
              generalize Step.at0 vs 0 = x0 at *
              generalize Step.at0 vs 1 = x1 at *
              generalize Step.at0 vs 2 = x2 at *
              obtain ⟨cV0, cV1, cV2⟩ := cells3 bV
              clear hXv hTv hvr hlv hvlh
              by_cases hz : x0 = 0
              · rw [if_pos hz] at hX2
                subst hX2
                clear hz
                obtain ⟨cX0, cX1, cX2⟩ := cells3 bX_6
                have lX := heap_lt bX_6
                go_wp2
                go_ret
                exact ⟨rfl, N6.toBelow⟩
              · rw [if_neg hz] at hX2
                subst hX2
                have hz1 : (x0 != 0) = true := by simpa using hz
                clear hz
                cases hxx : (x1 == x2)
                · obtain ⟨cX0, cX1, cX2⟩ := cells3 bX_6
                  have lX := heap_lt bX_6
                  go_wp2
                  go_ret
                  exact ⟨rfl, N6.toBelow⟩
                · obtain ⟨cX0, cX1, cX2⟩ := cells3 bX_6
                  have lX := heap_lt bX_6
                  go_wp2
                  go_ret
                  exact ⟨rfl, N6.toBelow⟩
set_option maxRecDepth 100000 in
theorem lifted (os : Os) (started : os.Started) (H : Type) (enc : TypeId × Value → H) :
    ReturnsInHanded {} Try.checked os 4 .any (Rows.fnEvalExprSpec.pre6 enc Try.prog Try.f4 Rows.fnEvalExprRow.domain false) (Rows.fnEvalExprSpec.post enc Try.prog Try.f4 false true false false) := by
  refine returnsInHanded_of_change (C := Try.checked) own started (by kernel_rfl) Try.func4
    (ChangeSpec.witness6 (enc := enc) (C := Try.checked) false ⟨#[], #[.slice none 0 0], []⟩ 8 (by kernel_rfl) (by kernel_rfl) (by kernel_rfl) (by kernel_rfl)) ?_
  intro W base args ds gs before hval0 hW hcnd _
  have hval : ∀ (j : Nat) t v, Try.f4.params[j]? = some t → args[j]? = some v → Value.okWide Try.prog W .any base t v := hval0
  have hW' := hW
  obtain ⟨p, q, hA0, hV, rfl, hfz, hnd⟩ := hW
  have hA : DataW.TrodAll enc Try.prog W 0 (fun _ => true) true Try.f4.params.toList args.toList ds p := hA0
  rw [Try.params4] at hA hval
  obtain ⟨v0, vs0, d0, ds0, p0, q0, hargs, rfl, rfl, h0, r0⟩ := trodAll_cons hA
  obtain ⟨rfl, rfl, rfl⟩ := trodAll_nil r0
  obtain rfl : args = #[v0] := by cases args; simp_all
  obtain ⟨rfl, rfl⟩ := trodVars_none hV
  have kk0 := h0
  have lt0 : ∀ x ∈ p0, x.block < W.heap.size := by obtain ⟨m, hm⟩ := kk0; exact DataW.trod_lt m _ _ _ hm
  obtain ⟨a0, l0, c0, rfl, s0⟩ := Kit.open_bytes Try.underlying22 Try.underlying5 (by kernel_rfl) (hval 0 22 v0 rfl rfl) h0
  clear hA0 hval0
  refine (walk a0 l0 c0 W s0).mono fun e W' ⟨he, bel⟩ => ?_
  subst he
  exact ⟨_, rfl, _, _, _, [], _, [], hW', trodAll_mk1 (shut_bool Try.underlying4 _), (trodAll_cons_mk (Below.trod laidOut (by kernel_rfl) (of_decide_eq_true (by kernel_rfl)) kk0 bel lt0) trodAll_mk0), rfl, bel.frame _, fun h => by cases h⟩
theorem over : Rows.fnEvalExprRow.holds Try.pinned (OpenSpec.ofChange Rows.fnEvalExprSpec) :=
  OpenClaim.holds_of_wide 4 Try.f4 rfl rfl rfl rfl rfl rfl rfl ⟨rfl, rfl, rfl, rfl, rfl⟩ rfl rfl rfl rfl rfl (by kernel_rfl) Try.func4 (by kernel_rfl)
    (of_decide_eq_true (by kernel_rfl)) (by unfold Func.isWrapper; first | (rw [if_pos (by decide +kernel)]; kernel_rfl) | (rw [if_neg (by decide +kernel)]; exact ⟨rfl, rfl⟩))
    (fun os started H enc _ => lifted os started H enc)
theorem proved : Rows.FnEvalExprSaid := over
#print axioms proved
end Go.Proofs.Ytbicpkmlionldaa.fnEvalExpr
