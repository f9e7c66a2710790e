/- FnPublicPart: for every input the law returns true, and the arguments read as they did. No conditions. -/
import Derived.Test.YtckikiaockkmbaaRows
import Derived.Test.YtckikiaockkmbaaUDrawR
import Derived.Test.YtckikiaockkmbaaUPartM
import Derived.Test.YtckikiaockkmbaaUP6
import Derived.Test.YtckikiaockkmbaaULawU
import Derived.Test.YtckikiaockkmbaaUP1
import Derived.WalkKit
import Derived.ProofKit
import Derived.OpenShut
import Derived.ShutString
import Derived.ChangeOld
import Derived.Below
namespace Go.Proofs.Ytckikiaockkmbaa.fnPublicPart
open Go.ChangeShapes Go.WideShapes Go.ChangeAt Go.RowKit Kit MarkC
open Go.ChangeMaps (open_string shut_string)
set_option linter.unusedVariables false
theorem own : ownKnob Try.prog.godebug = none := by kernel_rfl
theorem laidOut : laidOutB Try.prog = true := by kernel_rfl
set_option maxHeartbeats 4000000 in
theorem walk (a0 : Option Addr) (l0 c0 : Nat) (w : World) (s0 : Kit.Src w a0 l0 c0) :
    Calls Try.prog 8 #[.slice a0 l0 c0] w fun e w' => e = .returned (.bool true) ∧ Below w.heap.size w w' := by
  by_cases hl : 1048576 < l0
  · go_enter Try.func8, Try.ntmps8
    go_wp2
    go_ret
    exact ⟨rfl, Below.refl _ _⟩
  · go_enter Try.func8, Try.ntmps8
    go_wp2_with fail
    refine (DrawR.drawPub _ a0 l0 c0 s0).mono ?_
    rintro e w1 ⟨va, vb, vc, ya, yb, m, ma, mb, za, zb, rfl, N1, hA, hB, hC, hM, hl2, hz1, hz2, hz3⟩
    obtain ⟨e1, f1, rfl, _⟩ := hA.len
    obtain ⟨e2, f2, rfl, _⟩ := hB.len
    obtain ⟨e3, f3, rfl, _⟩ := hC.len
    obtain ⟨⟨g4, h4, rfl⟩, g5, h5, rfl⟩ := hM.lens
    clear hz3
    have oA_1 := Lib.hid hA
    have oB_1 := Lib.hid hB
    have oC_1 := Lib.hid hC
    have oM_1 := Lib.hid hM
    clear hA hB hC hM
    have zw := N1.size
    have hn2 : New w1 ((w1.alloc (.cells #[.slice e1 ya.length f1, .slice e2 yb.length f2, .slice e3 m.length f3] 37)).alloc (.cells #[.slice g4 za.length h4, .slice g5 zb.length h5] 79)) := ((Kp.refl _ _).alloc _).alloc _
    have bA_2 : ((w1.alloc (.cells #[.slice e1 ya.length f1, .slice e2 yb.length f2, .slice e3 m.length f3] 37)).alloc (.cells #[.slice g4 za.length h4, .slice g5 zb.length h5] 79)).heap[w1.heap.size]? = some (.cells #[.slice e1 ya.length f1, .slice e2 yb.length f2, .slice e3 m.length f3] 37) := heap_old (alloc_heap _ _)
    have bB_2 : ((w1.alloc (.cells #[.slice e1 ya.length f1, .slice e2 yb.length f2, .slice e3 m.length f3] 37)).alloc (.cells #[.slice g4 za.length h4, .slice g5 zb.length h5] 79)).heap[w1.heap.size + 1]? = some (.cells #[.slice g4 za.length h4, .slice g5 zb.length h5] 79) := heap_at (by simp)
    have y2 : w1.heap.size + 1 < ((w1.alloc (.cells #[.slice e1 ya.length f1, .slice e2 yb.length f2, .slice e3 m.length f3] 37)).alloc (.cells #[.slice g4 za.length h4, .slice g5 zb.length h5] 79)).heap.size := by simp
    go_upto_region 4 with fail
    generalize ((w1.alloc (.cells #[.slice e1 ya.length f1, .slice e2 yb.length f2, .slice e3 m.length f3] 37)).alloc (.cells #[.slice g4 za.length h4, .slice g5 zb.length h5] 79)) = w2 at *
    have z2 := hn2.size
    have oA_2 := Lib.hid (oA_1.out.new (by omega) hn2)
    have oB_2 := Lib.hid (oB_1.out.new (by omega) hn2)
    have oC_2 := Lib.hid (oC_1.out.new (by omega) hn2)
    have oM_2 := Lib.hid (oM_1.out.new (by omega) hn2)
    have N2 : New w w2 := N1.trans hn2
    clear oA_1 oB_1 oC_1 oM_1 N1 hn2
    obtain ⟨t, ht⟩ : ∃ t, (Val.progB ya yb m && Val.fitB ya.length yb.length za zb) = t := ⟨_, rfl⟩
    have hth := Lib.hid ht
    clear ht
    cases t
    · obtain ⟨cs, hcs⟩ : ∃ cs, ([] : List Int) = cs := ⟨_, rfl⟩
      obtain ⟨cm, hcm⟩ : ∃ cm, ([] : List (List Int)) = cm := ⟨_, rfl⟩
      have hcsh := Lib.hid hcs
      have hcmh := Lib.hid hcm
      clear hcs hcm
      obtain ⟨cA0, cA1, cA2⟩ := cells3 bA_2
      have lA := heap_lt bA_2
      obtain ⟨cB0, cB1⟩ := cells2 bB_2
      have lB := heap_lt bB_2
      go_wp2_with fail
      clear cA0 cA1 cA2 lA cB0 cB1 lB
      refine (PartM.implPub (xa := ya) (xb := yb) (l := m) (ya := za) (yb := zb) oA_2.out oB_2.out oC_2.out oM_2.out (by omega) (by omega) (by omega) (by omega) (by omega)).mono ?_
      intro e w3 h3
      obtain ⟨uaX, ubX, rfl, hn3, hMX⟩ := LawU.got_no h3 hth.out
      have z3 := hn3.size
      have bA_3 := hn3.bk bA_2
      have bB_3 := hn3.bk bB_2
      have oA_3 := Lib.hid (oA_2.out.new (by omega) hn3)
      have oB_3 := Lib.hid (oB_2.out.new (by omega) hn3)
      have oC_3 := Lib.hid (oC_2.out.new (by omega) hn3)
      have oM_3 := Lib.hid (oM_2.out.new (by omega) hn3)
      have N3 : New w w3 := N2.trans hn3
      clear bA_2 bB_2 oA_2 oB_2 oC_2 oM_2 N2 hn3
      rw [hcsh.out, hcmh.out] at hMX
      obtain ⟨⟨p1X, q1X, rfl⟩, p2X, q2X, rfl⟩ := hMX.lens
      have oX_3 := Lib.hid hMX
      clear hMX
      obtain ⟨hn4, y4, bX_4⟩ := newb w3 (.cells #[.slice p1X cs.length q1X, .slice p2X cm.length q2X] 79)
      go_upto_region 5 with fail
      generalize hbX : w3.heap.size = bX at bX_4 y4 ⊢
      generalize (w3.alloc (.cells #[.slice p1X cs.length q1X, .slice p2X cm.length q2X] 79)) = w4 at *
      have z4 := hn4.size
      have bA_4 := hn4.bk bA_3
      have bB_4 := hn4.bk bB_3
      have oA_4 := Lib.hid (oA_3.out.new (by omega) hn4)
      have oB_4 := Lib.hid (oB_3.out.new (by omega) hn4)
      have oC_4 := Lib.hid (oC_3.out.new (by omega) hn4)
      have oM_4 := Lib.hid (oM_3.out.new (by omega) hn4)
      have oX_4 := Lib.hid (oX_3.out.new (by omega) hn4)
      have N4 : New w w4 := N3.trans hn4
      clear bA_3 bB_3 oA_3 oB_3 oC_3 oM_3 oX_3 N3 hn4
      obtain ⟨cA0, cA1, cA2⟩ := cells3 bA_4
      have lA := heap_lt bA_4
      obtain ⟨cB0, cB1⟩ := cells2 bB_4
      have lB := heap_lt bB_4
      go_wp2_with fail
      clear cA0 cA1 cA2 lA cB0 cB1 lB
      refine (PartM.specPub (xa := ya) (xb := yb) (l := m) (ya := za) (yb := zb) oA_4.out oB_4.out oC_4.out oM_4.out (by omega) (by omega) (by omega) (by omega) (by omega)).mono ?_
      intro e w5 h3
      obtain ⟨uaY, ubY, rfl, hn5, hMY⟩ := LawU.got_no h3 hth.out
      have z5 := hn5.size
      have bA_5 := hn5.bk bA_4
      have bB_5 := hn5.bk bB_4
      have bX_5 := hn5.bk bX_4
      have oA_5 := Lib.hid (oA_4.out.new (by omega) hn5)
      have oB_5 := Lib.hid (oB_4.out.new (by omega) hn5)
      have oC_5 := Lib.hid (oC_4.out.new (by omega) hn5)
      have oM_5 := Lib.hid (oM_4.out.new (by omega) hn5)
      have oX_5 := Lib.hid (oX_4.out.new (by omega) hn5)
      have N5 : New w w5 := N4.trans hn5
      clear bA_4 bB_4 bX_4 oA_4 oB_4 oC_4 oM_4 oX_4 N4 hn5
      rw [hcsh.out, hcmh.out] at hMY
      obtain ⟨⟨p1Y, q1Y, rfl⟩, p2Y, q2Y, rfl⟩ := hMY.lens
      have oY_5 := Lib.hid hMY
      clear hMY
      obtain ⟨hn6, y6, bY_6⟩ := newb w5 (.cells #[.slice p1Y cs.length q1Y, .slice p2Y cm.length q2Y] 79)
      go_upto_region 6 with fail
      generalize hbY : w5.heap.size = bY at bY_6 y6 ⊢
      generalize (w5.alloc (.cells #[.slice p1Y cs.length q1Y, .slice p2Y cm.length q2Y] 79)) = w6 at *
      have z6 := hn6.size
      have bA_6 := hn6.bk bA_5
      have bB_6 := hn6.bk bB_5
      have bX_6 := hn6.bk bX_5
      have oA_6 := Lib.hid (oA_5.out.new (by omega) hn6)
      have oB_6 := Lib.hid (oB_5.out.new (by omega) hn6)
      have oC_6 := Lib.hid (oC_5.out.new (by omega) hn6)
      have oM_6 := Lib.hid (oM_5.out.new (by omega) hn6)
      have oX_6 := Lib.hid (oX_5.out.new (by omega) hn6)
      have oY_6 := Lib.hid (oY_5.out.new (by omega) hn6)
      have N6 : New w w6 := N5.trans hn6
      clear bA_5 bB_5 bX_5 oA_5 oB_5 oC_5 oM_5 oX_5 oY_5 N5 hn6
      obtain ⟨cX0, cX1⟩ := cells2 bX_6
      have lX := heap_lt bX_6
      obtain ⟨cY0, cY1⟩ := cells2 bY_6
      have lY := heap_lt bY_6
      go_wp2_with fail
      clear cX0 cX1 lX cY0 cY1 lY
      refine (SameM.implSame w6 _ _ _ _ _ _ _ _ cs cm cs cm oX_6.out.reads.1 oX_6.out.reads.2 oY_6.out.reads.1 oY_6.out.reads.2 (by omega) (by omega)).mono ?_
      rintro e w7 ⟨rfl, hn7⟩
      have z7 := hn7.size
      have bA_7 := hn7.bk bA_6
      have bB_7 := hn7.bk bB_6
      have bX_7 := hn7.bk bX_6
      have bY_7 := hn7.bk bY_6
      have oA_7 := Lib.hid (oA_6.out.new (by omega) hn7)
      have oB_7 := Lib.hid (oB_6.out.new (by omega) hn7)
      have oC_7 := Lib.hid (oC_6.out.new (by omega) hn7)
      have oM_7 := Lib.hid (oM_6.out.new (by omega) hn7)
      have oX_7 := Lib.hid (oX_6.out.new (by omega) hn7)
      have oY_7 := Lib.hid (oY_6.out.new (by omega) hn7)
      have N7 : New w w7 := N6.trans hn7
      clear bA_6 bB_6 bX_6 bY_6 oA_6 oB_6 oC_6 oM_6 oX_6 oY_6 N6 hn7
      have hs : (decide (cs = cs) && decide (cm = cm)) = true := by simp
      rw [hs]
      clear hs
      obtain ⟨cX0, cX1⟩ := cells2 bX_7
      have lX := heap_lt bX_7
      obtain ⟨cY0, cY1⟩ := cells2 bY_7
      have lY := heap_lt bY_7
      go_wp2_with fail
      clear cX0 cX1 lX cY0 cY1 lY
      refine (SameM.implSame w7 _ _ _ _ _ _ _ _ cs cm cs cm oX_7.out.reads.1 oX_7.out.reads.2 oY_7.out.reads.1 oY_7.out.reads.2 (by omega) (by omega)).mono ?_
      rintro e w8 ⟨rfl, hn8⟩
      have z8 := hn8.size
      have bA_8 := hn8.bk bA_7
      have bB_8 := hn8.bk bB_7
      have bX_8 := hn8.bk bX_7
      have bY_8 := hn8.bk bY_7
      have oA_8 := Lib.hid (oA_7.out.new (by omega) hn8)
      have oB_8 := Lib.hid (oB_7.out.new (by omega) hn8)
      have oC_8 := Lib.hid (oC_7.out.new (by omega) hn8)
      have oM_8 := Lib.hid (oM_7.out.new (by omega) hn8)
      have oX_8 := Lib.hid (oX_7.out.new (by omega) hn8)
      have oY_8 := Lib.hid (oY_7.out.new (by omega) hn8)
      have N8 : New w w8 := N7.trans hn8
      clear bA_7 bB_7 bX_7 bY_7 oA_7 oB_7 oC_7 oM_7 oX_7 oY_7 N7 hn8
      have hs : (decide (cs = cs) && decide (cm = cm)) = true := by simp
      rw [hs]
      clear hs
      obtain ⟨cX0, cX1⟩ := cells2 bX_8
      have lX := heap_lt bX_8
      obtain ⟨cY0, cY1⟩ := cells2 bY_8
      have lY := heap_lt bY_8
      go_wp2
      go_ret
      exact ⟨rfl, N8.toBelow⟩
    · have hfit := LawU.fit_of hth.out
      have hv := Lib.hid hfit.1
      have hv2 := Lib.hid hfit.2
      have hv3 : za.length ≤ ya.length := Nat.le_of_eq hfit.1
      have hv4 : ya.length ≤ za.length := Nat.le_of_eq hfit.1.symm
      clear hfit
      obtain ⟨cs, hcs⟩ : ∃ cs, PartP.clr Lab.secretB ya za = cs := ⟨_, rfl⟩
      obtain ⟨cm, hcm⟩ : ∃ cm, PartP.clrM Lab.secretB yb zb = cm := ⟨_, rfl⟩
      have hl1 : cs.length = za.length := by rw [← hcs]; exact PartP.clr_length hv.out
      have hl2 : cm.length = zb.length := by rw [← hcm]; exact PartP.clrM_length hv2.out
      have hl1a : cs.length ≤ za.length := Nat.le_of_eq hl1
      have hl1b : za.length ≤ cs.length := Nat.le_of_eq hl1.symm
      have hl2a : cm.length ≤ zb.length := Nat.le_of_eq hl2
      clear hl1 hl2
      have hcsh := Lib.hid hcs
      have hcmh := Lib.hid hcm
      have hget := Lib.hid (fun i h1 h2 h3 => (LawU.getEq hcs i h1 h2 h3))
      have hid1 := Lib.hid (show PartP.clr Lab.secretB ya cs = cs by rw [← hcs]; exact PartP.clr_idem _ _ _ hv.out)
      have hid2 := Lib.hid (show PartP.clrM Lab.secretB yb cm = cm by rw [← hcm]; exact PartP.clrM_idem _ _ _ hv2.out)
      have hth2 := Lib.hid (show (Val.progB ya yb m && Val.fitB ya.length yb.length cs cm) = true by rw [← hcs, ← hcm]; exact LawU.again _ hth.out)
      clear hcs hcm
      obtain ⟨cA0, cA1, cA2⟩ := cells3 bA_2
      have lA := heap_lt bA_2
      obtain ⟨cB0, cB1⟩ := cells2 bB_2
      have lB := heap_lt bB_2
      go_wp2_with fail
      clear cA0 cA1 cA2 lA cB0 cB1 lB
      refine (PartM.implPub (xa := ya) (xb := yb) (l := m) (ya := za) (yb := zb) oA_2.out oB_2.out oC_2.out oM_2.out (by omega) (by omega) (by omega) (by omega) (by omega)).mono ?_
      intro e w3 h3
      obtain ⟨uaX, ubX, rfl, hn3, hMX⟩ := LawU.got_yes h3 hth.out
      have z3 := hn3.size
      have bA_3 := hn3.bk bA_2
      have bB_3 := hn3.bk bB_2
      have oA_3 := Lib.hid (oA_2.out.new (by omega) hn3)
      have oB_3 := Lib.hid (oB_2.out.new (by omega) hn3)
      have oC_3 := Lib.hid (oC_2.out.new (by omega) hn3)
      have oM_3 := Lib.hid (oM_2.out.new (by omega) hn3)
      have N3 : New w w3 := N2.trans hn3
      clear bA_2 bB_2 oA_2 oB_2 oC_2 oM_2 N2 hn3
      rw [hcsh.out, hcmh.out] at hMX
      obtain ⟨⟨p1X, q1X, rfl⟩, p2X, q2X, rfl⟩ := hMX.lens
      have oX_3 := Lib.hid hMX
      clear hMX
      obtain ⟨hn4, y4, bX_4⟩ := newb w3 (.cells #[.slice p1X cs.length q1X, .slice p2X cm.length q2X] 79)
      go_upto_region 5 with fail
      generalize hbX : w3.heap.size = bX at bX_4 y4 ⊢
      generalize (w3.alloc (.cells #[.slice p1X cs.length q1X, .slice p2X cm.length q2X] 79)) = w4 at *
      have z4 := hn4.size
      have bA_4 := hn4.bk bA_3
      have bB_4 := hn4.bk bB_3
      have oA_4 := Lib.hid (oA_3.out.new (by omega) hn4)
      have oB_4 := Lib.hid (oB_3.out.new (by omega) hn4)
      have oC_4 := Lib.hid (oC_3.out.new (by omega) hn4)
      have oM_4 := Lib.hid (oM_3.out.new (by omega) hn4)
      have oX_4 := Lib.hid (oX_3.out.new (by omega) hn4)
      have N4 : New w w4 := N3.trans hn4
      clear bA_3 bB_3 oA_3 oB_3 oC_3 oM_3 oX_3 N3 hn4
      obtain ⟨cA0, cA1, cA2⟩ := cells3 bA_4
      have lA := heap_lt bA_4
      obtain ⟨cB0, cB1⟩ := cells2 bB_4
      have lB := heap_lt bB_4
      go_wp2_with fail
      clear cA0 cA1 cA2 lA cB0 cB1 lB
      refine (PartM.specPub (xa := ya) (xb := yb) (l := m) (ya := za) (yb := zb) oA_4.out oB_4.out oC_4.out oM_4.out (by omega) (by omega) (by omega) (by omega) (by omega)).mono ?_
      intro e w5 h3
      obtain ⟨uaY, ubY, rfl, hn5, hMY⟩ := LawU.got_yes h3 hth.out
      have z5 := hn5.size
      have bA_5 := hn5.bk bA_4
      have bB_5 := hn5.bk bB_4
      have bX_5 := hn5.bk bX_4
      have oA_5 := Lib.hid (oA_4.out.new (by omega) hn5)
      have oB_5 := Lib.hid (oB_4.out.new (by omega) hn5)
      have oC_5 := Lib.hid (oC_4.out.new (by omega) hn5)
      have oM_5 := Lib.hid (oM_4.out.new (by omega) hn5)
      have oX_5 := Lib.hid (oX_4.out.new (by omega) hn5)
      have N5 : New w w5 := N4.trans hn5
      clear bA_4 bB_4 bX_4 oA_4 oB_4 oC_4 oM_4 oX_4 N4 hn5
      rw [hcsh.out, hcmh.out] at hMY
      obtain ⟨⟨p1Y, q1Y, rfl⟩, p2Y, q2Y, rfl⟩ := hMY.lens
      have oY_5 := Lib.hid hMY
      clear hMY
      obtain ⟨hn6, y6, bY_6⟩ := newb w5 (.cells #[.slice p1Y cs.length q1Y, .slice p2Y cm.length q2Y] 79)
      go_upto_region 6 with fail
      generalize hbY : w5.heap.size = bY at bY_6 y6 ⊢
      generalize (w5.alloc (.cells #[.slice p1Y cs.length q1Y, .slice p2Y cm.length q2Y] 79)) = w6 at *
      have z6 := hn6.size
      have bA_6 := hn6.bk bA_5
      have bB_6 := hn6.bk bB_5
      have bX_6 := hn6.bk bX_5
      have oA_6 := Lib.hid (oA_5.out.new (by omega) hn6)
      have oB_6 := Lib.hid (oB_5.out.new (by omega) hn6)
      have oC_6 := Lib.hid (oC_5.out.new (by omega) hn6)
      have oM_6 := Lib.hid (oM_5.out.new (by omega) hn6)
      have oX_6 := Lib.hid (oX_5.out.new (by omega) hn6)
      have oY_6 := Lib.hid (oY_5.out.new (by omega) hn6)
      have N6 : New w w6 := N5.trans hn6
      clear bA_5 bB_5 bX_5 oA_5 oB_5 oC_5 oM_5 oX_5 oY_5 N5 hn6
      obtain ⟨cX0, cX1⟩ := cells2 bX_6
      have lX := heap_lt bX_6
      obtain ⟨cY0, cY1⟩ := cells2 bY_6
      have lY := heap_lt bY_6
      go_wp2_with fail
      clear cX0 cX1 lX cY0 cY1 lY
      refine (SameM.implSame w6 _ _ _ _ _ _ _ _ cs cm cs cm oX_6.out.reads.1 oX_6.out.reads.2 oY_6.out.reads.1 oY_6.out.reads.2 (by omega) (by omega)).mono ?_
      rintro e w7 ⟨rfl, hn7⟩
      have z7 := hn7.size
      have bA_7 := hn7.bk bA_6
      have bB_7 := hn7.bk bB_6
      have bX_7 := hn7.bk bX_6
      have bY_7 := hn7.bk bY_6
      have oA_7 := Lib.hid (oA_6.out.new (by omega) hn7)
      have oB_7 := Lib.hid (oB_6.out.new (by omega) hn7)
      have oC_7 := Lib.hid (oC_6.out.new (by omega) hn7)
      have oM_7 := Lib.hid (oM_6.out.new (by omega) hn7)
      have oX_7 := Lib.hid (oX_6.out.new (by omega) hn7)
      have oY_7 := Lib.hid (oY_6.out.new (by omega) hn7)
      have N7 : New w w7 := N6.trans hn7
      clear bA_6 bB_6 bX_6 bY_6 oA_6 oB_6 oC_6 oM_6 oX_6 oY_6 N6 hn7
      have hs : (decide (cs = cs) && decide (cm = cm)) = true := by simp
      rw [hs]
      clear hs
      obtain ⟨cA0, cA1, cA2⟩ := cells3 bA_7
      have lA := heap_lt bA_7
      obtain ⟨cB0, cB1⟩ := cells2 bB_7
      have lB := heap_lt bB_7
      obtain ⟨cX0, cX1⟩ := cells2 bX_7
      have lX := heap_lt bX_7
      go_wp2_with fail
      go_loopw [9] (fun i wr => ∃ j : Nat, j ≤ ya.length ∧ i = .int .i64 j ∧ ∃ k, wr = w7.drewN k) (fun i _ => ya.length - (intOf i).toNat)
      case atStart => exact ⟨0, Nat.zero_le _, rfl, 0, rfl⟩
      case round =>
        obtain ⟨j, hj, rfl, kd, rfl⟩ := hrel
        by_cases hlt : j < ya.length
        · obtain ⟨g0, p0, x0, -, -, c0⟩ := IntsR.at oA_7.out j hlt
          obtain ⟨g1, s1, x1, -, -, c1⟩ := IntsR.at oM_7.out.reads.1 j (by omega)
          obtain ⟨g2, s2, x2, -, -, c2⟩ := IntsR.at oX_7.out.reads.1 j (by omega)
          cases x0
          cases x1
          cases x2
          have hg := hget.out j hlt (by omega) (by omega)
          generalize cs[j]'_ = yc at *
          generalize za[j]'_ = yz at *
          generalize ya[j]'_ = x at *
          have Q := Lib.hid (show ∀ n, Calls Try.prog 44 #[.int .i64 x] (w7.drewN (kd + n)) fun e w' => e = .returned (.bool (Lab.secretB x)) ∧ ∃ m, w' = w7.drewN (kd + m) from fun n => (Lab.implLabelSecret x _).mono fun e w' h => ⟨h.1, n, h.2.symm⟩)
          cases hsec : Lab.secretB x
          all_goals
            rw [hsec] at hg Q
            clear hsec
            simp only [if_true, Bool.false_eq_true, if_false] at hg
            subst hg
          all_goals
            go_wp2_with fail
            go_quiet ((go_at_call 44; exact Q.out _))
            go_wp2
            go_roundw
            case rel => exact ⟨j + 1, by omega, by go_num, _, by first | rfl | exact World.drewN_drewN _ _ _⟩
            case measure => simp [intOf]; omega
        · have hge : ya.length ≤ j := by omega
          clear hlt
          have hn8 : New w7 (w7.drewN kd) := drewN_kp _ kd (Kp.refl _ _)
          go_upto_region 13 with fail
          clear cA0 cA1 cA2 lA cB0 cB1 lB cX0 cX1 lX
          generalize w7.drewN kd = w8 at *
          have z8 := hn8.size
          have bA_8 := hn8.bk bA_7
          have bB_8 := hn8.bk bB_7
          have bX_8 := hn8.bk bX_7
          have oA_8 := Lib.hid (oA_7.out.new (by omega) hn8)
          have oB_8 := Lib.hid (oB_7.out.new (by omega) hn8)
          have oC_8 := Lib.hid (oC_7.out.new (by omega) hn8)
          have oM_8 := Lib.hid (oM_7.out.new (by omega) hn8)
          have oX_8 := Lib.hid (oX_7.out.new (by omega) hn8)
          have N8 : New w w8 := N7.trans hn8
          clear bA_7 bB_7 bX_7 oA_7 oB_7 oC_7 oM_7 oX_7 N7 hn8
          obtain ⟨cA0, cA1, cA2⟩ := cells3 bA_8
          have lA := heap_lt bA_8
          obtain ⟨cX0, cX1⟩ := cells2 bX_8
          have lX := heap_lt bX_8
          go_wp2_with fail
          clear cA0 cA1 cA2 lA cX0 cX1 lX
          refine (PartM.implPub (xa := ya) (xb := yb) (l := m) (ya := cs) (yb := cm) oA_8.out oB_8.out oC_8.out oX_8.out (by omega) (by omega) (by omega) (by omega) (by omega)).mono ?_
          intro e w9 h3
          obtain ⟨uaZ, ubZ, rfl, hn9, hMZ⟩ := LawU.got_yes h3 hth2.out
          have z9 := hn9.size
          have bA_9 := hn9.bk bA_8
          have bB_9 := hn9.bk bB_8
          have bX_9 := hn9.bk bX_8
          have oA_9 := Lib.hid (oA_8.out.new (by omega) hn9)
          have oB_9 := Lib.hid (oB_8.out.new (by omega) hn9)
          have oC_9 := Lib.hid (oC_8.out.new (by omega) hn9)
          have oM_9 := Lib.hid (oM_8.out.new (by omega) hn9)
          have oX_9 := Lib.hid (oX_8.out.new (by omega) hn9)
          have N9 : New w w9 := N8.trans hn9
          clear bA_8 bB_8 bX_8 oA_8 oB_8 oC_8 oM_8 oX_8 N8 hn9
          rw [hid1.out, hid2.out] at hMZ
          obtain ⟨⟨p1Z, q1Z, rfl⟩, p2Z, q2Z, rfl⟩ := hMZ.lens
          have oZ_9 := Lib.hid hMZ
          clear hMZ
          obtain ⟨hn10, y10, bZ_10⟩ := newb w9 (.cells #[.slice p1Z cs.length q1Z, .slice p2Z cm.length q2Z] 79)
          go_upto_region 14 with fail
          generalize hbZ : w9.heap.size = bZ at bZ_10 y10 ⊢
          generalize (w9.alloc (.cells #[.slice p1Z cs.length q1Z, .slice p2Z cm.length q2Z] 79)) = w10 at *
          have z10 := hn10.size
          have bA_10 := hn10.bk bA_9
          have bB_10 := hn10.bk bB_9
          have bX_10 := hn10.bk bX_9
          have oA_10 := Lib.hid (oA_9.out.new (by omega) hn10)
          have oB_10 := Lib.hid (oB_9.out.new (by omega) hn10)
          have oC_10 := Lib.hid (oC_9.out.new (by omega) hn10)
          have oM_10 := Lib.hid (oM_9.out.new (by omega) hn10)
          have oX_10 := Lib.hid (oX_9.out.new (by omega) hn10)
          have oZ_10 := Lib.hid (oZ_9.out.new (by omega) hn10)
          have N10 : New w w10 := N9.trans hn10
          clear bA_9 bB_9 bX_9 oA_9 oB_9 oC_9 oM_9 oX_9 oZ_9 N9 hn10
          obtain ⟨cZ0, cZ1⟩ := cells2 bZ_10
          have lZ := heap_lt bZ_10
          obtain ⟨cX0, cX1⟩ := cells2 bX_10
          have lX := heap_lt bX_10
          go_wp2_with fail
          clear cZ0 cZ1 lZ cX0 cX1 lX
          refine (SameM.implSame w10 _ _ _ _ _ _ _ _ cs cm cs cm oZ_10.out.reads.1 oZ_10.out.reads.2 oX_10.out.reads.1 oX_10.out.reads.2 (by omega) (by omega)).mono ?_
          rintro e w11 ⟨rfl, hn11⟩
          have z11 := hn11.size
          have bA_11 := hn11.bk bA_10
          have bB_11 := hn11.bk bB_10
          have bX_11 := hn11.bk bX_10
          have bZ_11 := hn11.bk bZ_10
          have oA_11 := Lib.hid (oA_10.out.new (by omega) hn11)
          have oB_11 := Lib.hid (oB_10.out.new (by omega) hn11)
          have oC_11 := Lib.hid (oC_10.out.new (by omega) hn11)
          have oM_11 := Lib.hid (oM_10.out.new (by omega) hn11)
          have oX_11 := Lib.hid (oX_10.out.new (by omega) hn11)
          have oZ_11 := Lib.hid (oZ_10.out.new (by omega) hn11)
          have N11 : New w w11 := N10.trans hn11
          clear bA_10 bB_10 bX_10 bZ_10 oA_10 oB_10 oC_10 oM_10 oX_10 oZ_10 N10 hn11
          have hs : (decide (cs = cs) && decide (cm = cm)) = true := by simp
          rw [hs]
          clear hs
          go_wp2
          go_ret
          exact ⟨rfl, N11.toBelow⟩
set_option maxRecDepth 100000 in
theorem lifted (os : Os) (started : os.Started) (H : Type) (enc : TypeId × Value → H) :
    ReturnsInHanded {} Try.checked os 8 .any (Rows.fnPublicPartSpec.pre6 enc Try.prog Try.f8 Rows.fnPublicPartRow.domain false) (Rows.fnPublicPartSpec.post enc Try.prog Try.f8 false true false false) := by
  refine returnsInHanded_of_change (C := Try.checked) own started (by kernel_rfl) Try.func8
    (ChangeSpec.witness6 (enc := enc) (C := Try.checked) false ⟨#[], #[.slice none 0 0], []⟩ 8 (by kernel_rfl) (by kernel_rfl) (by kernel_rfl) (by kernel_rfl)) ?_
  intro W base args ds gs before hval0 hW hcnd _
  have hval : ∀ (j : Nat) t v, Try.f8.params[j]? = some t → args[j]? = some v → Value.okWide Try.prog W .any base t v := hval0
  have hW' := hW
  obtain ⟨p, q, hA0, hV, rfl, hfz, hnd⟩ := hW
  have hA : DataW.TrodAll enc Try.prog W 0 (fun _ => true) true Try.f8.params.toList args.toList ds p := hA0
  rw [Try.params8] at hA hval
  obtain ⟨v0, vs0, d0, ds0, p0, q0, hargs, rfl, rfl, h0, r0⟩ := trodAll_cons hA
  obtain ⟨rfl, rfl, rfl⟩ := trodAll_nil r0
  obtain rfl : args = #[v0] := by cases args; simp_all
  obtain ⟨rfl, rfl⟩ := trodVars_none hV
  have kk0 := h0
  have lt0 : ∀ x ∈ p0, x.block < W.heap.size := by obtain ⟨m, hm⟩ := kk0; exact DataW.trod_lt m _ _ _ hm
  obtain ⟨a0, l0, c0, rfl, s0⟩ := Kit.open_bytes Try.underlying22 Try.underlying5 (by kernel_rfl) (hval 0 22 v0 rfl rfl) h0
  clear hA0 hval0
  refine (walk a0 l0 c0 W s0).mono fun e W' ⟨he, bel⟩ => ?_
  subst he
  exact ⟨_, rfl, _, _, _, [], _, [], hW', trodAll_mk1 (shut_bool Try.underlying4 _), (trodAll_cons_mk (Below.trod laidOut (by kernel_rfl) (of_decide_eq_true (by kernel_rfl)) kk0 bel lt0) trodAll_mk0), rfl, bel.frame _, fun h => by cases h⟩
theorem over : Rows.fnPublicPartRow.holds Try.pinned (OpenSpec.ofChange Rows.fnPublicPartSpec) :=
  OpenClaim.holds_of_wide 8 Try.f8 rfl rfl rfl rfl rfl rfl rfl ⟨rfl, rfl, rfl, rfl, rfl⟩ rfl rfl rfl rfl rfl (by kernel_rfl) Try.func8 (by kernel_rfl)
    (of_decide_eq_true (by kernel_rfl)) (by unfold Func.isWrapper; first | (rw [if_pos (by decide +kernel)]; kernel_rfl) | (rw [if_neg (by decide +kernel)]; exact ⟨rfl, rfl⟩))
    (fun os started H enc _ => lifted os started H enc)
theorem proved : Rows.FnPublicPartSaid := over
#print axioms proved
end Go.Proofs.Ytckikiaockkmbaa.fnPublicPart
