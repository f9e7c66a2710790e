/- FnTrustedPart: for every input the law returns true, and the arguments read as they did. No conditions. -/
import Derived.Test.YtckikiaockkmbaaRows
import Derived.Test.YtckikiaockkmbaaUDrawR
import Derived.Test.YtckikiaockkmbaaUPartM
import Derived.Test.YtckikiaockkmbaaUP6
import Derived.Test.YtckikiaockkmbaaULawU
import Derived.Test.YtckikiaockkmbaaUP1
import Derived.WalkKit
import Derived.ProofKit
import Derived.OpenShut
import Derived.ShutString
import Derived.ChangeOld
import Derived.Below
namespace Go.Proofs.Ytckikiaockkmbaa.fnTrustedPart
open Go.ChangeShapes Go.WideShapes Go.ChangeAt Go.RowKit Kit MarkC
open Go.ChangeMaps (open_string shut_string)
set_option linter.unusedVariables false
theorem own : ownKnob Try.prog.godebug = none := by kernel_rfl
theorem laidOut : laidOutB Try.prog = true := by kernel_rfl
set_option maxHeartbeats 4000000 in
theorem walk (a0 : Option Addr) (l0 c0 : Nat) (w : World) (s0 : Kit.Src w a0 l0 c0) :
    Calls Try.prog 9 #[.slice a0 l0 c0] w fun e w' => e = .returned (.bool true) ∧ Below w.heap.size w w' := by
  by_cases hl : 1048576 < l0
  · go_enter Try.func9, Try.ntmps9
    go_wp2
    go_ret
    exact ⟨rfl, Below.refl _ _⟩
  · go_enter Try.func9, Try.ntmps9
    go_wp2_with fail
    refine (DrawR.drawTru _ a0 l0 c0 s0).mono ?_
    rintro e w1 ⟨va, vb, vc, ya, yb, m, ma, mb, za, zb, rfl, N1, hA, hB, hC, hM, hl2, hz1, hz2, hz3⟩
    obtain ⟨e1, f1, rfl, _⟩ := hA.len
    obtain ⟨e2, f2, rfl, _⟩ := hB.len
    obtain ⟨e3, f3, rfl, _⟩ := hC.len
    obtain ⟨⟨g4, h4, rfl⟩, g5, h5, rfl⟩ := hM.lens
    clear hz3
    have oA_1 := Lib.hid hA
    have oB_1 := Lib.hid hB
    have oC_1 := Lib.hid hC
    have oM_1 := Lib.hid hM
    clear hA hB hC hM
    have zw := N1.size
    have hn2 : New w1 ((w1.alloc (.cells #[.slice e1 ya.length f1, .slice e2 yb.length f2, .slice e3 m.length f3] 37)).alloc (.cells #[.slice g4 za.length h4, .slice g5 zb.length h5] 79)) := ((Kp.refl _ _).alloc _).alloc _
    have bA_2 : ((w1.alloc (.cells #[.slice e1 ya.length f1, .slice e2 yb.length f2, .slice e3 m.length f3] 37)).alloc (.cells #[.slice g4 za.length h4, .slice g5 zb.length h5] 79)).heap[w1.heap.size]? = some (.cells #[.slice e1 ya.length f1, .slice e2 yb.length f2, .slice e3 m.length f3] 37) := heap_old (alloc_heap _ _)
    have bB_2 : ((w1.alloc (.cells #[.slice e1 ya.length f1, .slice e2 yb.length f2, .slice e3 m.length f3] 37)).alloc (.cells #[.slice g4 za.length h4, .slice g5 zb.length h5] 79)).heap[w1.heap.size + 1]? = some (.cells #[.slice g4 za.length h4, .slice g5 zb.length h5] 79) := heap_at (by simp)
    have y2 : w1.heap.size + 1 < ((w1.alloc (.cells #[.slice e1 ya.length f1, .slice e2 yb.length f2, .slice e3 m.length f3] 37)).alloc (.cells #[.slice g4 za.length h4, .slice g5 zb.length h5] 79)).heap.size := by simp
    go_upto_region 4 with fail
    generalize ((w1.alloc (.cells #[.slice e1 ya.length f1, .slice e2 yb.length f2, .slice e3 m.length f3] 37)).alloc (.cells #[.slice g4 za.length h4, .slice g5 zb.length h5] 79)) = w2 at *
    have z2 := hn2.size
    have oA_2 := Lib.hid (oA_1.out.new (by omega) hn2)
    have oB_2 := Lib.hid (oB_1.out.new (by omega) hn2)
    have oC_2 := Lib.hid (oC_1.out.new (by omega) hn2)
    have oM_2 := Lib.hid (oM_1.out.new (by omega) hn2)
    have N2 : New w w2 := N1.trans hn2
    clear oA_1 oB_1 oC_1 oM_1 N1 hn2
    obtain ⟨t, ht⟩ : ∃ t, (Val.progB ya yb m && Val.fitB ya.length yb.length za zb) = t := ⟨_, rfl⟩
    have hth := Lib.hid ht
    clear ht
    cases t
    · obtain ⟨cs, hcs⟩ : ∃ cs, ([] : List Int) = cs := ⟨_, rfl⟩
      obtain ⟨cm, hcm⟩ : ∃ cm, ([] : List (List Int)) = cm := ⟨_, rfl⟩
      have hcsh := Lib.hid hcs
      have hcmh := Lib.hid hcm
      clear hcs hcm
      obtain ⟨cA0, cA1, cA2⟩ := cells3 bA_2
      have lA := heap_lt bA_2
      obtain ⟨cB0, cB1⟩ := cells2 bB_2
      have lB := heap_lt bB_2
      go_wp2_with fail
      clear cA0 cA1 cA2 lA cB0 cB1 lB
      refine (PartM.implTru (xa := ya) (xb := yb) (l := m) (ya := za) (yb := zb) oA_2.out oB_2.out oC_2.out oM_2.out (by omega) (by omega) (by omega) (by omega) (by omega)).mono ?_
      intro e w3 h3
      obtain ⟨uaX, ubX, rfl, hn3, hMX⟩ := LawU.got_no h3 hth.out
      have z3 := hn3.size
      have bA_3 := hn3.bk bA_2
      have bB_3 := hn3.bk bB_2
      have oA_3 := Lib.hid (oA_2.out.new (by omega) hn3)
      have oB_3 := Lib.hid (oB_2.out.new (by omega) hn3)
      have oC_3 := Lib.hid (oC_2.out.new (by omega) hn3)
      have oM_3 := Lib.hid (oM_2.out.new (by omega) hn3)
      have N3 : New w w3 := N2.trans hn3
      clear bA_2 bB_2 oA_2 oB_2 oC_2 oM_2 N2 hn3
      rw [hcsh.out, hcmh.out] at hMX
      obtain ⟨⟨p1X, q1X, rfl⟩, p2X, q2X, rfl⟩ := hMX.lens
      have oX_3 := Lib.hid hMX
      clear hMX
      obtain ⟨hn4, y4, bX_4⟩ := newb w3 (.cells #[.slice p1X cs.length q1X, .slice p2X cm.length q2X] 79)
      go_upto_region 5 with fail
      generalize hbX : w3.heap.size = bX at bX_4 y4 ⊢
      generalize (w3.alloc (.cells #[.slice p1X cs.length q1X, .slice p2X cm.length q2X] 79)) = w4 at *
      have z4 := hn4.size
      have bA_4 := hn4.bk bA_3
      have bB_4 := hn4.bk bB_3
      have oA_4 := Lib.hid (oA_3.out.new (by omega) hn4)
      have oB_4 := Lib.hid (oB_3.out.new (by omega) hn4)
      have oC_4 := Lib.hid (oC_3.out.new (by omega) hn4)
      have oM_4 := Lib.hid (oM_3.out.new (by omega) hn4)
      have oX_4 := Lib.hid (oX_3.out.new (by omega) hn4)
      have N4 : New w w4 := N3.trans hn4
      clear bA_3 bB_3 oA_3 oB_3 oC_3 oM_3 oX_3 N3 hn4
      obtain ⟨cA0, cA1, cA2⟩ := cells3 bA_4
      have lA := heap_lt bA_4
      obtain ⟨cB0, cB1⟩ := cells2 bB_4
      have lB := heap_lt bB_4
      go_wp2_with fail
      clear cA0 cA1 cA2 lA cB0 cB1 lB
      refine (PartM.specTru (xa := ya) (xb := yb) (l := m) (ya := za) (yb := zb) oA_4.out oB_4.out oC_4.out oM_4.out (by omega) (by omega) (by omega) (by omega) (by omega)).mono ?_
      intro e w5 h3
      obtain ⟨uaY, ubY, rfl, hn5, hMY⟩ := LawU.got_no h3 hth.out
      have z5 := hn5.size
      have bA_5 := hn5.bk bA_4
      have bB_5 := hn5.bk bB_4
      have bX_5 := hn5.bk bX_4
      have oA_5 := Lib.hid (oA_4.out.new (by omega) hn5)
      have oB_5 := Lib.hid (oB_4.out.new (by omega) hn5)
      have oC_5 := Lib.hid (oC_4.out.new (by omega) hn5)
      have oM_5 := Lib.hid (oM_4.out.new (by omega) hn5)
      have oX_5 := Lib.hid (oX_4.out.new (by omega) hn5)
      have N5 : New w w5 := N4.trans hn5
      clear bA_4 bB_4 bX_4 oA_4 oB_4 oC_4 oM_4 oX_4 N4 hn5
      rw [hcsh.out, hcmh.out] at hMY
      obtain ⟨⟨p1Y, q1Y, rfl⟩, p2Y, q2Y, rfl⟩ := hMY.lens
      have oY_5 := Lib.hid hMY
      clear hMY
      obtain ⟨hn6, y6, bY_6⟩ := newb w5 (.cells #[.slice p1Y cs.length q1Y, .slice p2Y cm.length q2Y] 79)
      go_upto_region 6 with fail
      generalize hbY : w5.heap.size = bY at bY_6 y6 ⊢
      generalize (w5.alloc (.cells #[.slice p1Y cs.length q1Y, .slice p2Y cm.length q2Y] 79)) = w6 at *
      have z6 := hn6.size
      have bA_6 := hn6.bk bA_5
      have bB_6 := hn6.bk bB_5
      have bX_6 := hn6.bk bX_5
      have oA_6 := Lib.hid (oA_5.out.new (by omega) hn6)
      have oB_6 := Lib.hid (oB_5.out.new (by omega) hn6)
      have oC_6 := Lib.hid (oC_5.out.new (by omega) hn6)
      have oM_6 := Lib.hid (oM_5.out.new (by omega) hn6)
      have oX_6 := Lib.hid (oX_5.out.new (by omega) hn6)
      have oY_6 := Lib.hid (oY_5.out.new (by omega) hn6)
      have N6 : New w w6 := N5.trans hn6
      clear bA_5 bB_5 bX_5 oA_5 oB_5 oC_5 oM_5 oX_5 oY_5 N5 hn6
      obtain ⟨cX0, cX1⟩ := cells2 bX_6
      have lX := heap_lt bX_6
      obtain ⟨cY0, cY1⟩ := cells2 bY_6
      have lY := heap_lt bY_6
      go_wp2_with fail
      clear cX0 cX1 lX cY0 cY1 lY
      refine (SameM.implSame w6 _ _ _ _ _ _ _ _ cs cm cs cm oX_6.out.reads.1 oX_6.out.reads.2 oY_6.out.reads.1 oY_6.out.reads.2 (by omega) (by omega)).mono ?_
      rintro e w7 ⟨rfl, hn7⟩
      have z7 := hn7.size
      have bA_7 := hn7.bk bA_6
      have bB_7 := hn7.bk bB_6
      have bX_7 := hn7.bk bX_6
      have bY_7 := hn7.bk bY_6
      have oA_7 := Lib.hid (oA_6.out.new (by omega) hn7)
      have oB_7 := Lib.hid (oB_6.out.new (by omega) hn7)
      have oC_7 := Lib.hid (oC_6.out.new (by omega) hn7)
      have oM_7 := Lib.hid (oM_6.out.new (by omega) hn7)
      have oX_7 := Lib.hid (oX_6.out.new (by omega) hn7)
      have oY_7 := Lib.hid (oY_6.out.new (by omega) hn7)
      have N7 : New w w7 := N6.trans hn7
      clear bA_6 bB_6 bX_6 bY_6 oA_6 oB_6 oC_6 oM_6 oX_6 oY_6 N6 hn7
      have hs : (decide (cs = cs) && decide (cm = cm)) = true := by simp
      rw [hs]
      clear hs
      obtain ⟨cX0, cX1⟩ := cells2 bX_7
      have lX := heap_lt bX_7
      obtain ⟨cY0, cY1⟩ := cells2 bY_7
      have lY := heap_lt bY_7
      go_wp2_with fail
      clear cX0 cX1 lX cY0 cY1 lY
      refine (SameM.implSame w7 _ _ _ _ _ _ _ _ cs cm cs cm oX_7.out.reads.1 oX_7.out.reads.2 oY_7.out.reads.1 oY_7.out.reads.2 (by omega) (by omega)).mono ?_
      rintro e w8 ⟨rfl, hn8⟩
      have z8 := hn8.size
      have bA_8 := hn8.bk bA_7
      have bB_8 := hn8.bk bB_7
      have bX_8 := hn8.bk bX_7
      have bY_8 := hn8.bk bY_7
      have oA_8 := Lib.hid (oA_7.out.new (by omega) hn8)
      have oB_8 := Lib.hid (oB_7.out.new (by omega) hn8)
      have oC_8 := Lib.hid (oC_7.out.new (by omega) hn8)
      have oM_8 := Lib.hid (oM_7.out.new (by omega) hn8)
      have oX_8 := Lib.hid (oX_7.out.new (by omega) hn8)
      have oY_8 := Lib.hid (oY_7.out.new (by omega) hn8)
      have N8 : New w w8 := N7.trans hn8
      clear bA_7 bB_7 bX_7 bY_7 oA_7 oB_7 oC_7 oM_7 oX_7 oY_7 N7 hn8
      have hs : (decide (cs = cs) && decide (cm = cm)) = true := by simp
      rw [hs]
      clear hs
      obtain ⟨cX0, cX1⟩ := cells2 bX_8
      have lX := heap_lt bX_8
      obtain ⟨cY0, cY1⟩ := cells2 bY_8
      have lY := heap_lt bY_8
      go_wp2
      go_ret
      exact ⟨rfl, N8.toBelow⟩
    · have hfit := LawU.fit_of hth.out
      have hv := Lib.hid hfit.1
      have hv2 := Lib.hid hfit.2
      have hv3 : za.length ≤ ya.length := Nat.le_of_eq hfit.1
      have hv4 : ya.length ≤ za.length := Nat.le_of_eq hfit.1.symm
      clear hfit
      obtain ⟨cs, hcs⟩ : ∃ cs, PartP.clr PartP.untB ya za = cs := ⟨_, rfl⟩
      obtain ⟨cm, hcm⟩ : ∃ cm, PartP.clrM PartP.untB yb zb = cm := ⟨_, rfl⟩
      obtain ⟨ds, hds⟩ : ∃ ds, PartP.clr Lab.secretB ya za = ds := ⟨_, rfl⟩
      obtain ⟨dm, hdm⟩ : ∃ dm, PartP.clrM Lab.secretB yb zb = dm := ⟨_, rfl⟩
      have hl1 : cs.length = za.length := by rw [← hcs]; exact PartP.clr_length hv.out
      have hl2 : cm.length = zb.length := by rw [← hcm]; exact PartP.clrM_length hv2.out
      have hlcsa : cs.length ≤ za.length := Nat.le_of_eq hl1
      have hlcma : cm.length ≤ zb.length := Nat.le_of_eq hl2
      have hlcsb := Lib.hid hl1
      have hlcmb := Lib.hid hl2
      clear hl1 hl2
      have hcsh := Lib.hid hcs
      have hcmh := Lib.hid hcm
      have htcs := Lib.hid (show (Val.progB ya yb m && Val.fitB ya.length yb.length cs cm) = true by rw [← hcs, ← hcm]; exact LawU.again _ hth.out)
      have hl1 : ds.length = za.length := by rw [← hds]; exact PartP.clr_length hv.out
      have hl2 : dm.length = zb.length := by rw [← hdm]; exact PartP.clrM_length hv2.out
      have hldsa : ds.length ≤ za.length := Nat.le_of_eq hl1
      have hldma : dm.length ≤ zb.length := Nat.le_of_eq hl2
      have hldsb := Lib.hid hl1
      have hldmb := Lib.hid hl2
      clear hl1 hl2
      have hdsh := Lib.hid hds
      have hdmh := Lib.hid hdm
      have htds := Lib.hid (show (Val.progB ya yb m && Val.fitB ya.length yb.length ds dm) = true by rw [← hds, ← hdm]; exact LawU.again _ hth.out)
      obtain ⟨es, hes⟩ : ∃ es, PartP.clr Lab.secretB ya cs = es := ⟨_, rfl⟩
      obtain ⟨em, hem⟩ : ∃ em, PartP.clrM Lab.secretB yb cm = em := ⟨_, rfl⟩
      have hesh := Lib.hid hes
      have hemh := Lib.hid hem
      have hes2 := Lib.hid (show PartP.clr PartP.untB ya ds = es by rw [← hes, ← hds, ← hcs]; exact PartP.clr_clr _ _ _ _ hv.out)
      have hem2 := Lib.hid (show PartP.clrM PartP.untB yb dm = em by rw [← hem, ← hdm, ← hcm]; exact PartP.clrM_clrM _ _ _ _ hv2.out)
      clear hcs hcm hds hdm hes hem
      obtain ⟨cA0, cA1, cA2⟩ := cells3 bA_2
      have lA := heap_lt bA_2
      obtain ⟨cB0, cB1⟩ := cells2 bB_2
      have lB := heap_lt bB_2
      go_wp2_with fail
      clear cA0 cA1 cA2 lA cB0 cB1 lB
      refine (PartM.implTru (xa := ya) (xb := yb) (l := m) (ya := za) (yb := zb) oA_2.out oB_2.out oC_2.out oM_2.out (by omega) (by omega) (by omega) (by omega) (by omega)).mono ?_
      intro e w3 h3
      obtain ⟨uaX, ubX, rfl, hn3, hMX⟩ := LawU.got_yes h3 hth.out
      have z3 := hn3.size
      have bA_3 := hn3.bk bA_2
      have bB_3 := hn3.bk bB_2
      have oA_3 := Lib.hid (oA_2.out.new (by omega) hn3)
      have oB_3 := Lib.hid (oB_2.out.new (by omega) hn3)
      have oC_3 := Lib.hid (oC_2.out.new (by omega) hn3)
      have oM_3 := Lib.hid (oM_2.out.new (by omega) hn3)
      have N3 : New w w3 := N2.trans hn3
      clear bA_2 bB_2 oA_2 oB_2 oC_2 oM_2 N2 hn3
      rw [hcsh.out, hcmh.out] at hMX
      obtain ⟨⟨p1X, q1X, rfl⟩, p2X, q2X, rfl⟩ := hMX.lens
      have oX_3 := Lib.hid hMX
      clear hMX
      obtain ⟨hn4, y4, bX_4⟩ := newb w3 (.cells #[.slice p1X cs.length q1X, .slice p2X cm.length q2X] 79)
      go_upto_region 5 with fail
      generalize hbX : w3.heap.size = bX at bX_4 y4 ⊢
      generalize (w3.alloc (.cells #[.slice p1X cs.length q1X, .slice p2X cm.length q2X] 79)) = w4 at *
      have z4 := hn4.size
      have bA_4 := hn4.bk bA_3
      have bB_4 := hn4.bk bB_3
      have oA_4 := Lib.hid (oA_3.out.new (by omega) hn4)
      have oB_4 := Lib.hid (oB_3.out.new (by omega) hn4)
      have oC_4 := Lib.hid (oC_3.out.new (by omega) hn4)
      have oM_4 := Lib.hid (oM_3.out.new (by omega) hn4)
      have oX_4 := Lib.hid (oX_3.out.new (by omega) hn4)
      have N4 : New w w4 := N3.trans hn4
      clear bA_3 bB_3 oA_3 oB_3 oC_3 oM_3 oX_3 N3 hn4
      obtain ⟨cA0, cA1, cA2⟩ := cells3 bA_4
      have lA := heap_lt bA_4
      obtain ⟨cB0, cB1⟩ := cells2 bB_4
      have lB := heap_lt bB_4
      go_wp2_with fail
      clear cA0 cA1 cA2 lA cB0 cB1 lB
      refine (PartM.specTru (xa := ya) (xb := yb) (l := m) (ya := za) (yb := zb) oA_4.out oB_4.out oC_4.out oM_4.out (by omega) (by omega) (by omega) (by omega) (by omega)).mono ?_
      intro e w5 h3
      obtain ⟨uaY, ubY, rfl, hn5, hMY⟩ := LawU.got_yes h3 hth.out
      have z5 := hn5.size
      have bA_5 := hn5.bk bA_4
      have bB_5 := hn5.bk bB_4
      have bX_5 := hn5.bk bX_4
      have oA_5 := Lib.hid (oA_4.out.new (by omega) hn5)
      have oB_5 := Lib.hid (oB_4.out.new (by omega) hn5)
      have oC_5 := Lib.hid (oC_4.out.new (by omega) hn5)
      have oM_5 := Lib.hid (oM_4.out.new (by omega) hn5)
      have oX_5 := Lib.hid (oX_4.out.new (by omega) hn5)
      have N5 : New w w5 := N4.trans hn5
      clear bA_4 bB_4 bX_4 oA_4 oB_4 oC_4 oM_4 oX_4 N4 hn5
      rw [hcsh.out, hcmh.out] at hMY
      obtain ⟨⟨p1Y, q1Y, rfl⟩, p2Y, q2Y, rfl⟩ := hMY.lens
      have oY_5 := Lib.hid hMY
      clear hMY
      obtain ⟨hn6, y6, bY_6⟩ := newb w5 (.cells #[.slice p1Y cs.length q1Y, .slice p2Y cm.length q2Y] 79)
      go_upto_region 6 with fail
      generalize hbY : w5.heap.size = bY at bY_6 y6 ⊢
      generalize (w5.alloc (.cells #[.slice p1Y cs.length q1Y, .slice p2Y cm.length q2Y] 79)) = w6 at *
      have z6 := hn6.size
      have bA_6 := hn6.bk bA_5
      have bB_6 := hn6.bk bB_5
      have bX_6 := hn6.bk bX_5
      have oA_6 := Lib.hid (oA_5.out.new (by omega) hn6)
      have oB_6 := Lib.hid (oB_5.out.new (by omega) hn6)
      have oC_6 := Lib.hid (oC_5.out.new (by omega) hn6)
      have oM_6 := Lib.hid (oM_5.out.new (by omega) hn6)
      have oX_6 := Lib.hid (oX_5.out.new (by omega) hn6)
      have oY_6 := Lib.hid (oY_5.out.new (by omega) hn6)
      have N6 : New w w6 := N5.trans hn6
      clear bA_5 bB_5 bX_5 oA_5 oB_5 oC_5 oM_5 oX_5 oY_5 N5 hn6
      obtain ⟨cX0, cX1⟩ := cells2 bX_6
      have lX := heap_lt bX_6
      obtain ⟨cY0, cY1⟩ := cells2 bY_6
      have lY := heap_lt bY_6
      go_wp2_with fail
      clear cX0 cX1 lX cY0 cY1 lY
      refine (SameM.implSame w6 _ _ _ _ _ _ _ _ cs cm cs cm oX_6.out.reads.1 oX_6.out.reads.2 oY_6.out.reads.1 oY_6.out.reads.2 (by omega) (by omega)).mono ?_
      rintro e w7 ⟨rfl, hn7⟩
      have z7 := hn7.size
      have bA_7 := hn7.bk bA_6
      have bB_7 := hn7.bk bB_6
      have bX_7 := hn7.bk bX_6
      have bY_7 := hn7.bk bY_6
      have oA_7 := Lib.hid (oA_6.out.new (by omega) hn7)
      have oB_7 := Lib.hid (oB_6.out.new (by omega) hn7)
      have oC_7 := Lib.hid (oC_6.out.new (by omega) hn7)
      have oM_7 := Lib.hid (oM_6.out.new (by omega) hn7)
      have oX_7 := Lib.hid (oX_6.out.new (by omega) hn7)
      have oY_7 := Lib.hid (oY_6.out.new (by omega) hn7)
      have N7 : New w w7 := N6.trans hn7
      clear bA_6 bB_6 bX_6 bY_6 oA_6 oB_6 oC_6 oM_6 oX_6 oY_6 N6 hn7
      have hs : (decide (cs = cs) && decide (cm = cm)) = true := by simp
      rw [hs]
      clear hs
      obtain ⟨cA0, cA1, cA2⟩ := cells3 bA_7
      have lA := heap_lt bA_7
      obtain ⟨cB0, cB1⟩ := cells2 bB_7
      have lB := heap_lt bB_7
      go_wp2_with fail
      clear cA0 cA1 cA2 lA cB0 cB1 lB
      refine (PartM.implPub (xa := ya) (xb := yb) (l := m) (ya := za) (yb := zb) oA_7.out oB_7.out oC_7.out oM_7.out (by omega) (by omega) (by omega) (by omega) (by omega)).mono ?_
      intro e w8 h3
      obtain ⟨uaV, ubV, rfl, hn8, hMV⟩ := LawU.got_yes h3 hth.out
      have z8 := hn8.size
      have bA_8 := hn8.bk bA_7
      have bB_8 := hn8.bk bB_7
      have bX_8 := hn8.bk bX_7
      have oA_8 := Lib.hid (oA_7.out.new (by omega) hn8)
      have oB_8 := Lib.hid (oB_7.out.new (by omega) hn8)
      have oC_8 := Lib.hid (oC_7.out.new (by omega) hn8)
      have oM_8 := Lib.hid (oM_7.out.new (by omega) hn8)
      have oX_8 := Lib.hid (oX_7.out.new (by omega) hn8)
      have N8 : New w w8 := N7.trans hn8
      clear bA_7 bB_7 bX_7 oA_7 oB_7 oC_7 oM_7 oX_7 N7 hn8
      rw [hdsh.out, hdmh.out] at hMV
      obtain ⟨⟨p1V, q1V, rfl⟩, p2V, q2V, rfl⟩ := hMV.lens
      have oV_8 := Lib.hid hMV
      clear hMV
      obtain ⟨hn9, y9, bV_9⟩ := newb w8 (.cells #[.slice p1V ds.length q1V, .slice p2V dm.length q2V] 79)
      go_upto_region 9 with fail
      generalize hbV : w8.heap.size = bV at bV_9 y9 ⊢
      generalize (w8.alloc (.cells #[.slice p1V ds.length q1V, .slice p2V dm.length q2V] 79)) = w9 at *
      have z9 := hn9.size
      have bA_9 := hn9.bk bA_8
      have bB_9 := hn9.bk bB_8
      have bX_9 := hn9.bk bX_8
      have oA_9 := Lib.hid (oA_8.out.new (by omega) hn9)
      have oB_9 := Lib.hid (oB_8.out.new (by omega) hn9)
      have oC_9 := Lib.hid (oC_8.out.new (by omega) hn9)
      have oM_9 := Lib.hid (oM_8.out.new (by omega) hn9)
      have oX_9 := Lib.hid (oX_8.out.new (by omega) hn9)
      have oV_9 := Lib.hid (oV_8.out.new (by omega) hn9)
      have N9 : New w w9 := N8.trans hn9
      clear bA_8 bB_8 bX_8 oA_8 oB_8 oC_8 oM_8 oX_8 oV_8 N8 hn9
      obtain ⟨cA0, cA1, cA2⟩ := cells3 bA_9
      have lA := heap_lt bA_9
      obtain ⟨cX0, cX1⟩ := cells2 bX_9
      have lX := heap_lt bX_9
      go_wp2_with fail
      clear cA0 cA1 cA2 lA cX0 cX1 lX
      refine (PartM.implPub (xa := ya) (xb := yb) (l := m) (ya := cs) (yb := cm) oA_9.out oB_9.out oC_9.out oX_9.out (by omega) (by omega) (by omega) (by omega) (by omega)).mono ?_
      intro e w10 h3
      obtain ⟨uaP, ubP, rfl, hn10, hMP⟩ := LawU.got_yes h3 htcs.out
      have z10 := hn10.size
      have bA_10 := hn10.bk bA_9
      have bB_10 := hn10.bk bB_9
      have bX_10 := hn10.bk bX_9
      have bV_10 := hn10.bk bV_9
      have oA_10 := Lib.hid (oA_9.out.new (by omega) hn10)
      have oB_10 := Lib.hid (oB_9.out.new (by omega) hn10)
      have oC_10 := Lib.hid (oC_9.out.new (by omega) hn10)
      have oM_10 := Lib.hid (oM_9.out.new (by omega) hn10)
      have oX_10 := Lib.hid (oX_9.out.new (by omega) hn10)
      have oV_10 := Lib.hid (oV_9.out.new (by omega) hn10)
      have N10 : New w w10 := N9.trans hn10
      clear bA_9 bB_9 bX_9 bV_9 oA_9 oB_9 oC_9 oM_9 oX_9 oV_9 N9 hn10
      rw [hesh.out, hemh.out] at hMP
      obtain ⟨⟨p1P, q1P, rfl⟩, p2P, q2P, rfl⟩ := hMP.lens
      have oP_10 := Lib.hid hMP
      clear hMP
      obtain ⟨hn11, y11, bP_11⟩ := newb w10 (.cells #[.slice p1P es.length q1P, .slice p2P em.length q2P] 79)
      go_upto_region 10 with fail
      generalize hbP : w10.heap.size = bP at bP_11 y11 ⊢
      generalize (w10.alloc (.cells #[.slice p1P es.length q1P, .slice p2P em.length q2P] 79)) = w11 at *
      have z11 := hn11.size
      have bA_11 := hn11.bk bA_10
      have bB_11 := hn11.bk bB_10
      have bX_11 := hn11.bk bX_10
      have bV_11 := hn11.bk bV_10
      have oA_11 := Lib.hid (oA_10.out.new (by omega) hn11)
      have oB_11 := Lib.hid (oB_10.out.new (by omega) hn11)
      have oC_11 := Lib.hid (oC_10.out.new (by omega) hn11)
      have oM_11 := Lib.hid (oM_10.out.new (by omega) hn11)
      have oX_11 := Lib.hid (oX_10.out.new (by omega) hn11)
      have oV_11 := Lib.hid (oV_10.out.new (by omega) hn11)
      have oP_11 := Lib.hid (oP_10.out.new (by omega) hn11)
      have N11 : New w w11 := N10.trans hn11
      clear bA_10 bB_10 bX_10 bV_10 oA_10 oB_10 oC_10 oM_10 oX_10 oV_10 oP_10 N10 hn11
      obtain ⟨cA0, cA1, cA2⟩ := cells3 bA_11
      have lA := heap_lt bA_11
      obtain ⟨cV0, cV1⟩ := cells2 bV_11
      have lV := heap_lt bV_11
      go_wp2_with fail
      clear cA0 cA1 cA2 lA cV0 cV1 lV
      refine (PartM.implTru (xa := ya) (xb := yb) (l := m) (ya := ds) (yb := dm) oA_11.out oB_11.out oC_11.out oV_11.out (by omega) (by omega) (by omega) (by omega) (by omega)).mono ?_
      intro e w12 h3
      obtain ⟨uaQ, ubQ, rfl, hn12, hMQ⟩ := LawU.got_yes h3 htds.out
      have z12 := hn12.size
      have bA_12 := hn12.bk bA_11
      have bB_12 := hn12.bk bB_11
      have bX_12 := hn12.bk bX_11
      have bV_12 := hn12.bk bV_11
      have bP_12 := hn12.bk bP_11
      have oA_12 := Lib.hid (oA_11.out.new (by omega) hn12)
      have oB_12 := Lib.hid (oB_11.out.new (by omega) hn12)
      have oC_12 := Lib.hid (oC_11.out.new (by omega) hn12)
      have oM_12 := Lib.hid (oM_11.out.new (by omega) hn12)
      have oX_12 := Lib.hid (oX_11.out.new (by omega) hn12)
      have oV_12 := Lib.hid (oV_11.out.new (by omega) hn12)
      have oP_12 := Lib.hid (oP_11.out.new (by omega) hn12)
      have N12 : New w w12 := N11.trans hn12
      clear bA_11 bB_11 bX_11 bV_11 bP_11 oA_11 oB_11 oC_11 oM_11 oX_11 oV_11 oP_11 N11 hn12
      rw [hes2.out, hem2.out] at hMQ
      obtain ⟨⟨p1Q, q1Q, rfl⟩, p2Q, q2Q, rfl⟩ := hMQ.lens
      have oQ_12 := Lib.hid hMQ
      clear hMQ
      obtain ⟨hn13, y13, bQ_13⟩ := newb w12 (.cells #[.slice p1Q es.length q1Q, .slice p2Q em.length q2Q] 79)
      go_upto_region 11 with fail
      generalize hbQ : w12.heap.size = bQ at bQ_13 y13 ⊢
      generalize (w12.alloc (.cells #[.slice p1Q es.length q1Q, .slice p2Q em.length q2Q] 79)) = w13 at *
      have z13 := hn13.size
      have bA_13 := hn13.bk bA_12
      have bB_13 := hn13.bk bB_12
      have bX_13 := hn13.bk bX_12
      have bV_13 := hn13.bk bV_12
      have bP_13 := hn13.bk bP_12
      have oA_13 := Lib.hid (oA_12.out.new (by omega) hn13)
      have oB_13 := Lib.hid (oB_12.out.new (by omega) hn13)
      have oC_13 := Lib.hid (oC_12.out.new (by omega) hn13)
      have oM_13 := Lib.hid (oM_12.out.new (by omega) hn13)
      have oX_13 := Lib.hid (oX_12.out.new (by omega) hn13)
      have oV_13 := Lib.hid (oV_12.out.new (by omega) hn13)
      have oP_13 := Lib.hid (oP_12.out.new (by omega) hn13)
      have oQ_13 := Lib.hid (oQ_12.out.new (by omega) hn13)
      have N13 : New w w13 := N12.trans hn13
      clear bA_12 bB_12 bX_12 bV_12 bP_12 oA_12 oB_12 oC_12 oM_12 oX_12 oV_12 oP_12 oQ_12 N12 hn13
      obtain ⟨cP0, cP1⟩ := cells2 bP_13
      have lP := heap_lt bP_13
      obtain ⟨cQ0, cQ1⟩ := cells2 bQ_13
      have lQ := heap_lt bQ_13
      go_wp2_with fail
      clear cP0 cP1 lP cQ0 cQ1 lQ
      refine (SameM.implSame w13 _ _ _ _ _ _ _ _ es em es em oP_13.out.reads.1 oP_13.out.reads.2 oQ_13.out.reads.1 oQ_13.out.reads.2 (by omega) (by omega)).mono ?_
      rintro e w14 ⟨rfl, hn14⟩
      have z14 := hn14.size
      have bA_14 := hn14.bk bA_13
      have bB_14 := hn14.bk bB_13
      have bX_14 := hn14.bk bX_13
      have bV_14 := hn14.bk bV_13
      have bP_14 := hn14.bk bP_13
      have bQ_14 := hn14.bk bQ_13
      have oA_14 := Lib.hid (oA_13.out.new (by omega) hn14)
      have oB_14 := Lib.hid (oB_13.out.new (by omega) hn14)
      have oC_14 := Lib.hid (oC_13.out.new (by omega) hn14)
      have oM_14 := Lib.hid (oM_13.out.new (by omega) hn14)
      have oX_14 := Lib.hid (oX_13.out.new (by omega) hn14)
      have oV_14 := Lib.hid (oV_13.out.new (by omega) hn14)
      have oP_14 := Lib.hid (oP_13.out.new (by omega) hn14)
      have oQ_14 := Lib.hid (oQ_13.out.new (by omega) hn14)
      have N14 : New w w14 := N13.trans hn14
      clear bA_13 bB_13 bX_13 bV_13 bP_13 bQ_13 oA_13 oB_13 oC_13 oM_13 oX_13 oV_13 oP_13 oQ_13 N13 hn14
      have hs : (decide (es = es) && decide (em = em)) = true := by simp
      rw [hs]
      clear hs
      go_wp2
      go_ret
      exact ⟨rfl, N14.toBelow⟩
set_option maxRecDepth 100000 in
theorem lifted (os : Os) (started : os.Started) (H : Type) (enc : TypeId × Value → H) :
    ReturnsInHanded {} Try.checked os 9 .any (Rows.fnTrustedPartSpec.pre6 enc Try.prog Try.f9 Rows.fnTrustedPartRow.domain false) (Rows.fnTrustedPartSpec.post enc Try.prog Try.f9 false true false false) := by
  refine returnsInHanded_of_change (C := Try.checked) own started (by kernel_rfl) Try.func9
    (ChangeSpec.witness6 (enc := enc) (C := Try.checked) false ⟨#[], #[.slice none 0 0], []⟩ 8 (by kernel_rfl) (by kernel_rfl) (by kernel_rfl) (by kernel_rfl)) ?_
  intro W base args ds gs before hval0 hW hcnd _
  have hval : ∀ (j : Nat) t v, Try.f9.params[j]? = some t → args[j]? = some v → Value.okWide Try.prog W .any base t v := hval0
  have hW' := hW
  obtain ⟨p, q, hA0, hV, rfl, hfz, hnd⟩ := hW
  have hA : DataW.TrodAll enc Try.prog W 0 (fun _ => true) true Try.f9.params.toList args.toList ds p := hA0
  rw [Try.params9] at hA hval
  obtain ⟨v0, vs0, d0, ds0, p0, q0, hargs, rfl, rfl, h0, r0⟩ := trodAll_cons hA
  obtain ⟨rfl, rfl, rfl⟩ := trodAll_nil r0
  obtain rfl : args = #[v0] := by cases args; simp_all
  obtain ⟨rfl, rfl⟩ := trodVars_none hV
  have kk0 := h0
  have lt0 : ∀ x ∈ p0, x.block < W.heap.size := by obtain ⟨m, hm⟩ := kk0; exact DataW.trod_lt m _ _ _ hm
  obtain ⟨a0, l0, c0, rfl, s0⟩ := Kit.open_bytes Try.underlying22 Try.underlying5 (by kernel_rfl) (hval 0 22 v0 rfl rfl) h0
  clear hA0 hval0
  refine (walk a0 l0 c0 W s0).mono fun e W' ⟨he, bel⟩ => ?_
  subst he
  exact ⟨_, rfl, _, _, _, [], _, [], hW', trodAll_mk1 (shut_bool Try.underlying4 _), (trodAll_cons_mk (Below.trod laidOut (by kernel_rfl) (of_decide_eq_true (by kernel_rfl)) kk0 bel lt0) trodAll_mk0), rfl, bel.frame _, fun h => by cases h⟩
theorem over : Rows.fnTrustedPartRow.holds Try.pinned (OpenSpec.ofChange Rows.fnTrustedPartSpec) :=
  OpenClaim.holds_of_wide 9 Try.f9 rfl rfl rfl rfl rfl rfl rfl ⟨rfl, rfl, rfl, rfl, rfl⟩ rfl rfl rfl rfl rfl (by kernel_rfl) Try.func9 (by kernel_rfl)
    (of_decide_eq_true (by kernel_rfl)) (by unfold Func.isWrapper; first | (rw [if_pos (by decide +kernel)]; kernel_rfl) | (rw [if_neg (by decide +kernel)]; exact ⟨rfl, rfl⟩))
    (fun os started H enc _ => lifted os started H enc)
theorem proved : Rows.FnTrustedPartSaid := over
#print axioms proved
end Go.Proofs.Ytckikiaockkmbaa.fnTrustedPart
