/- FnRunCode: for every input the law returns true, and the arguments read as they did. No conditions. -/
import Derived.Test.YtbicpkmlionldaaRows
import Derived.Test.YtbicpkmlionldaaVDrawA
import Derived.Test.YtbicpkmlionldaaVRunM2
import Derived.Test.YtbicpkmlionldaaVP8
import Derived.Test.YtbicpkmlionldaaVStartC
import Derived.Test.YtbicpkmlionldaaVP6
import Derived.Test.YtbicpkmlionldaaVDiff
import Derived.Test.YtbicpkmlionldaaVMachV
import Derived.Test.YtbicpkmlionldaaVLawR
import Derived.Test.YtbicpkmlionldaaVP1
import Derived.WalkKit
import Derived.ProofKit
import Derived.OpenShut
import Derived.ShutString
import Derived.ChangeOld
import Derived.Below
namespace Go.Proofs.Ytbicpkmlionldaa.fnRunCode
open Go.ChangeShapes Go.WideShapes Go.ChangeAt Go.RowKit Kit MarkC
open Go.ChangeMaps (open_string shut_string)
set_option linter.unusedVariables false
theorem own : ownKnob Try.prog.godebug = none := by kernel_rfl
theorem laidOut : laidOutB Try.prog = true := by kernel_rfl
set_option maxHeartbeats 1000000 in
theorem walk (a0 : Option Addr) (l0 c0 : Nat) (w : World) (s0 : Kit.Src w a0 l0 c0) :
    Calls Try.prog 3 #[.slice a0 l0 c0] w fun e w' => e = .returned (.bool true) ∧ Below w.heap.size w w' := by
  by_cases hl : 1048576 < l0
  · go_enter Try.func3, Try.ntmps3
    go_wp2
    go_ret
    exact ⟨rfl, Below.refl _ _⟩
  · go_enter Try.func3, Try.ntmps3
    go_wp2_with fail
    refine (DrawA.drawRun _ a0 l0 c0 s0).mono ?_
    rintro e w1 ⟨a1, a2, a3, d1, d2, d3, xa, xb, x, va, vb, ya, yb, rfl, N1, hC, hO, hxa, hxb, hx, hya, hyb, hr⟩
    obtain ⟨⟨aa, da, rfl⟩, ab, db, rfl⟩ := hO.lens
    have oS_1 := Lib.hid hO
    have hrh := Lib.hid hr
    clear hO hr
    have oC_1 := Lib.hid hC
    clear hC
    have zw := N1.size
    have hn2 : New w1 ((w1.alloc (.cells #[.slice a1 xa.length d1, .slice a2 xb.length d2, .slice a3 x.length d3] 26)).alloc (.cells #[.slice aa ya.length da, .slice ab yb.length db] 29)) := ((Kp.refl _ _).alloc _).alloc _
    have bA_2 : ((w1.alloc (.cells #[.slice a1 xa.length d1, .slice a2 xb.length d2, .slice a3 x.length d3] 26)).alloc (.cells #[.slice aa ya.length da, .slice ab yb.length db] 29)).heap[w1.heap.size]? = some (.cells #[.slice a1 xa.length d1, .slice a2 xb.length d2, .slice a3 x.length d3] 26) := heap_old (alloc_heap _ _)
    have bB_2 : ((w1.alloc (.cells #[.slice a1 xa.length d1, .slice a2 xb.length d2, .slice a3 x.length d3] 26)).alloc (.cells #[.slice aa ya.length da, .slice ab yb.length db] 29)).heap[w1.heap.size + 1]? = some (.cells #[.slice aa ya.length da, .slice ab yb.length db] 29) := heap_at (by simp)
    have y2 : w1.heap.size + 1 < ((w1.alloc (.cells #[.slice a1 xa.length d1, .slice a2 xb.length d2, .slice a3 x.length d3] 26)).alloc (.cells #[.slice aa ya.length da, .slice ab yb.length db] 29)).heap.size := by simp
    go_upto_region 4 with fail
    generalize ((w1.alloc (.cells #[.slice a1 xa.length d1, .slice a2 xb.length d2, .slice a3 x.length d3] 26)).alloc (.cells #[.slice aa ya.length da, .slice ab yb.length db] 29)) = w2 at *
    have z2 := hn2.size
    have oC_2 := Lib.hid ((⟨oC_1.out.1.new (by omega) hn2, oC_1.out.2.1.new (by omega) hn2, oC_1.out.2.2.new (by omega) hn2⟩ : _ ∧ _ ∧ _))
    have oS_2 := Lib.hid (oS_1.out.new (by omega) hn2)
    have N2 : New w w2 := N1.trans hn2
    clear oC_1 oS_1 N1 hn2
    have hb : ∀ y ∈ yb, y.length ≤ 1099511627776 := fun y hy => by have := hrh.out y hy; omega
    have hbh := Lib.hid hb
    clear hb
    obtain ⟨rr, hrr⟩ : ∃ rr, RunC.runR xa xb x ya yb = rr := ⟨_, rfl⟩
    obtain ⟨t, ht⟩ : ∃ t, RunP.resT rr = t := ⟨_, rfl⟩
    obtain ⟨z, hz⟩ : ∃ z, RunP.resZ rr = z := ⟨_, rfl⟩
    obtain ⟨zl, hzl⟩ : ∃ zl, RunP.resL rr = zl := ⟨_, rfl⟩
    have hrrh := Lib.hid hrr
    have hth := Lib.hid (show RunP.resT (RunC.runR xa xb x ya yb) = t by rw [hrr]; exact ht)
    have hzh := Lib.hid (show RunP.resZ (RunC.runR xa xb x ya yb) = z by rw [hrr]; exact hz)
    have hzlh := Lib.hid (show RunP.resL (RunC.runR xa xb x ya yb) = zl by rw [hrr]; exact hzl)
    have ht0 := Lib.hid ht
    have hz0 := Lib.hid hz
    have hzl0 := Lib.hid hzl
    clear hrr ht hz hzl
    obtain ⟨cA0, cA1, cA2⟩ := cells3 bA_2
    have lA := heap_lt bA_2
    obtain ⟨cB0, cB1⟩ := cells2 bB_2
    have lB := heap_lt bB_2
    go_wp2_with fail
    clear cA0 cA1 cA2 lA cB0 cB1 lB
    refine (RunM2.implA w2 w.heap.size w1.heap.size w.heap.size w1.heap.size _ _ _ _ _ xa xb ya x yb oC_2.out.1 oC_2.out.2.1 oC_2.out.2.2 (by omega) oS_2.out (by omega) (by omega) (by omega) hbh.out hth.out hzh.out hzlh.out).mono ?_
    rintro e w3 ⟨vaX, vbX, veX, pX, qX, rX, sX, rfl, hn3, hOX, hEX, g1X, g2X, g3X, g4X, g5X⟩
    have z3 := hn3.size
    have bA_3 := hn3.bk bA_2
    have bB_3 := hn3.bk bB_2
    have oC_3 := Lib.hid ((⟨oC_2.out.1.new (by omega) hn3, oC_2.out.2.1.new (by omega) hn3, oC_2.out.2.2.new (by omega) hn3⟩ : _ ∧ _ ∧ _))
    have oS_3 := Lib.hid (oS_2.out.new (by omega) hn3)
    have N3 : New w w3 := N2.trans hn3
    clear bA_2 bB_2 oC_2 oS_2 N2 hn3
    obtain ⟨⟨aaX, daX, rfl⟩, abX, dbX, rfl⟩ := hOX.lens
    obtain ⟨aeX, deX, rfl, _⟩ := hEX.reads.len
    have oX_3 := Lib.hid hOX
    have oEX_3 := Lib.hid hEX
    clear hOX hEX
    obtain ⟨hn4, y4, bX_4⟩ := newb w3 (.cells #[.slice aaX z.v.length daX, .slice abX z.a.length dbX] 29)
    go_upto_region 5 with fail
    generalize hbX : w3.heap.size = bX at bX_4 y4 ⊢
    generalize (w3.alloc (.cells #[.slice aaX z.v.length daX, .slice abX z.a.length dbX] 29)) = w4 at *
    have z4 := hn4.size
    have bA_4 := hn4.bk bA_3
    have bB_4 := hn4.bk bB_3
    have oC_4 := Lib.hid ((⟨oC_3.out.1.new (by omega) hn4, oC_3.out.2.1.new (by omega) hn4, oC_3.out.2.2.new (by omega) hn4⟩ : _ ∧ _ ∧ _))
    have oS_4 := Lib.hid (oS_3.out.new (by omega) hn4)
    have oX_4 := Lib.hid (oX_3.out.new (by omega) hn4)
    have oEX_4 := Lib.hid (oEX_3.out.new (by omega) hn4)
    have N4 : New w w4 := N3.trans hn4
    clear bA_3 bB_3 oC_3 oS_3 oX_3 oEX_3 N3 hn4
    obtain ⟨cA0, cA1, cA2⟩ := cells3 bA_4
    have lA := heap_lt bA_4
    obtain ⟨cB0, cB1⟩ := cells2 bB_4
    have lB := heap_lt bB_4
    go_wp2_with fail
    clear cA0 cA1 cA2 lA cB0 cB1 lB
    refine (RunM2.specA w4 w.heap.size w1.heap.size w.heap.size w1.heap.size _ _ _ _ _ xa xb ya x yb oC_4.out.1 oC_4.out.2.1 oC_4.out.2.2 (by omega) oS_4.out.reads.1 oS_4.out.reads.2 (by omega) (by omega) (by omega) hbh.out hth.out hzh.out hzlh.out).mono ?_
    rintro e w5 ⟨vaY, vbY, veY, pY, qY, rY, sY, rfl, hn5, hOY, hEY, g1Y, g2Y, g3Y, g4Y, g5Y⟩
    have z5 := hn5.size
    have bA_5 := hn5.bk bA_4
    have bB_5 := hn5.bk bB_4
    have bX_5 := hn5.bk bX_4
    have oC_5 := Lib.hid ((⟨oC_4.out.1.new (by omega) hn5, oC_4.out.2.1.new (by omega) hn5, oC_4.out.2.2.new (by omega) hn5⟩ : _ ∧ _ ∧ _))
    have oS_5 := Lib.hid (oS_4.out.new (by omega) hn5)
    have oX_5 := Lib.hid (oX_4.out.new (by omega) hn5)
    have oEX_5 := Lib.hid (oEX_4.out.new (by omega) hn5)
    have N5 : New w w5 := N4.trans hn5
    clear bA_4 bB_4 bX_4 oC_4 oS_4 oX_4 oEX_4 N4 hn5
    obtain ⟨⟨aaY, daY, rfl⟩, abY, dbY, rfl⟩ := hOY.lens
    obtain ⟨aeY, deY, rfl, _⟩ := hEY.reads.len
    have oY_5 := Lib.hid hOY
    have oEY_5 := Lib.hid hEY
    clear hOY hEY
    obtain ⟨hn6, y6, bY_6⟩ := newb w5 (.cells #[.slice aaY z.v.length daY, .slice abY z.a.length dbY] 29)
    go_upto_region 6 with fail
    generalize hbY : w5.heap.size = bY at bY_6 y6 ⊢
    generalize (w5.alloc (.cells #[.slice aaY z.v.length daY, .slice abY z.a.length dbY] 29)) = w6 at *
    have z6 := hn6.size
    have bA_6 := hn6.bk bA_5
    have bB_6 := hn6.bk bB_5
    have bX_6 := hn6.bk bX_5
    have oC_6 := Lib.hid ((⟨oC_5.out.1.new (by omega) hn6, oC_5.out.2.1.new (by omega) hn6, oC_5.out.2.2.new (by omega) hn6⟩ : _ ∧ _ ∧ _))
    have oS_6 := Lib.hid (oS_5.out.new (by omega) hn6)
    have oX_6 := Lib.hid (oX_5.out.new (by omega) hn6)
    have oEX_6 := Lib.hid (oEX_5.out.new (by omega) hn6)
    have oY_6 := Lib.hid (oY_5.out.new (by omega) hn6)
    have oEY_6 := Lib.hid (oEY_5.out.new (by omega) hn6)
    have N6 : New w w6 := N5.trans hn6
    clear bA_5 bB_5 bX_5 oC_5 oS_5 oX_5 oEX_5 oY_5 oEY_5 N5 hn6
    have htt : (t != t) = false := by simp
    have htt2 : (t == t) = true := by simp
    cases t
    · obtain ⟨cX0, cX1⟩ := cells2 bX_6
      have lX := heap_lt bX_6
      obtain ⟨cY0, cY1⟩ := cells2 bY_6
      have lY := heap_lt bY_6
      go_wp2_with fail
      clear cX0 cX1 lX cY0 cY1 lY
      refine (SameM.implSame w6 _ _ _ _ _ _ _ _ z.v z.a z.v z.a oX_6.out.reads.1 oX_6.out.reads.2 oY_6.out.reads.1 oY_6.out.reads.2 (by omega) (by omega)).mono ?_
      rintro e w7 ⟨rfl, hn7⟩
      have z7 := hn7.size
      have bA_7 := hn7.bk bA_6
      have bB_7 := hn7.bk bB_6
      have bX_7 := hn7.bk bX_6
      have bY_7 := hn7.bk bY_6
      have oC_7 := Lib.hid ((⟨oC_6.out.1.new (by omega) hn7, oC_6.out.2.1.new (by omega) hn7, oC_6.out.2.2.new (by omega) hn7⟩ : _ ∧ _ ∧ _))
      have oS_7 := Lib.hid (oS_6.out.new (by omega) hn7)
      have oX_7 := Lib.hid (oX_6.out.new (by omega) hn7)
      have oEX_7 := Lib.hid (oEX_6.out.new (by omega) hn7)
      have oY_7 := Lib.hid (oY_6.out.new (by omega) hn7)
      have oEY_7 := Lib.hid (oEY_6.out.new (by omega) hn7)
      have N7 : New w w7 := N6.trans hn7
      clear bA_6 bB_6 bX_6 bY_6 oC_6 oS_6 oX_6 oEX_6 oY_6 oEY_6 N6 hn7
      have hs : (decide (z.v = z.v) && decide (z.a = z.a)) = true := by simp
      rw [hs]
      clear hs
      obtain ⟨cX0, cX1⟩ := cells2 bX_7
      have lX := heap_lt bX_7
      obtain ⟨cY0, cY1⟩ := cells2 bY_7
      have lY := heap_lt bY_7
      go_wp2_with fail
      clear cX0 cX1 lX cY0 cY1 lY
      refine (Diff.implSame w7 _ _ _ _ _ _ zl zl oEX_7.out.reads oEY_7.out.reads).mono ?_
      rintro e w8 ⟨rfl, hn8⟩
      have z8 := hn8.size
      have bA_8 := hn8.bk bA_7
      have bB_8 := hn8.bk bB_7
      have bX_8 := hn8.bk bX_7
      have bY_8 := hn8.bk bY_7
      have oC_8 := Lib.hid ((⟨oC_7.out.1.new (by omega) hn8, oC_7.out.2.1.new (by omega) hn8, oC_7.out.2.2.new (by omega) hn8⟩ : _ ∧ _ ∧ _))
      have oS_8 := Lib.hid (oS_7.out.new (by omega) hn8)
      have oX_8 := Lib.hid (oX_7.out.new (by omega) hn8)
      have oEX_8 := Lib.hid (oEX_7.out.new (by omega) hn8)
      have oY_8 := Lib.hid (oY_7.out.new (by omega) hn8)
      have oEY_8 := Lib.hid (oEY_7.out.new (by omega) hn8)
      have N8 : New w w8 := N7.trans hn8
      clear bA_7 bB_7 bX_7 bY_7 oC_7 oS_7 oX_7 oEX_7 oY_7 oEY_7 N7 hn8
      have hs : decide (zl = zl) = true := by simp
      rw [hs]
      clear hs
      obtain ⟨cX0, cX1⟩ := cells2 bX_8
      have lX := heap_lt bX_8
      obtain ⟨cY0, cY1⟩ := cells2 bY_8
      have lY := heap_lt bY_8
      go_wp2_with fail
      clear cX0 cX1 lX cY0 cY1 lY
      refine (SameM.implSame w8 _ _ _ _ _ _ _ _ z.v z.a z.v z.a oX_8.out.reads.1 oX_8.out.reads.2 oY_8.out.reads.1 oY_8.out.reads.2 (by omega) (by omega)).mono ?_
      rintro e w9 ⟨rfl, hn9⟩
      have z9 := hn9.size
      have bA_9 := hn9.bk bA_8
      have bB_9 := hn9.bk bB_8
      have bX_9 := hn9.bk bX_8
      have bY_9 := hn9.bk bY_8
      have oC_9 := Lib.hid ((⟨oC_8.out.1.new (by omega) hn9, oC_8.out.2.1.new (by omega) hn9, oC_8.out.2.2.new (by omega) hn9⟩ : _ ∧ _ ∧ _))
      have oS_9 := Lib.hid (oS_8.out.new (by omega) hn9)
      have oX_9 := Lib.hid (oX_8.out.new (by omega) hn9)
      have oEX_9 := Lib.hid (oEX_8.out.new (by omega) hn9)
      have oY_9 := Lib.hid (oY_8.out.new (by omega) hn9)
      have oEY_9 := Lib.hid (oEY_8.out.new (by omega) hn9)
      have N9 : New w w9 := N8.trans hn9
      clear bA_8 bB_8 bX_8 bY_8 oC_8 oS_8 oX_8 oEX_8 oY_8 oEY_8 N8 hn9
      have hs : (decide (z.v = z.v) && decide (z.a = z.a)) = true := by simp
      rw [hs]
      clear hs
      obtain ⟨cX0, cX1⟩ := cells2 bX_9
      have lX := heap_lt bX_9
      obtain ⟨cY0, cY1⟩ := cells2 bY_9
      have lY := heap_lt bY_9
      go_wp2_with fail
      clear cX0 cX1 lX cY0 cY1 lY
      refine (Diff.implSame w9 _ _ _ _ _ _ zl zl oEX_9.out.reads oEY_9.out.reads).mono ?_
      rintro e w10 ⟨rfl, hn10⟩
      have z10 := hn10.size
      have bA_10 := hn10.bk bA_9
      have bB_10 := hn10.bk bB_9
      have bX_10 := hn10.bk bX_9
      have bY_10 := hn10.bk bY_9
      have oC_10 := Lib.hid ((⟨oC_9.out.1.new (by omega) hn10, oC_9.out.2.1.new (by omega) hn10, oC_9.out.2.2.new (by omega) hn10⟩ : _ ∧ _ ∧ _))
      have oS_10 := Lib.hid (oS_9.out.new (by omega) hn10)
      have oX_10 := Lib.hid (oX_9.out.new (by omega) hn10)
      have oEX_10 := Lib.hid (oEX_9.out.new (by omega) hn10)
      have oY_10 := Lib.hid (oY_9.out.new (by omega) hn10)
      have oEY_10 := Lib.hid (oEY_9.out.new (by omega) hn10)
      have N10 : New w w10 := N9.trans hn10
      clear bA_9 bB_9 bX_9 bY_9 oC_9 oS_9 oX_9 oEX_9 oY_9 oEY_9 N9 hn10
      have hs : decide (zl = zl) = true := by simp
      rw [hs]
      clear hs
      obtain ⟨cX0, cX1⟩ := cells2 bX_10
      have lX := heap_lt bX_10
      go_wp2
      go_ret
      exact ⟨rfl, N10.toBelow⟩
    · clear htt htt2
      obtain ⟨cX0, cX1⟩ := cells2 bX_6
      have lX := heap_lt bX_6
      obtain ⟨cY0, cY1⟩ := cells2 bY_6
      have lY := heap_lt bY_6
      go_wp2_with fail
      clear cX0 cX1 lX cY0 cY1 lY
      refine (SameM.implSame w6 _ _ _ _ _ _ _ _ z.v z.a z.v z.a oX_6.out.reads.1 oX_6.out.reads.2 oY_6.out.reads.1 oY_6.out.reads.2 (by omega) (by omega)).mono ?_
      rintro e w7 ⟨rfl, hn7⟩
      have z7 := hn7.size
      have bA_7 := hn7.bk bA_6
      have bB_7 := hn7.bk bB_6
      have bX_7 := hn7.bk bX_6
      have bY_7 := hn7.bk bY_6
      have oC_7 := Lib.hid ((⟨oC_6.out.1.new (by omega) hn7, oC_6.out.2.1.new (by omega) hn7, oC_6.out.2.2.new (by omega) hn7⟩ : _ ∧ _ ∧ _))
      have oS_7 := Lib.hid (oS_6.out.new (by omega) hn7)
      have oX_7 := Lib.hid (oX_6.out.new (by omega) hn7)
      have oEX_7 := Lib.hid (oEX_6.out.new (by omega) hn7)
      have oY_7 := Lib.hid (oY_6.out.new (by omega) hn7)
      have oEY_7 := Lib.hid (oEY_6.out.new (by omega) hn7)
      have N7 : New w w7 := N6.trans hn7
      clear bA_6 bB_6 bX_6 bY_6 oC_6 oS_6 oX_6 oEX_6 oY_6 oEY_6 N6 hn7
      have hs : (decide (z.v = z.v) && decide (z.a = z.a)) = true := by simp
      rw [hs]
      clear hs
      obtain ⟨cX0, cX1⟩ := cells2 bX_7
      have lX := heap_lt bX_7
      obtain ⟨cY0, cY1⟩ := cells2 bY_7
      have lY := heap_lt bY_7
      go_wp2_with fail
      clear cX0 cX1 lX cY0 cY1 lY
      refine (Diff.implSame w7 _ _ _ _ _ _ zl zl oEX_7.out.reads oEY_7.out.reads).mono ?_
      rintro e w8 ⟨rfl, hn8⟩
      have z8 := hn8.size
      have bA_8 := hn8.bk bA_7
      have bB_8 := hn8.bk bB_7
      have bX_8 := hn8.bk bX_7
      have bY_8 := hn8.bk bY_7
      have oC_8 := Lib.hid ((⟨oC_7.out.1.new (by omega) hn8, oC_7.out.2.1.new (by omega) hn8, oC_7.out.2.2.new (by omega) hn8⟩ : _ ∧ _ ∧ _))
      have oS_8 := Lib.hid (oS_7.out.new (by omega) hn8)
      have oX_8 := Lib.hid (oX_7.out.new (by omega) hn8)
      have oEX_8 := Lib.hid (oEX_7.out.new (by omega) hn8)
      have oY_8 := Lib.hid (oY_7.out.new (by omega) hn8)
      have oEY_8 := Lib.hid (oEY_7.out.new (by omega) hn8)
      have N8 : New w w8 := N7.trans hn8
      clear bA_7 bB_7 bX_7 bY_7 oC_7 oS_7 oX_7 oEX_7 oY_7 oEY_7 N7 hn8
      have hs : decide (zl = zl) = true := by simp
      rw [hs]
      clear hs
      obtain ⟨hcond, hrun⟩ := LawR.run_yes hrrh.out ht0.out hz0.out hzl0.out
      have hcondh := Lib.hid hcond
      have hrunh := Lib.hid hrun
      have hmv := Lib.hid (started_valid hcond)
      clear hcond hrun
      clear oY_8 oEY_8 bY_8
      obtain ⟨cA0, cA1, cA2⟩ := cells3 bA_8
      have lA := heap_lt bA_8
      obtain ⟨cB0, cB1⟩ := cells2 bB_8
      have lB := heap_lt bB_8
      go_wp2_with fail
      clear cA0 cA1 cA2 lA cB0 cB1 lB
      refine (StartC.implS w8 w.heap.size w1.heap.size w.heap.size w1.heap.size _ _ _ _ _ xa xb ya x yb oC_8.out.1 oC_8.out.2.1 oC_8.out.2.2 (by omega) oS_8.out (by omega) (by omega) (by omega) hbh.out).mono ?_
      intro e w9 h3
      rw [hcondh.out] at h3
      obtain ⟨vrM, vaM, vbM, rfl, hn9, hOM⟩ := h3
      have z9 := hn9.size
      have bA_9 := hn9.bk bA_8
      have bB_9 := hn9.bk bB_8
      have bX_9 := hn9.bk bX_8
      have oC_9 := Lib.hid ((⟨oC_8.out.1.new (by omega) hn9, oC_8.out.2.1.new (by omega) hn9, oC_8.out.2.2.new (by omega) hn9⟩ : _ ∧ _ ∧ _))
      have oS_9 := Lib.hid (oS_8.out.new (by omega) hn9)
      have oX_9 := Lib.hid (oX_8.out.new (by omega) hn9)
      have oEX_9 := Lib.hid (oEX_8.out.new (by omega) hn9)
      have N9 : New w w9 := N8.trans hn9
      clear bA_8 bB_8 bX_8 oC_8 oS_8 oX_8 oEX_8 N8 hn9
      have hPM : MachO w9 _ _ _ _ _ StartM.zeros ya yb := hOM
      obtain ⟨⟨arM, drM, erM⟩, ⟨aaM, daM, eaM⟩, abM, dbM, ebM⟩ := StartM.lens3 hPM
      replace erM : vrM = .slice arM 14 drM := erM
      replace eaM : vaM = .slice aaM ya.length daM := eaM
      replace ebM : vbM = .slice abM yb.length dbM := ebM
      subst erM eaM ebM
      have oM_9 := Lib.hid hPM
      clear hPM hOM
      obtain ⟨hn10, y10, bM_10⟩ := newb w9 (.cells #[.int .i64 0, .slice arM 14 drM, .slice aaM ya.length daM, .slice abM yb.length dbM] 38)
      go_upto_region 9 with fail
      generalize hbM : w9.heap.size = bM at bM_10 y10 ⊢
      generalize (w9.alloc (.cells #[.int .i64 0, .slice arM 14 drM, .slice aaM ya.length daM, .slice abM yb.length dbM] 38)) = w10 at *
      have z10 := hn10.size
      have bA_10 := hn10.bk bA_9
      have bB_10 := hn10.bk bB_9
      have bX_10 := hn10.bk bX_9
      have oC_10 := Lib.hid ((⟨oC_9.out.1.new (by omega) hn10, oC_9.out.2.1.new (by omega) hn10, oC_9.out.2.2.new (by omega) hn10⟩ : _ ∧ _ ∧ _))
      have oS_10 := Lib.hid (oS_9.out.new (by omega) hn10)
      have oX_10 := Lib.hid (oX_9.out.new (by omega) hn10)
      have oEX_10 := Lib.hid (oEX_9.out.new (by omega) hn10)
      have oM_10 := Lib.hid (oM_9.out.new (by omega) hn10)
      have N10 : New w w10 := N9.trans hn10
      clear bA_9 bB_9 bX_9 oC_9 oS_9 oX_9 oEX_9 oM_9 N9 hn10
      have hn0 : New w10 (w10.alloc (.cells #[] 68)) := (Kp.refl _ _).alloc _
      have zn0 := hn0.size
      have hI0 : Hid (LawR.Inv x xa xb z zl bM w10 (.slice (some ⟨w10.heap.size, 0, none⟩) 0 0) (.int .i64 0) (w10.alloc (.cells #[] 68))) := Lib.hid ⟨0, 0, 0, 0, _, _, some ⟨w10.heap.size, 0, none⟩, _, _, _, StartM.zeros, ya, yb, [], rfl, rfl, rfl, hn0.mono (fun _ _ f => f.elim), OwnF.empty _ _ (Nat.le_refl _), Nat.le_refl _, by omega, Nat.le_refl _, hrunh.out, LawR.valid_pos hmv.out, hmv.out, heap_new hn0 bM_10, oM_10.out.new (by omega) hn0, by omega, by omega, fun b hb => by rw [LawR.own_at] at hb; cases hb; omega⟩
      obtain ⟨cA0, cA1, cA2⟩ := cells3 bA_10
      have lA := heap_lt bA_10
      obtain ⟨cM0, cM1, cM2, cM3⟩ := cells4 bM_10
      have lM := heap_lt bM_10
      clear hn0
      go_wp2_with fail
      clear cA0 cA1 cA2 lA cM0 cM1 cM2 cM3 lM
      clear bM_10 oM_10
      clear bB_10 oS_10
      go_loopw [13, 14] (fun ev n wr => Hid (LawR.Inv x xa xb z zl bM w10 ev n wr)) (fun _ n _ => 20000 - (intOf n).toNat)
      case atStart => exact hI0
      case round =>
        obtain ⟨k, p, m, dd, lo, hi, a, vr, va2, vb2, yr2, ya2, yb2, tl, rfl, rfl, hm, hnr, hE, hkm, hk2, hm2, hrun2, hp, hval, bMr, hM, hhi, hbm, hoff⟩ := hrel.out
        clear hI0 hrel hrunh
        have hn11 := hnr
        have hfr11 := hnr
        have z11 := hn11.size
        have bA_11 := hn11.bo bA_10
        have bX_11 := hn11.bo bX_10
        have oC_11 := Lib.hid ((⟨oC_10.out.1.kp hn11 (by omega) (fun b e => by omega), oC_10.out.2.1.kp hn11 (by omega) (fun b e => by omega), oC_10.out.2.2.kp hn11 (by omega) (fun b e => by omega)⟩ : _ ∧ _ ∧ _))
        have oX_11 := Lib.hid (oX_10.out.kp hn11 (fun b e => by omega))
        have oEX_11 := Lib.hid (oEX_10.out.kp hn11 (fun b e => by omega))
        have N11 : New w wr := New.one N10 hn11 (by omega)
        obtain ⟨⟨ar2, dr2, rfl⟩, ⟨aa2, da2, rfl⟩, ab2, db2, rfl⟩ := StartM.lens3 hM
        have bM_11 := bMr
        have oM_11 := Lib.hid hM
        have oE_11 := Lib.hid hE
        have hvalh := Lib.hid hval
        have hrun2h := Lib.hid hrun2
        have hoffh := Lib.hid hoff
        have hmh := Lib.hid hm
        have hgrow := LawR.run_grow _ _ _ _ _ _ hrun2
        obtain ⟨nn, hnn⟩ := LawR.run_pos hrun2
        have hnnh := Lib.hid hnn
        have hlen := LawR.valid_lens hval
        obtain ⟨hL1, hL2, hL3, hL4⟩ := hlen
        have hL4h := Lib.hid hL4
        clear hm hE hM bMr hval hrun2 hoff hnn hL4
        have hle : decide ((k : Int) ≤ (zl.length : Int)) = true := by rw [decide_eq_true_eq]; have := hmh.out; omega
        have hle2 : (k : Int) ≤ (zl.length : Int) := by have := hmh.out; omega
        clear hgrow
        obtain ⟨gb, go_, ge, gl1, gl2, i0, -⟩ := InssR.at oC_11.out.2.2 p hp
        cases ge
        obtain ⟨y, hy⟩ : ∃ y, x[p] = y := ⟨_, rfl⟩
        rw [hy] at i0
        have hyh := Lib.hid hy
        clear hy
        obtain ⟨z1, hz1⟩ : ∃ z1, RunP.out true (Step.eff (RunP.ins x p) ⟨(p : Int), yr2, ya2, yb2⟩).1 = z1 := ⟨_, rfl⟩
        obtain ⟨zl1, hzl1⟩ : ∃ zl1, Rec.pk true ((5, (p : Int)) :: (Step.eff (RunP.ins x p) ⟨(p : Int), yr2, ya2, yb2⟩).2) = zl1 := ⟨_, rfl⟩
        have hz1h := Lib.hid hz1
        have hzl1h := Lib.hid hzl1
        clear hz1 hzl1
        by_cases hop : y.op = 13
        · have hElt := Lib.hid (fun b hb => oE_11.out.lt b hb)
          have hopb : (y.op == 13) = true := by simp [hop]
          have hend := Lib.hid (LawR.run_end hp hyh.out hop hnnh.out hrun2h.out hz1h.out hzl1h.out)
          have hnx := Lib.hid (LawR.next_ok hvalh.out hp hz1h.out hzl1h.out)
          clear hop
          obtain ⟨cA0, cA1, cA2⟩ := cells3 bA_11
          have lA := heap_lt bA_11
          obtain ⟨cM0, cM1, cM2, cM3⟩ := cells4 bM_11
          have lM := heap_lt bM_11
          go_wp2_with fail
          clear cA0 cA1 cA2 lA cM0 cM1 cM2 cM3 lM
          refine (StepM2.implA wr w.heap.size w1.heap.size lo hi _ _ _ _ _ _ p xa xb yr2 ya2 x yb2 oC_11.out.1 oC_11.out.2.1 oC_11.out.2.2 (by omega) oM_11.out (by omega) (by omega) (by omega) (by omega) hL4h.out hvalh.out hz1h.out hzl1h.out).mono ?_
          rintro e w12 ⟨vrN, vaN, vbN, veN, pN, qN, rN, sN, rfl, hn12, hON, hEN, f1, f2, f3, f4, f5⟩
          have hfr12 := LawR.one_kp hfr11 hn12 (fun b e => by exact e.elim)
          clear hfr11
          have z12 := hn12.size
          have bA_12 := hn12.bk bA_11
          have bX_12 := hn12.bk bX_11
          have bM_12 := hn12.bk bM_11
          have oC_12 := Lib.hid ((⟨oC_11.out.1.new (by omega) hn12, oC_11.out.2.1.new (by omega) hn12, oC_11.out.2.2.new (by omega) hn12⟩ : _ ∧ _ ∧ _))
          have oX_12 := Lib.hid (oX_11.out.new (by omega) hn12)
          have oEX_12 := Lib.hid (oEX_11.out.new (by omega) hn12)
          have oM_12 := Lib.hid (oM_11.out.new (by omega) hn12)
          have oE_12 := Lib.hid (oE_11.out.new hn12)
          have N12 : New w w12 := N11.trans hn12
          clear bA_11 bX_11 bM_11 oC_11 oX_11 oEX_11 oM_11 oE_11 N11 hn12
          obtain ⟨⟨arN, drN, rfl⟩, ⟨aaN, daN, rfl⟩, abN, dbN, rfl⟩ := StartM.lens3 hON
          obtain ⟨aeN, deN, rfl, _⟩ := hEN.reads.len
          have oN_12 := Lib.hid hON
          have oEN_12 := Lib.hid hEN
          clear hON hEN
          obtain ⟨hn13, y13, bN_13⟩ := newb w12 (.cells #[.int .i64 z1.pc, .slice arN z1.r.length drN, .slice aaN z1.v.length daN, .slice abN z1.a.length dbN] 38)
          go_upto_region 15 with fail
          generalize hbN : w12.heap.size = bN at bN_13 y13 ⊢
          generalize (w12.alloc (.cells #[.int .i64 z1.pc, .slice arN z1.r.length drN, .slice aaN z1.v.length daN, .slice abN z1.a.length dbN] 38)) = w13 at *
          have hfr13 := LawR.one_kp hfr12 hn13 (fun b e => by exact e.elim)
          clear hfr12
          have z13 := hn13.size
          have bA_13 := hn13.bk bA_12
          have bX_13 := hn13.bk bX_12
          have bM_13 := hn13.bk bM_12
          have oC_13 := Lib.hid ((⟨oC_12.out.1.new (by omega) hn13, oC_12.out.2.1.new (by omega) hn13, oC_12.out.2.2.new (by omega) hn13⟩ : _ ∧ _ ∧ _))
          have oX_13 := Lib.hid (oX_12.out.new (by omega) hn13)
          have oEX_13 := Lib.hid (oEX_12.out.new (by omega) hn13)
          have oM_13 := Lib.hid (oM_12.out.new (by omega) hn13)
          have oE_13 := Lib.hid (oE_12.out.new hn13)
          have oN_13 := Lib.hid (oN_12.out.new (by omega) hn13)
          have oEN_13 := Lib.hid (oEN_12.out.new (by omega) hn13)
          have N13 : New w w13 := N12.trans hn13
          clear bA_12 bX_12 bM_12 oC_12 oX_12 oEX_12 oM_12 oE_12 oN_12 oEN_12 N12 hn13
          obtain ⟨eb, hebs, heb⟩ := LawR.own_in (v := .slice a m dd) (e := w13.heap.size) (Q := fun b => (b < lo ∨ hi ≤ b) ∧ b ≠ bM ∧ w10.heap.size ≤ b ∧ b < wr.heap.size) (fun b hb => ⟨(hoffh.out b hb).1, (hoffh.out b hb).2, hElt.out b hb⟩)
          have hebf : (eb < lo ∨ hi ≤ eb) ∧ eb ≠ bM ∧ w10.heap.size ≤ eb ∧ (eb < wr.heap.size ∨ w13.heap.size ≤ eb) := by
            rcases heb with ⟨h1, h2, h3, h4⟩ | h
            · exact ⟨h1, h2, h3, .inl h4⟩
            · subst h; omega
          obtain ⟨heb1, heb2, heb3, heb4⟩ := hebf
          clear heb
          have hzl12 := hnx.out.2.2
          go_wp2_with (at_builtin; refine wpList_pushesN rfl _ _ 32 rfl w10.heap.size 68 _ 16 Try.underlying32 StepK.infoE rfl (by decide) (.slice a m dd) tl rfl oE_13.out _ zl1 rfl oEN_13.out.reads (fun q _ => oneE q) (by have := hmh.out; omega) (by have := hmh.out; omega) (by omega) ?_)
          intro v5 w14 hv5 hk5 ha5
          have hk14 : Kp (fun b => b = eb) w13 w14 := hk5.mono fun b _ e => hebs b e
          have oF := Lib.hid hv5
          obtain ⟨a5, d5, e5, _⟩ := hv5.reads.len
          have hm5 : (tl ++ zl1).length = m + zl1.length := by rw [List.length_append, hmh.out]
          rw [hm5] at e5
          subst e5
          have hm5h := Lib.hid hm5
          have ha5h := Lib.hid ha5
          have hoff5 := Lib.hid (show ∀ b, (Value.slice a5 (m + zl1.length) d5).ownBlock = some b → (b < pN ∨ qN ≤ b) ∧ b ≠ bM from fun b hb => by
            rcases ha5 with q | q
            · have := hebs b (q ▸ hb); omega
            · rw [q] at hb; cases hb; omega)
          clear hv5 hk5 ha5 hm5 oE_13
          have hfr14 := LawR.one_kp hfr13 hk14 (fun b e => by omega)
          clear hfr13
          have z14 := hk14.size
          have bA_14 := hk14.bo bA_13
          have bX_14 := hk14.bo bX_13
          have bM_14 := hk14.bo bM_13
          have bN_14 := hk14.bo bN_13
          have oC_14 := Lib.hid ((⟨oC_13.out.1.kp hk14 (by omega) (fun b e => by omega), oC_13.out.2.1.kp hk14 (by omega) (fun b e => by omega), oC_13.out.2.2.kp hk14 (by omega) (fun b e => by omega)⟩ : _ ∧ _ ∧ _))
          have oX_14 := Lib.hid (oX_13.out.kp hk14 (fun b e => by omega))
          have oEX_14 := Lib.hid (oEX_13.out.kp hk14 (fun b e => by omega))
          have oM_14 := Lib.hid (oM_13.out.kp hk14 (fun b e => by omega))
          have oN_14 := Lib.hid (oN_13.out.kp hk14 (fun b e => by omega))
          have oEN_14 := Lib.hid (oEN_13.out.kp hk14 (fun b e => by omega))
          have N14 : New w w14 := New.on N13 hk14 (fun b e => by omega)
          clear bA_13 bX_13 bM_13 bN_13 oC_13 oX_13 oEX_13 oM_13 oN_13 oEN_13 N13 hk14
          have oE_14 := oF
          clear oF
          obtain ⟨cA0, cA1, cA2⟩ := cells3 bA_14
          have lA := heap_lt bA_14
          obtain ⟨cN0, cN1, cN2, cN3⟩ := cells4 bN_14
          have lN := heap_lt bN_14
          go_wp2_with fail
          clear cA0 cA1 cA2 lA cN0 cN1 cN2 cN3 lN
          refine (MachV.implV (xa := xa) (xb := xb) (x := x) (pc := z1.pc) (yr := z1.r) (ya := z1.v) (yb := z1.a) oC_14.out.1 oC_14.out.2.1 oC_14.out.2.2 oN_14.out.reads.1 oN_14.out.reads.2.1 oN_14.out.reads.2.2 (by omega) (by omega)).mono ?_
          rintro e w15 ⟨rfl, hn15⟩
          have hfr15 := LawR.one_kp hfr14 hn15 (fun b e => by exact e.elim)
          clear hfr14
          have z15 := hn15.size
          have bA_15 := hn15.bk bA_14
          have bX_15 := hn15.bk bX_14
          have bM_15 := hn15.bk bM_14
          have bN_15 := hn15.bk bN_14
          have oC_15 := Lib.hid ((⟨oC_14.out.1.new (by omega) hn15, oC_14.out.2.1.new (by omega) hn15, oC_14.out.2.2.new (by omega) hn15⟩ : _ ∧ _ ∧ _))
          have oX_15 := Lib.hid (oX_14.out.new (by omega) hn15)
          have oEX_15 := Lib.hid (oEX_14.out.new (by omega) hn15)
          have oM_15 := Lib.hid (oM_14.out.new (by omega) hn15)
          have oN_15 := Lib.hid (oN_14.out.new (by omega) hn15)
          have oEN_15 := Lib.hid (oEN_14.out.new (by omega) hn15)
          have oE_15 := Lib.hid (oE_14.out.new hn15)
          have N15 : New w w15 := N14.trans hn15
          clear bA_14 bX_14 bM_14 bN_14 oC_14 oX_14 oEX_14 oM_14 oN_14 oEN_14 oE_14 N14 hn15
          rw [hnx.out.1]
          obtain ⟨cM0, cM1, cM2, cM3⟩ := cells4 bM_15
          have lM := heap_lt bM_15
          obtain ⟨cX0, cX1⟩ := cells2 bX_15
          have lX := heap_lt bX_15
          go_wp2_with fail
          clear cM0 cM1 cM2 cM3 lM cX0 cX1 lX
          refine (SameM.implSame w15 _ _ _ _ _ _ _ _ ya2 yb2 z.v z.a oM_15.out.reads.2.1 oM_15.out.reads.2.2 oX_15.out.reads.1 oX_15.out.reads.2 (by omega) (by omega)).mono ?_
          rintro e w16 ⟨rfl, hn16⟩
          have hfr16 := LawR.one_kp hfr15 hn16 (fun b e => by exact e.elim)
          clear hfr15
          have z16 := hn16.size
          have bA_16 := hn16.bk bA_15
          have bX_16 := hn16.bk bX_15
          have bM_16 := hn16.bk bM_15
          have bN_16 := hn16.bk bN_15
          have oC_16 := Lib.hid ((⟨oC_15.out.1.new (by omega) hn16, oC_15.out.2.1.new (by omega) hn16, oC_15.out.2.2.new (by omega) hn16⟩ : _ ∧ _ ∧ _))
          have oX_16 := Lib.hid (oX_15.out.new (by omega) hn16)
          have oEX_16 := Lib.hid (oEX_15.out.new (by omega) hn16)
          have oM_16 := Lib.hid (oM_15.out.new (by omega) hn16)
          have oN_16 := Lib.hid (oN_15.out.new (by omega) hn16)
          have oEN_16 := Lib.hid (oEN_15.out.new (by omega) hn16)
          have oE_16 := Lib.hid (oE_15.out.new hn16)
          have N16 : New w w16 := N15.trans hn16
          clear bA_15 bX_15 bM_15 bN_15 oC_15 oX_15 oEX_15 oM_15 oN_15 oEN_15 oE_15 N15 hn16
          have hs : (decide (ya2 = z.v) && decide (yb2 = z.a)) = true := by simp [hend.out.1, hend.out.2.1]
          rw [hs]
          clear hs
          obtain ⟨cM0, cM1, cM2, cM3⟩ := cells4 bM_16
          have lM := heap_lt bM_16
          obtain ⟨cX0, cX1⟩ := cells2 bX_16
          have lX := heap_lt bX_16
          go_wp2_with fail
          clear cM0 cM1 cM2 cM3 lM cX0 cX1 lX
          refine (Diff.implSame w16 _ _ _ _ _ _ (tl ++ zl1) zl oE_16.out.reads oEX_16.out.reads).mono ?_
          rintro e w17 ⟨rfl, hn17⟩
          have hfr17 := LawR.one_kp hfr16 hn17 (fun b e => by exact e.elim)
          clear hfr16
          have z17 := hn17.size
          have bA_17 := hn17.bk bA_16
          have bX_17 := hn17.bk bX_16
          have bM_17 := hn17.bk bM_16
          have bN_17 := hn17.bk bN_16
          have oC_17 := Lib.hid ((⟨oC_16.out.1.new (by omega) hn17, oC_16.out.2.1.new (by omega) hn17, oC_16.out.2.2.new (by omega) hn17⟩ : _ ∧ _ ∧ _))
          have oX_17 := Lib.hid (oX_16.out.new (by omega) hn17)
          have oEX_17 := Lib.hid (oEX_16.out.new (by omega) hn17)
          have oM_17 := Lib.hid (oM_16.out.new (by omega) hn17)
          have oN_17 := Lib.hid (oN_16.out.new (by omega) hn17)
          have oEN_17 := Lib.hid (oEN_16.out.new (by omega) hn17)
          have oE_17 := Lib.hid (oE_16.out.new hn17)
          have N17 : New w w17 := N16.trans hn17
          clear bA_16 bX_16 bM_16 bN_16 oC_16 oX_16 oEX_16 oM_16 oN_16 oEN_16 oE_16 N16 hn17
          have hs : decide (tl ++ zl1 = zl) = true := by simp [hend.out.2.2]
          rw [hs]
          clear hs
          go_wp2
          go_ret
          exact ⟨rfl, N17.toBelow⟩
        · have hElt := Lib.hid (fun b hb => oE_11.out.lt b hb)
          have hopb : (y.op == 13) = false := by simpa using hop
          have hend := Lib.hid (LawR.run_next hp hyh.out hop hnnh.out hrun2h.out hz1h.out hzl1h.out)
          have hnx := Lib.hid (LawR.next_ok hvalh.out hp hz1h.out hzl1h.out)
          clear hop
          obtain ⟨cA0, cA1, cA2⟩ := cells3 bA_11
          have lA := heap_lt bA_11
          obtain ⟨cM0, cM1, cM2, cM3⟩ := cells4 bM_11
          have lM := heap_lt bM_11
          go_wp2_with fail
          clear cA0 cA1 cA2 lA cM0 cM1 cM2 cM3 lM
          refine (StepM2.implA wr w.heap.size w1.heap.size lo hi _ _ _ _ _ _ p xa xb yr2 ya2 x yb2 oC_11.out.1 oC_11.out.2.1 oC_11.out.2.2 (by omega) oM_11.out (by omega) (by omega) (by omega) (by omega) hL4h.out hvalh.out hz1h.out hzl1h.out).mono ?_
          rintro e w12 ⟨vrN, vaN, vbN, veN, pN, qN, rN, sN, rfl, hn12, hON, hEN, f1, f2, f3, f4, f5⟩
          have hfr12 := LawR.one_kp hfr11 hn12 (fun b e => by exact e.elim)
          clear hfr11
          have z12 := hn12.size
          have bA_12 := hn12.bk bA_11
          have bX_12 := hn12.bk bX_11
          have bM_12 := hn12.bk bM_11
          have oC_12 := Lib.hid ((⟨oC_11.out.1.new (by omega) hn12, oC_11.out.2.1.new (by omega) hn12, oC_11.out.2.2.new (by omega) hn12⟩ : _ ∧ _ ∧ _))
          have oX_12 := Lib.hid (oX_11.out.new (by omega) hn12)
          have oEX_12 := Lib.hid (oEX_11.out.new (by omega) hn12)
          have oM_12 := Lib.hid (oM_11.out.new (by omega) hn12)
          have oE_12 := Lib.hid (oE_11.out.new hn12)
          have N12 : New w w12 := N11.trans hn12
          clear bA_11 bX_11 bM_11 oC_11 oX_11 oEX_11 oM_11 oE_11 N11 hn12
          obtain ⟨⟨arN, drN, rfl⟩, ⟨aaN, daN, rfl⟩, abN, dbN, rfl⟩ := StartM.lens3 hON
          obtain ⟨aeN, deN, rfl, _⟩ := hEN.reads.len
          have oN_12 := Lib.hid hON
          have oEN_12 := Lib.hid hEN
          clear hON hEN
          obtain ⟨hn13, y13, bN_13⟩ := newb w12 (.cells #[.int .i64 z1.pc, .slice arN z1.r.length drN, .slice aaN z1.v.length daN, .slice abN z1.a.length dbN] 38)
          go_upto_region 15 with fail
          generalize hbN : w12.heap.size = bN at bN_13 y13 ⊢
          generalize (w12.alloc (.cells #[.int .i64 z1.pc, .slice arN z1.r.length drN, .slice aaN z1.v.length daN, .slice abN z1.a.length dbN] 38)) = w13 at *
          have hfr13 := LawR.one_kp hfr12 hn13 (fun b e => by exact e.elim)
          clear hfr12
          have z13 := hn13.size
          have bA_13 := hn13.bk bA_12
          have bX_13 := hn13.bk bX_12
          have bM_13 := hn13.bk bM_12
          have oC_13 := Lib.hid ((⟨oC_12.out.1.new (by omega) hn13, oC_12.out.2.1.new (by omega) hn13, oC_12.out.2.2.new (by omega) hn13⟩ : _ ∧ _ ∧ _))
          have oX_13 := Lib.hid (oX_12.out.new (by omega) hn13)
          have oEX_13 := Lib.hid (oEX_12.out.new (by omega) hn13)
          have oM_13 := Lib.hid (oM_12.out.new (by omega) hn13)
          have oE_13 := Lib.hid (oE_12.out.new hn13)
          have oN_13 := Lib.hid (oN_12.out.new (by omega) hn13)
          have oEN_13 := Lib.hid (oEN_12.out.new (by omega) hn13)
          have N13 : New w w13 := N12.trans hn13
          clear bA_12 bX_12 bM_12 oC_12 oX_12 oEX_12 oM_12 oE_12 oN_12 oEN_12 N12 hn13
          obtain ⟨eb, hebs, heb⟩ := LawR.own_in (v := .slice a m dd) (e := w13.heap.size) (Q := fun b => (b < lo ∨ hi ≤ b) ∧ b ≠ bM ∧ w10.heap.size ≤ b ∧ b < wr.heap.size) (fun b hb => ⟨(hoffh.out b hb).1, (hoffh.out b hb).2, hElt.out b hb⟩)
          have hebf : (eb < lo ∨ hi ≤ eb) ∧ eb ≠ bM ∧ w10.heap.size ≤ eb ∧ (eb < wr.heap.size ∨ w13.heap.size ≤ eb) := by
            rcases heb with ⟨h1, h2, h3, h4⟩ | h
            · exact ⟨h1, h2, h3, .inl h4⟩
            · subst h; omega
          obtain ⟨heb1, heb2, heb3, heb4⟩ := hebf
          clear heb
          have hzl12 := hnx.out.2.2
          go_wp2_with (at_builtin; refine wpList_pushesN rfl _ _ 32 rfl w10.heap.size 68 _ 16 Try.underlying32 StepK.infoE rfl (by decide) (.slice a m dd) tl rfl oE_13.out _ zl1 rfl oEN_13.out.reads (fun q _ => oneE q) (by have := hmh.out; omega) (by have := hmh.out; omega) (by omega) ?_)
          intro v5 w14 hv5 hk5 ha5
          have hk14 : Kp (fun b => b = eb) w13 w14 := hk5.mono fun b _ e => hebs b e
          have oF := Lib.hid hv5
          obtain ⟨a5, d5, e5, _⟩ := hv5.reads.len
          have hm5 : (tl ++ zl1).length = m + zl1.length := by rw [List.length_append, hmh.out]
          rw [hm5] at e5
          subst e5
          have hm5h := Lib.hid hm5
          have ha5h := Lib.hid ha5
          have hoff5 := Lib.hid (show ∀ b, (Value.slice a5 (m + zl1.length) d5).ownBlock = some b → (b < pN ∨ qN ≤ b) ∧ b ≠ bM from fun b hb => by
            rcases ha5 with q | q
            · have := hebs b (q ▸ hb); omega
            · rw [q] at hb; cases hb; omega)
          clear hv5 hk5 ha5 hm5 oE_13
          have hfr14 := LawR.one_kp hfr13 hk14 (fun b e => by omega)
          clear hfr13
          have z14 := hk14.size
          have bA_14 := hk14.bo bA_13
          have bX_14 := hk14.bo bX_13
          have bM_14 := hk14.bo bM_13
          have bN_14 := hk14.bo bN_13
          have oC_14 := Lib.hid ((⟨oC_13.out.1.kp hk14 (by omega) (fun b e => by omega), oC_13.out.2.1.kp hk14 (by omega) (fun b e => by omega), oC_13.out.2.2.kp hk14 (by omega) (fun b e => by omega)⟩ : _ ∧ _ ∧ _))
          have oX_14 := Lib.hid (oX_13.out.kp hk14 (fun b e => by omega))
          have oEX_14 := Lib.hid (oEX_13.out.kp hk14 (fun b e => by omega))
          have oM_14 := Lib.hid (oM_13.out.kp hk14 (fun b e => by omega))
          have oN_14 := Lib.hid (oN_13.out.kp hk14 (fun b e => by omega))
          have oEN_14 := Lib.hid (oEN_13.out.kp hk14 (fun b e => by omega))
          have N14 : New w w14 := New.on N13 hk14 (fun b e => by omega)
          clear bA_13 bX_13 bM_13 bN_13 oC_13 oX_13 oEX_13 oM_13 oN_13 oEN_13 N13 hk14
          have oE_14 := oF
          clear oF
          obtain ⟨cA0, cA1, cA2⟩ := cells3 bA_14
          have lA := heap_lt bA_14
          obtain ⟨cN0, cN1, cN2, cN3⟩ := cells4 bN_14
          have lN := heap_lt bN_14
          go_wp2_with fail
          clear cA0 cA1 cA2 lA cN0 cN1 cN2 cN3 lN
          refine (MachV.implV (xa := xa) (xb := xb) (x := x) (pc := z1.pc) (yr := z1.r) (ya := z1.v) (yb := z1.a) oC_14.out.1 oC_14.out.2.1 oC_14.out.2.2 oN_14.out.reads.1 oN_14.out.reads.2.1 oN_14.out.reads.2.2 (by omega) (by omega)).mono ?_
          rintro e w15 ⟨rfl, hn15⟩
          have hfr15 := LawR.one_kp hfr14 hn15 (fun b e => by exact e.elim)
          clear hfr14
          have z15 := hn15.size
          have bA_15 := hn15.bk bA_14
          have bX_15 := hn15.bk bX_14
          have bM_15 := hn15.bk bM_14
          have bN_15 := hn15.bk bN_14
          have oC_15 := Lib.hid ((⟨oC_14.out.1.new (by omega) hn15, oC_14.out.2.1.new (by omega) hn15, oC_14.out.2.2.new (by omega) hn15⟩ : _ ∧ _ ∧ _))
          have oX_15 := Lib.hid (oX_14.out.new (by omega) hn15)
          have oEX_15 := Lib.hid (oEX_14.out.new (by omega) hn15)
          have oM_15 := Lib.hid (oM_14.out.new (by omega) hn15)
          have oN_15 := Lib.hid (oN_14.out.new (by omega) hn15)
          have oEN_15 := Lib.hid (oEN_14.out.new (by omega) hn15)
          have oE_15 := Lib.hid (oE_14.out.new hn15)
          have N15 : New w w15 := N14.trans hn15
          clear bA_14 bX_14 bM_14 bN_14 oC_14 oX_14 oEX_14 oM_14 oN_14 oEN_14 oE_14 N14 hn15
          rw [hnx.out.1]
          obtain ⟨p2, hp2, hpl⟩ := hnx.out.2.1
          obtain ⟨cN0, cN1, cN2, cN3⟩ := cells4 bN_15
          have lN := heap_lt bN_15
          obtain ⟨cM0, cM1, cM2, cM3⟩ := cells4 bM_15
          have fM := frozen_of_heap bM_15
          have lM := heap_lt bM_15
          have hk16 : Kp (fun b => b = bM) w15 ((((w15.setCell ⟨bM, 0, none⟩ (.int .i64 z1.pc)).setCell ⟨bM, 1, none⟩ (.slice arN z1.r.length drN)).setCell ⟨bM, 2, none⟩ (.slice aaN z1.v.length daN)).setCell ⟨bM, 3, none⟩ (.slice abN z1.a.length dbN)) := (((((Kp.refl (fun b => b = bM) _).setCell (.inl rfl) _).setCell (.inl rfl) _).setCell (.inl rfl) _).setCell (.inl rfl) _)
          have hkz := hk16.size
          have bMz : ((((w15.setCell ⟨bM, 0, none⟩ (.int .i64 z1.pc)).setCell ⟨bM, 1, none⟩ (.slice arN z1.r.length drN)).setCell ⟨bM, 2, none⟩ (.slice aaN z1.v.length daN)).setCell ⟨bM, 3, none⟩ (.slice abN z1.a.length dbN)).heap[bM]? = some (.cells #[.int .i64 z1.pc, .slice arN z1.r.length drN, .slice aaN z1.v.length daN, .slice abN z1.a.length dbN] 38 (0, 0)) := (setCell_heap (setCell_heap (setCell_heap (setCell_heap bM_15 _) _) _) _)
          skip
          have hIn : Hid (LawR.Inv x xa xb z zl bM w10 (.slice a5 (m + zl1.length) d5) (.int .i64 ((k + 1 : Nat) : Int)) ((((w15.setCell ⟨bM, 0, none⟩ (.int .i64 z1.pc)).setCell ⟨bM, 1, none⟩ (.slice arN z1.r.length drN)).setCell ⟨bM, 2, none⟩ (.slice aaN z1.v.length daN)).setCell ⟨bM, 3, none⟩ (.slice abN z1.a.length dbN))) := Lib.hid ⟨k + 1, p2, m + zl1.length, d5, pN, qN, a5, _, _, _, z1.r, z1.v, z1.a, tl ++ zl1, rfl, rfl, hm5h.out, LawR.one_kp hfr15 hk16 (fun b e => by omega), oE_15.out.kb hk16 (fun b e => by omega), by have := hnx.out.2.2; omega, by have := hnnh.out; omega, by have := hnx.out.2.2; omega, by rw [show 20000 - (k + 1) = nn by have := hnnh.out; omega, ← hp2]; exact hend.out, hpl, by rw [← hp2]; exact hnx.out.1, by rw [← hp2]; exact bMz, oN_15.out.kp hk16 (fun b e => by omega), by omega, by omega, fun b hb => hoff5.out b hb⟩
          have hp2h := Lib.hid hp2
          go_wp2
          go_roundw
          case rel => rw [show ((k + 1 : Nat) : Int) = (k : Int) + 1 by omega, hp2h.out] at hIn; exact hIn
          case measure => have := hnnh.out; simp [intOf]; omega
set_option maxRecDepth 100000 in
theorem lifted (os : Os) (started : os.Started) (H : Type) (enc : TypeId × Value → H) :
    ReturnsInHanded {} Try.checked os 3 .any (Rows.fnRunCodeSpec.pre6 enc Try.prog Try.f3 Rows.fnRunCodeRow.domain false) (Rows.fnRunCodeSpec.post enc Try.prog Try.f3 false true false false) := by
  refine returnsInHanded_of_change (C := Try.checked) own started (by kernel_rfl) Try.func3
    (ChangeSpec.witness6 (enc := enc) (C := Try.checked) false ⟨#[], #[.slice none 0 0], []⟩ 8 (by kernel_rfl) (by kernel_rfl) (by kernel_rfl) (by kernel_rfl)) ?_
  intro W base args ds gs before hval0 hW hcnd _
  have hval : ∀ (j : Nat) t v, Try.f3.params[j]? = some t → args[j]? = some v → Value.okWide Try.prog W .any base t v := hval0
  have hW' := hW
  obtain ⟨p, q, hA0, hV, rfl, hfz, hnd⟩ := hW
  have hA : DataW.TrodAll enc Try.prog W 0 (fun _ => true) true Try.f3.params.toList args.toList ds p := hA0
  rw [Try.params3] at hA hval
  obtain ⟨v0, vs0, d0, ds0, p0, q0, hargs, rfl, rfl, h0, r0⟩ := trodAll_cons hA
  obtain ⟨rfl, rfl, rfl⟩ := trodAll_nil r0
  obtain rfl : args = #[v0] := by cases args; simp_all
  obtain ⟨rfl, rfl⟩ := trodVars_none hV
  have kk0 := h0
  have lt0 : ∀ x ∈ p0, x.block < W.heap.size := by obtain ⟨m, hm⟩ := kk0; exact DataW.trod_lt m _ _ _ hm
  obtain ⟨a0, l0, c0, rfl, s0⟩ := Kit.open_bytes Try.underlying22 Try.underlying5 (by kernel_rfl) (hval 0 22 v0 rfl rfl) h0
  clear hA0 hval0
  refine (walk a0 l0 c0 W s0).mono fun e W' ⟨he, bel⟩ => ?_
  subst he
  exact ⟨_, rfl, _, _, _, [], _, [], hW', trodAll_mk1 (shut_bool Try.underlying4 _), (trodAll_cons_mk (Below.trod laidOut (by kernel_rfl) (of_decide_eq_true (by kernel_rfl)) kk0 bel lt0) trodAll_mk0), rfl, bel.frame _, fun h => by cases h⟩
theorem over : Rows.fnRunCodeRow.holds Try.pinned (OpenSpec.ofChange Rows.fnRunCodeSpec) :=
  OpenClaim.holds_of_wide 3 Try.f3 rfl rfl rfl rfl rfl rfl rfl ⟨rfl, rfl, rfl, rfl, rfl⟩ rfl rfl rfl rfl rfl (by kernel_rfl) Try.func3 (by kernel_rfl)
    (of_decide_eq_true (by kernel_rfl)) (by unfold Func.isWrapper; first | (rw [if_pos (by decide +kernel)]; kernel_rfl) | (rw [if_neg (by decide +kernel)]; exact ⟨rfl, rfl⟩))
    (fun os started H enc _ => lifted os started H enc)
theorem proved : Rows.FnRunCodeSaid := over
#print axioms proved
end Go.Proofs.Ytbicpkmlionldaa.fnRunCode
