/- FnRunDeterministic: for every input the law returns true, and the arguments read as they did. No conditions. -/
import Derived.Test.YtljokgoghphgdaaRows
import Derived.Test.YtljokgoghphgdaaWDrawA
import Derived.Test.YtljokgoghphgdaaWP8
import Derived.Test.YtljokgoghphgdaaWP6
import Derived.Test.YtljokgoghphgdaaWDiff
import Derived.Test.YtljokgoghphgdaaWCt
import Derived.Test.YtljokgoghphgdaaWLawS
import Derived.Test.YtljokgoghphgdaaWP1
import Derived.WalkKit
import Derived.ProofKit
import Derived.OpenShut
import Derived.ShutString
import Derived.ChangeOld
import Derived.Below
namespace Go.Proofs.Ytljokgoghphgdaa.fnRunDeterministic
open Go.ChangeShapes Go.WideShapes Go.ChangeAt Go.RowKit Kit MarkC
open Go.ChangeMaps (open_string shut_string)
set_option linter.unusedVariables false
theorem own : ownKnob Try.prog.godebug = none := by kernel_rfl
theorem laidOut : laidOutB Try.prog = true := by kernel_rfl
set_option maxHeartbeats 1000000 in
theorem walk (a0 : Option Addr) (l0 c0 : Nat) (w : World) (s0 : Kit.Src w a0 l0 c0) :
    Calls Try.prog 4 #[.slice a0 l0 c0] w fun e w' => e = .returned (.bool true) ∧ Below w.heap.size w w' := by
  by_cases hl : 1048576 < l0
  · go_enter Try.func4, Try.ntmps4
    go_wp2
    go_ret
    exact ⟨rfl, Below.refl _ _⟩
  · go_enter Try.func4, Try.ntmps4
    go_wp2_with fail
    refine (DrawA.drawStep _ a0 l0 c0 s0).mono ?_
    rintro e w1 ⟨a1, a2, a3, d1, d2, d3, xa, xb, x, pc, vr, va, vb, yr, ya, yb, rfl, N1, hC, hO, hxa, hxb, hx, hyr, hya, hyb, hr, hpc0, hpc1⟩
    obtain ⟨⟨ar, dr, rfl⟩, ⟨aa, da, rfl⟩, ab, db, rfl⟩ := StartM.lens3 hO
    have oS_1 := Lib.hid hO
    have hrh := Lib.hid hr
    clear hO hr
    have oC_1 := Lib.hid hC
    clear hC
    have zw := N1.size
    have hn2 : New w1 ((w1.alloc (.cells #[.slice a1 xa.length d1, .slice a2 xb.length d2, .slice a3 x.length d3] 26)).alloc (.cells #[.int .i64 pc, .slice ar yr.length dr, .slice aa ya.length da, .slice ab yb.length db] 31)) := ((Kp.refl _ _).alloc _).alloc _
    have bA_2 : ((w1.alloc (.cells #[.slice a1 xa.length d1, .slice a2 xb.length d2, .slice a3 x.length d3] 26)).alloc (.cells #[.int .i64 pc, .slice ar yr.length dr, .slice aa ya.length da, .slice ab yb.length db] 31)).heap[w1.heap.size]? = some (.cells #[.slice a1 xa.length d1, .slice a2 xb.length d2, .slice a3 x.length d3] 26) := heap_old (alloc_heap _ _)
    have bB_2 : ((w1.alloc (.cells #[.slice a1 xa.length d1, .slice a2 xb.length d2, .slice a3 x.length d3] 26)).alloc (.cells #[.int .i64 pc, .slice ar yr.length dr, .slice aa ya.length da, .slice ab yb.length db] 31)).heap[w1.heap.size + 1]? = some (.cells #[.int .i64 pc, .slice ar yr.length dr, .slice aa ya.length da, .slice ab yb.length db] 31) := heap_at (by simp)
    have y2 : w1.heap.size + 1 < ((w1.alloc (.cells #[.slice a1 xa.length d1, .slice a2 xb.length d2, .slice a3 x.length d3] 26)).alloc (.cells #[.int .i64 pc, .slice ar yr.length dr, .slice aa ya.length da, .slice ab yb.length db] 31)).heap.size := by simp
    go_upto_region 4 with fail
    generalize ((w1.alloc (.cells #[.slice a1 xa.length d1, .slice a2 xb.length d2, .slice a3 x.length d3] 26)).alloc (.cells #[.int .i64 pc, .slice ar yr.length dr, .slice aa ya.length da, .slice ab yb.length db] 31)) = w2 at *
    have z2 := hn2.size
    have oC_2 := Lib.hid ((⟨oC_1.out.1.new (by omega) hn2, oC_1.out.2.1.new (by omega) hn2, oC_1.out.2.2.new (by omega) hn2⟩ : _ ∧ _ ∧ _))
    have oS_2 := Lib.hid (oS_1.out.new (by omega) hn2)
    have N2 : New w w2 := N1.trans hn2
    clear oC_1 oS_1 N1 hn2
    have hb : ∀ y ∈ yb, y.length ≤ 1099511627776 := fun y hy => by have := hrh.out y hy; omega
    have hbh := Lib.hid hb
    clear hb
    obtain ⟨t, ht⟩ : ∃ t, Val.machB xa xb x pc yr ya yb = t := ⟨_, rfl⟩
    obtain ⟨z, hz⟩ : ∃ z, RunP.out t (Step.eff (RunP.ins x pc) ⟨pc, yr, ya, yb⟩).1 = z := ⟨_, rfl⟩
    obtain ⟨zl, hzl⟩ : ∃ zl, Rec.pk t ((5, pc) :: (Step.eff (RunP.ins x pc) ⟨pc, yr, ya, yb⟩).2) = zl := ⟨_, rfl⟩
    have hth := Lib.hid ht
    have hzh := Lib.hid hz
    have hzlh := Lib.hid hzl
    clear ht hz hzl
    obtain ⟨cA0, cA1, cA2⟩ := cells3 bA_2
    have lA := heap_lt bA_2
    obtain ⟨cB0, cB1, cB2, cB3⟩ := cells4 bB_2
    have lB := heap_lt bB_2
    go_wp2_with fail
    clear cA0 cA1 cA2 lA cB0 cB1 cB2 cB3 lB
    refine (StepM2.implA w2 w.heap.size w1.heap.size w.heap.size w1.heap.size _ _ _ _ _ _ pc xa xb yr ya x yb oC_2.out.1 oC_2.out.2.1 oC_2.out.2.2 (by omega) oS_2.out (by omega) (by omega) (by omega) (by omega) hbh.out hth.out hzh.out hzlh.out).mono ?_
    rintro e w3 ⟨vrX, vaX, vbX, veX, pX, qX, rX, sX, rfl, hn3, hOX, hEX, g1X, g2X, g3X, g4X, g5X⟩
    have z3 := hn3.size
    have bA_3 := hn3.bk bA_2
    have bB_3 := hn3.bk bB_2
    have oC_3 := Lib.hid ((⟨oC_2.out.1.new (by omega) hn3, oC_2.out.2.1.new (by omega) hn3, oC_2.out.2.2.new (by omega) hn3⟩ : _ ∧ _ ∧ _))
    have oS_3 := Lib.hid (oS_2.out.new (by omega) hn3)
    have N3 : New w w3 := N2.trans hn3
    clear bA_2 bB_2 oC_2 oS_2 N2 hn3
    obtain ⟨⟨arX, drX, rfl⟩, ⟨aaX, daX, rfl⟩, abX, dbX, rfl⟩ := StartM.lens3 hOX
    obtain ⟨aeX, deX, rfl, _⟩ := hEX.reads.len
    have oX_3 := Lib.hid hOX
    have oEX_3 := Lib.hid hEX
    clear hOX hEX
    obtain ⟨hn4, y4, bX_4⟩ := newb w3 (.cells #[.int .i64 z.pc, .slice arX z.r.length drX, .slice aaX z.v.length daX, .slice abX z.a.length dbX] 31)
    go_upto_region 5 with fail
    generalize hbX : w3.heap.size = bX at bX_4 y4 ⊢
    generalize (w3.alloc (.cells #[.int .i64 z.pc, .slice arX z.r.length drX, .slice aaX z.v.length daX, .slice abX z.a.length dbX] 31)) = w4 at *
    have z4 := hn4.size
    have bA_4 := hn4.bk bA_3
    have bB_4 := hn4.bk bB_3
    have oC_4 := Lib.hid ((⟨oC_3.out.1.new (by omega) hn4, oC_3.out.2.1.new (by omega) hn4, oC_3.out.2.2.new (by omega) hn4⟩ : _ ∧ _ ∧ _))
    have oS_4 := Lib.hid (oS_3.out.new (by omega) hn4)
    have oX_4 := Lib.hid (oX_3.out.new (by omega) hn4)
    have oEX_4 := Lib.hid (oEX_3.out.new (by omega) hn4)
    have N4 : New w w4 := N3.trans hn4
    clear bA_3 bB_3 oC_3 oS_3 oX_3 oEX_3 N3 hn4
    obtain ⟨cA0, cA1, cA2⟩ := cells3 bA_4
    have lA := heap_lt bA_4
    obtain ⟨cB0, cB1, cB2, cB3⟩ := cells4 bB_4
    have lB := heap_lt bB_4
    go_wp2_with fail
    clear cA0 cA1 cA2 lA cB0 cB1 cB2 cB3 lB
    refine (StepM2.specA w4 w.heap.size w1.heap.size w.heap.size w1.heap.size _ _ _ _ _ _ pc xa xb yr ya x yb oC_4.out.1 oC_4.out.2.1 oC_4.out.2.2 (by omega) oS_4.out.reads.1 oS_4.out.reads.2.1 oS_4.out.reads.2.2 (by omega) (by omega) (by omega) (by omega) hbh.out hth.out hzh.out hzlh.out).mono ?_
    rintro e w5 ⟨vrY, vaY, vbY, veY, pY, qY, rY, sY, rfl, hn5, hOY, hEY, g1Y, g2Y, g3Y, g4Y, g5Y⟩
    have z5 := hn5.size
    have bA_5 := hn5.bk bA_4
    have bB_5 := hn5.bk bB_4
    have bX_5 := hn5.bk bX_4
    have oC_5 := Lib.hid ((⟨oC_4.out.1.new (by omega) hn5, oC_4.out.2.1.new (by omega) hn5, oC_4.out.2.2.new (by omega) hn5⟩ : _ ∧ _ ∧ _))
    have oS_5 := Lib.hid (oS_4.out.new (by omega) hn5)
    have oX_5 := Lib.hid (oX_4.out.new (by omega) hn5)
    have oEX_5 := Lib.hid (oEX_4.out.new (by omega) hn5)
    have N5 : New w w5 := N4.trans hn5
    clear bA_4 bB_4 bX_4 oC_4 oS_4 oX_4 oEX_4 N4 hn5
    obtain ⟨⟨arY, drY, rfl⟩, ⟨aaY, daY, rfl⟩, abY, dbY, rfl⟩ := StartM.lens3 hOY
    obtain ⟨aeY, deY, rfl, _⟩ := hEY.reads.len
    have oY_5 := Lib.hid hOY
    have oEY_5 := Lib.hid hEY
    clear hOY hEY
    obtain ⟨hn6, y6, bY_6⟩ := newb w5 (.cells #[.int .i64 z.pc, .slice arY z.r.length drY, .slice aaY z.v.length daY, .slice abY z.a.length dbY] 31)
    go_upto_region 6 with fail
    generalize hbY : w5.heap.size = bY at bY_6 y6 ⊢
    generalize (w5.alloc (.cells #[.int .i64 z.pc, .slice arY z.r.length drY, .slice aaY z.v.length daY, .slice abY z.a.length dbY] 31)) = w6 at *
    have z6 := hn6.size
    have bA_6 := hn6.bk bA_5
    have bB_6 := hn6.bk bB_5
    have bX_6 := hn6.bk bX_5
    have oC_6 := Lib.hid ((⟨oC_5.out.1.new (by omega) hn6, oC_5.out.2.1.new (by omega) hn6, oC_5.out.2.2.new (by omega) hn6⟩ : _ ∧ _ ∧ _))
    have oS_6 := Lib.hid (oS_5.out.new (by omega) hn6)
    have oX_6 := Lib.hid (oX_5.out.new (by omega) hn6)
    have oEX_6 := Lib.hid (oEX_5.out.new (by omega) hn6)
    have oY_6 := Lib.hid (oY_5.out.new (by omega) hn6)
    have oEY_6 := Lib.hid (oEY_5.out.new (by omega) hn6)
    have N6 : New w w6 := N5.trans hn6
    clear bA_5 bB_5 bX_5 oC_5 oS_5 oX_5 oEX_5 oY_5 oEY_5 N5 hn6
    have htt : (t != t) = false := by simp
    cases t
    · clear htt
      obtain ⟨cX0, cX1, cX2, cX3⟩ := cells4 bX_6
      have lX := heap_lt bX_6
      obtain ⟨cY0, cY1, cY2, cY3⟩ := cells4 bY_6
      have lY := heap_lt bY_6
      go_wp2_with fail
      clear cX0 cX1 cX2 cX3 lX cY0 cY1 cY2 cY3 lY
      refine (SameS.implSame w6 _ _ _ _ z.pc z.pc _ _ _ _ _ _ z.r z.v z.r z.v z.a z.a oX_6.out.reads.1 oX_6.out.reads.2.1 oX_6.out.reads.2.2 oY_6.out.reads.1 oY_6.out.reads.2.1 oY_6.out.reads.2.2 (by omega) (by omega)).mono ?_
      rintro e w7 ⟨rfl, hn7⟩
      have z7 := hn7.size
      have bA_7 := hn7.bk bA_6
      have bB_7 := hn7.bk bB_6
      have bX_7 := hn7.bk bX_6
      have bY_7 := hn7.bk bY_6
      have oC_7 := Lib.hid ((⟨oC_6.out.1.new (by omega) hn7, oC_6.out.2.1.new (by omega) hn7, oC_6.out.2.2.new (by omega) hn7⟩ : _ ∧ _ ∧ _))
      have oS_7 := Lib.hid (oS_6.out.new (by omega) hn7)
      have oX_7 := Lib.hid (oX_6.out.new (by omega) hn7)
      have oEX_7 := Lib.hid (oEX_6.out.new (by omega) hn7)
      have oY_7 := Lib.hid (oY_6.out.new (by omega) hn7)
      have oEY_7 := Lib.hid (oEY_6.out.new (by omega) hn7)
      have N7 : New w w7 := N6.trans hn7
      clear bA_6 bB_6 bX_6 bY_6 oC_6 oS_6 oX_6 oEX_6 oY_6 oEY_6 N6 hn7
      have hs : (z.pc == z.pc && (decide (z.r = z.r) && (decide (z.v = z.v) && decide (z.a = z.a)))) = true := by simp
      rw [hs]
      clear hs
      go_wp2_with fail
      refine (Diff.implSame w7 _ _ _ _ _ _ zl zl oEX_7.out.reads oEY_7.out.reads).mono ?_
      rintro e w8 ⟨rfl, hn8⟩
      have z8 := hn8.size
      have bA_8 := hn8.bk bA_7
      have bB_8 := hn8.bk bB_7
      have bX_8 := hn8.bk bX_7
      have bY_8 := hn8.bk bY_7
      have oC_8 := Lib.hid ((⟨oC_7.out.1.new (by omega) hn8, oC_7.out.2.1.new (by omega) hn8, oC_7.out.2.2.new (by omega) hn8⟩ : _ ∧ _ ∧ _))
      have oS_8 := Lib.hid (oS_7.out.new (by omega) hn8)
      have oX_8 := Lib.hid (oX_7.out.new (by omega) hn8)
      have oEX_8 := Lib.hid (oEX_7.out.new (by omega) hn8)
      have oY_8 := Lib.hid (oY_7.out.new (by omega) hn8)
      have oEY_8 := Lib.hid (oEY_7.out.new (by omega) hn8)
      have N8 : New w w8 := N7.trans hn8
      clear bA_7 bB_7 bX_7 bY_7 oC_7 oS_7 oX_7 oEX_7 oY_7 oEY_7 N7 hn8
      have hs : decide (zl = zl) = true := by simp
      rw [hs]
      clear hs
      obtain ⟨cX0, cX1, cX2, cX3⟩ := cells4 bX_8
      have lX := heap_lt bX_8
      obtain ⟨cY0, cY1, cY2, cY3⟩ := cells4 bY_8
      have lY := heap_lt bY_8
      go_wp2_with fail
      clear cX0 cX1 cX2 cX3 lX cY0 cY1 cY2 cY3 lY
      refine (SameS.implSame w8 _ _ _ _ z.pc z.pc _ _ _ _ _ _ z.r z.v z.r z.v z.a z.a oX_8.out.reads.1 oX_8.out.reads.2.1 oX_8.out.reads.2.2 oY_8.out.reads.1 oY_8.out.reads.2.1 oY_8.out.reads.2.2 (by omega) (by omega)).mono ?_
      rintro e w9 ⟨rfl, hn9⟩
      have z9 := hn9.size
      have bA_9 := hn9.bk bA_8
      have bB_9 := hn9.bk bB_8
      have bX_9 := hn9.bk bX_8
      have bY_9 := hn9.bk bY_8
      have oC_9 := Lib.hid ((⟨oC_8.out.1.new (by omega) hn9, oC_8.out.2.1.new (by omega) hn9, oC_8.out.2.2.new (by omega) hn9⟩ : _ ∧ _ ∧ _))
      have oS_9 := Lib.hid (oS_8.out.new (by omega) hn9)
      have oX_9 := Lib.hid (oX_8.out.new (by omega) hn9)
      have oEX_9 := Lib.hid (oEX_8.out.new (by omega) hn9)
      have oY_9 := Lib.hid (oY_8.out.new (by omega) hn9)
      have oEY_9 := Lib.hid (oEY_8.out.new (by omega) hn9)
      have N9 : New w w9 := N8.trans hn9
      clear bA_8 bB_8 bX_8 bY_8 oC_8 oS_8 oX_8 oEX_8 oY_8 oEY_8 N8 hn9
      have hs : (z.pc == z.pc && (decide (z.r = z.r) && (decide (z.v = z.v) && decide (z.a = z.a)))) = true := by simp
      rw [hs]
      clear hs
      go_wp2_with fail
      refine (Diff.implSame w9 _ _ _ _ _ _ zl zl oEX_9.out.reads oEY_9.out.reads).mono ?_
      rintro e w10 ⟨rfl, hn10⟩
      have z10 := hn10.size
      have bA_10 := hn10.bk bA_9
      have bB_10 := hn10.bk bB_9
      have bX_10 := hn10.bk bX_9
      have bY_10 := hn10.bk bY_9
      have oC_10 := Lib.hid ((⟨oC_9.out.1.new (by omega) hn10, oC_9.out.2.1.new (by omega) hn10, oC_9.out.2.2.new (by omega) hn10⟩ : _ ∧ _ ∧ _))
      have oS_10 := Lib.hid (oS_9.out.new (by omega) hn10)
      have oX_10 := Lib.hid (oX_9.out.new (by omega) hn10)
      have oEX_10 := Lib.hid (oEX_9.out.new (by omega) hn10)
      have oY_10 := Lib.hid (oY_9.out.new (by omega) hn10)
      have oEY_10 := Lib.hid (oEY_9.out.new (by omega) hn10)
      have N10 : New w w10 := N9.trans hn10
      clear bA_9 bB_9 bX_9 bY_9 oC_9 oS_9 oX_9 oEX_9 oY_9 oEY_9 N9 hn10
      have hs : decide (zl = zl) = true := by simp
      rw [hs]
      clear hs
      go_wp2
      go_ret
      exact ⟨rfl, N10.toBelow⟩
    · clear htt
      obtain ⟨cX0, cX1, cX2, cX3⟩ := cells4 bX_6
      have lX := heap_lt bX_6
      obtain ⟨cY0, cY1, cY2, cY3⟩ := cells4 bY_6
      have lY := heap_lt bY_6
      go_wp2_with fail
      clear cX0 cX1 cX2 cX3 lX cY0 cY1 cY2 cY3 lY
      refine (SameS.implSame w6 _ _ _ _ z.pc z.pc _ _ _ _ _ _ z.r z.v z.r z.v z.a z.a oX_6.out.reads.1 oX_6.out.reads.2.1 oX_6.out.reads.2.2 oY_6.out.reads.1 oY_6.out.reads.2.1 oY_6.out.reads.2.2 (by omega) (by omega)).mono ?_
      rintro e w7 ⟨rfl, hn7⟩
      have z7 := hn7.size
      have bA_7 := hn7.bk bA_6
      have bB_7 := hn7.bk bB_6
      have bX_7 := hn7.bk bX_6
      have bY_7 := hn7.bk bY_6
      have oC_7 := Lib.hid ((⟨oC_6.out.1.new (by omega) hn7, oC_6.out.2.1.new (by omega) hn7, oC_6.out.2.2.new (by omega) hn7⟩ : _ ∧ _ ∧ _))
      have oS_7 := Lib.hid (oS_6.out.new (by omega) hn7)
      have oX_7 := Lib.hid (oX_6.out.new (by omega) hn7)
      have oEX_7 := Lib.hid (oEX_6.out.new (by omega) hn7)
      have oY_7 := Lib.hid (oY_6.out.new (by omega) hn7)
      have oEY_7 := Lib.hid (oEY_6.out.new (by omega) hn7)
      have N7 : New w w7 := N6.trans hn7
      clear bA_6 bB_6 bX_6 bY_6 oC_6 oS_6 oX_6 oEX_6 oY_6 oEY_6 N6 hn7
      have hs : (z.pc == z.pc && (decide (z.r = z.r) && (decide (z.v = z.v) && decide (z.a = z.a)))) = true := by simp
      rw [hs]
      clear hs
      go_wp2_with fail
      refine (Diff.implSame w7 _ _ _ _ _ _ zl zl oEX_7.out.reads oEY_7.out.reads).mono ?_
      rintro e w8 ⟨rfl, hn8⟩
      have z8 := hn8.size
      have bA_8 := hn8.bk bA_7
      have bB_8 := hn8.bk bB_7
      have bX_8 := hn8.bk bX_7
      have bY_8 := hn8.bk bY_7
      have oC_8 := Lib.hid ((⟨oC_7.out.1.new (by omega) hn8, oC_7.out.2.1.new (by omega) hn8, oC_7.out.2.2.new (by omega) hn8⟩ : _ ∧ _ ∧ _))
      have oS_8 := Lib.hid (oS_7.out.new (by omega) hn8)
      have oX_8 := Lib.hid (oX_7.out.new (by omega) hn8)
      have oEX_8 := Lib.hid (oEX_7.out.new (by omega) hn8)
      have oY_8 := Lib.hid (oY_7.out.new (by omega) hn8)
      have oEY_8 := Lib.hid (oEY_7.out.new (by omega) hn8)
      have N8 : New w w8 := N7.trans hn8
      clear bA_7 bB_7 bX_7 bY_7 oC_7 oS_7 oX_7 oEX_7 oY_7 oEY_7 N7 hn8
      have hs : decide (zl = zl) = true := by simp
      rw [hs]
      clear hs
      obtain ⟨p, rfl, hp, hoc, hok, -, -⟩ := RunP.mach_ok hth.out
      have hz1 : (Step.eff x[p] ⟨(p : Int), yr, ya, yb⟩).1 = z := by have := hzh.out; rw [RunP.ins_nat hp] at this; exact this
      have hz1h := Lib.hid hz1
      have hoch := Lib.hid hoc
      have hokh := Lib.hid hok
      have hvh := Lib.hid (hoc.view p hp)
      have hrl := hok.rl
      have hrl2 : yr.length = 14 := hrl
      have hwp : IntKind.i64.wrap ((p : Int) + 1) = (p : Int) + 1 := IntWalk.i64_in _ (by omega)
      clear hz1 hoc hok hrl
      obtain ⟨gb, go_, rfl, gl1, gl2, i0, i1, i2, i3, i4⟩ := InssR.at oC_8.out.2.2 p hp
      have hz2 := hz1h.out
      have hv := hvh.out
      have hzl2 := hzlh.out
      rw [RunP.ins_nat hp] at hzl2
      generalize x[p] = y at *
      by_cases h12 : y.op = 12
      · have he : z = ⟨(p : Int) + 1, yr, ya, yb⟩ := by rw [← hz2]; simp [Step.eff, h12]
        have hl1 : zl.length = 1 := by rw [← hzl2]; simp [Step.eff, h12, Rec.pk]
        have hr1 : z.r = yr := by rw [he]
        have hr2 : z.v = ya := by rw [he]
        have hr3 : z.a = yb := by rw [he]
        have hr4 : (z.pc == (p : Int) + 1) = true := by rw [he]; simp
        have hr1h := Lib.hid hr1
        have hr2h := Lib.hid hr2
        have hr3h := Lib.hid hr3
        have hl1h := Lib.hid hl1
        rw [h12] at i0
        clear hz2 hzl2 he h12 hv hr1 hr2 hr3 hl1 hrl2
        obtain ⟨cA0, cA1, cA2⟩ := cells3 bA_8
        have lA := heap_lt bA_8
        obtain ⟨cB0, cB1, cB2, cB3⟩ := cells4 bB_8
        have lB := heap_lt bB_8
        obtain ⟨cX0, cX1, cX2, cX3⟩ := cells4 bX_8
        have lX := heap_lt bX_8
        go_wp2_with fail
        clear cA0 cA1 cA2 lA cB0 cB1 cB2 cB3 lB cX0 cX1 cX2 cX3 lX
        refine (Ct.ctInts w8 _ _ _ _ _ _ z.r yr oX_8.out.reads.1 oS_8.out.reads.1).mono ?_
        rintro e wd ⟨rfl, kd, rfl⟩
        have hn9 : New w8 (w8.drewN kd) := drewN_kp _ kd (Kp.refl _ _)
        generalize w8.drewN kd = w9 at *
        have z9 := hn9.size
        have bA_9 := hn9.bk bA_8
        have bB_9 := hn9.bk bB_8
        have bX_9 := hn9.bk bX_8
        have bY_9 := hn9.bk bY_8
        have oC_9 := Lib.hid ((⟨oC_8.out.1.new (by omega) hn9, oC_8.out.2.1.new (by omega) hn9, oC_8.out.2.2.new (by omega) hn9⟩ : _ ∧ _ ∧ _))
        have oS_9 := Lib.hid (oS_8.out.new (by omega) hn9)
        have oX_9 := Lib.hid (oX_8.out.new (by omega) hn9)
        have oEX_9 := Lib.hid (oEX_8.out.new (by omega) hn9)
        have oY_9 := Lib.hid (oY_8.out.new (by omega) hn9)
        have oEY_9 := Lib.hid (oEY_8.out.new (by omega) hn9)
        have N9 : New w w9 := N8.trans hn9
        clear bA_8 bB_8 bX_8 bY_8 oC_8 oS_8 oX_8 oEX_8 oY_8 oEY_8 N8 hn9
        have hs : decide (z.r = yr) = true := by simp [hr1h.out]
        rw [hs]
        clear hs
        obtain ⟨cB0, cB1, cB2, cB3⟩ := cells4 bB_9
        have lB := heap_lt bB_9
        obtain ⟨cX0, cX1, cX2, cX3⟩ := cells4 bX_9
        have lX := heap_lt bX_9
        go_wp2_with fail
        clear cB0 cB1 cB2 cB3 lB cX0 cX1 cX2 cX3 lX
        refine (SameM.implSame w9 _ _ _ _ _ _ _ _ z.v z.a ya yb oX_9.out.reads.2.1 oX_9.out.reads.2.2 oS_9.out.reads.2.1 oS_9.out.reads.2.2 (by omega) (by omega)).mono ?_
        rintro e w10 ⟨rfl, hn10⟩
        have z10 := hn10.size
        have bA_10 := hn10.bk bA_9
        have bB_10 := hn10.bk bB_9
        have bX_10 := hn10.bk bX_9
        have bY_10 := hn10.bk bY_9
        have oC_10 := Lib.hid ((⟨oC_9.out.1.new (by omega) hn10, oC_9.out.2.1.new (by omega) hn10, oC_9.out.2.2.new (by omega) hn10⟩ : _ ∧ _ ∧ _))
        have oS_10 := Lib.hid (oS_9.out.new (by omega) hn10)
        have oX_10 := Lib.hid (oX_9.out.new (by omega) hn10)
        have oEX_10 := Lib.hid (oEX_9.out.new (by omega) hn10)
        have oY_10 := Lib.hid (oY_9.out.new (by omega) hn10)
        have oEY_10 := Lib.hid (oEY_9.out.new (by omega) hn10)
        have N10 : New w w10 := N9.trans hn10
        clear bA_9 bB_9 bX_9 bY_9 oC_9 oS_9 oX_9 oEX_9 oY_9 oEY_9 N9 hn10
        have hs : (decide (z.v = ya) && decide (z.a = yb)) = true := by simp [hr2h.out, hr3h.out]
        rw [hs]
        clear hs
        have hll : ((zl.length : Int) == 1) = true := by simp [hl1h.out]
        go_wp2
        go_ret
        exact ⟨rfl, N10.toBelow⟩
      · have h12b : (y.op != 12) = true := by simpa using h12
        clear hz2 hzl2 hv h12
        obtain ⟨cA0, cA1, cA2⟩ := cells3 bA_8
        have lA := heap_lt bA_8
        obtain ⟨cB0, cB1, cB2, cB3⟩ := cells4 bB_8
        have lB := heap_lt bB_8
        go_wp2
        go_ret
        exact ⟨rfl, N8.toBelow⟩
set_option maxRecDepth 100000 in
theorem lifted (os : Os) (started : os.Started) (H : Type) (enc : TypeId × Value → H) :
    ReturnsInHanded {} Try.checked os 4 .any (Rows.fnRunDeterministicSpec.pre6 enc Try.prog Try.f4 Rows.fnRunDeterministicRow.domain false) (Rows.fnRunDeterministicSpec.post enc Try.prog Try.f4 false true false false) := by
  refine returnsInHanded_of_change (C := Try.checked) own started (by kernel_rfl) Try.func4
    (ChangeSpec.witness6 (enc := enc) (C := Try.checked) false ⟨#[], #[.slice none 0 0], []⟩ 8 (by kernel_rfl) (by kernel_rfl) (by kernel_rfl) (by kernel_rfl)) ?_
  intro W base args ds gs before hval0 hW hcnd _
  have hval : ∀ (j : Nat) t v, Try.f4.params[j]? = some t → args[j]? = some v → Value.okWide Try.prog W .any base t v := hval0
  have hW' := hW
  obtain ⟨p, q, hA0, hV, rfl, hfz, hnd⟩ := hW
  have hA : DataW.TrodAll enc Try.prog W 0 (fun _ => true) true Try.f4.params.toList args.toList ds p := hA0
  rw [Try.params4] at hA hval
  obtain ⟨v0, vs0, d0, ds0, p0, q0, hargs, rfl, rfl, h0, r0⟩ := trodAll_cons hA
  obtain ⟨rfl, rfl, rfl⟩ := trodAll_nil r0
  obtain rfl : args = #[v0] := by cases args; simp_all
  obtain ⟨rfl, rfl⟩ := trodVars_none hV
  have kk0 := h0
  have lt0 : ∀ x ∈ p0, x.block < W.heap.size := by obtain ⟨m, hm⟩ := kk0; exact DataW.trod_lt m _ _ _ hm
  obtain ⟨a0, l0, c0, rfl, s0⟩ := Kit.open_bytes Try.underlying22 Try.underlying5 (by kernel_rfl) (hval 0 22 v0 rfl rfl) h0
  clear hA0 hval0
  refine (walk a0 l0 c0 W s0).mono fun e W' ⟨he, bel⟩ => ?_
  subst he
  exact ⟨_, rfl, _, _, _, [], _, [], hW', trodAll_mk1 (shut_bool Try.underlying4 _), (trodAll_cons_mk (Below.trod laidOut (by kernel_rfl) (of_decide_eq_true (by kernel_rfl)) kk0 bel lt0) trodAll_mk0), rfl, bel.frame _, fun h => by cases h⟩
theorem over : Rows.fnRunDeterministicRow.holds Try.pinned (OpenSpec.ofChange Rows.fnRunDeterministicSpec) :=
  OpenClaim.holds_of_wide 4 Try.f4 rfl rfl rfl rfl rfl rfl rfl ⟨rfl, rfl, rfl, rfl, rfl⟩ rfl rfl rfl rfl rfl (by kernel_rfl) Try.func4 (by kernel_rfl)
    (of_decide_eq_true (by kernel_rfl)) (by unfold Func.isWrapper; first | (rw [if_pos (by decide +kernel)]; kernel_rfl) | (rw [if_neg (by decide +kernel)]; exact ⟨rfl, rfl⟩))
    (fun os started H enc _ => lifted os started H enc)
theorem proved : Rows.FnRunDeterministicSaid := over
#print axioms proved
end Go.Proofs.Ytljokgoghphgdaa.fnRunDeterministic
