/- FnCompileSequence: for every input the law returns true, and the arguments read as they did. No conditions. -/
import Derived.Test.YtckikiaockkmbaaRows
import Derived.Test.YtckikiaockkmbaaUDrawY
import Derived.Test.YtckikiaockkmbaaUCmpN
import Derived.Test.YtckikiaockkmbaaUCmpO
import Derived.Test.YtckikiaockkmbaaUP6
import Derived.Test.YtckikiaockkmbaaULawT
import Derived.Test.YtckikiaockkmbaaUP1
import Derived.WalkKit
import Derived.ProofKit
import Derived.OpenShut
import Derived.ShutString
import Derived.ChangeOld
import Derived.Below
namespace Go.Proofs.Ytckikiaockkmbaa.fnCompileSequence
open Go.ChangeShapes Go.WideShapes Go.ChangeAt Go.RowKit Kit MarkC
open Go.ChangeMaps (open_string shut_string)
set_option linter.unusedVariables false
theorem own : ownKnob Try.prog.godebug = none := by kernel_rfl
theorem laidOut : laidOutB Try.prog = true := by kernel_rfl
set_option maxHeartbeats 16000000 in
set_option maxRecDepth 100000 in
theorem walk (a0 : Option Addr) (l0 c0 : Nat) (a1 : Option Addr) (l1 c1 : Nat) (w : World) (s0 : Kit.Src w a0 l0 c0) (s1 : Kit.Src w a1 l1 c1) :
    Calls Try.prog 11 #[.slice a0 l0 c0, .slice a1 l1 c1] w fun e w' => e = .returned (.bool true) ∧ Below w.heap.size w w' := by
  by_cases hl : 1048576 < l0
  · go_enter Try.func11, Try.ntmps11
    go_wp2
    go_ret
    exact ⟨rfl, Below.refl _ _⟩
  have hl1 : ¬ 1048576 < l0 := hl
  clear hl
  by_cases hl : 1048576 < l1
  · go_enter Try.func11, Try.ntmps11
    go_wp2
    go_ret
    exact ⟨rfl, Below.refl _ _⟩
  · go_enter Try.func11, Try.ntmps11
    go_wp2_with fail
    refine (DrawY.drawCompile _ a0 l0 c0 s0).mono ?_
    rintro e w1 ⟨va, vb, vc, ya, yb, m, rfl, N1, hA, hB, hC, hl2⟩
    obtain ⟨e1, f1, rfl, _⟩ := hA.len
    obtain ⟨e2, f2, rfl, _⟩ := hB.len
    obtain ⟨e3, f3, rfl, _⟩ := hC.len
    have hml : m.length ≤ 1000000 := by have := St.length_sizes m; omega
    have oA_1 := Lib.hid hA
    have oB_1 := Lib.hid hB
    have oC_1 := Lib.hid hC
    clear hA hB hC
    have zw := N1.size
    have hn2 : New w1 (w1.alloc (.cells #[.slice e1 ya.length f1, .slice e2 yb.length f2, .slice e3 m.length f3] 37)) := (Kp.refl _ _).alloc _
    have bA_2 : (w1.alloc (.cells #[.slice e1 ya.length f1, .slice e2 yb.length f2, .slice e3 m.length f3] 37)).heap[w1.heap.size]? = some (.cells #[.slice e1 ya.length f1, .slice e2 yb.length f2, .slice e3 m.length f3] 37) := alloc_heap _ _
    have y2 : w1.heap.size < (w1.alloc (.cells #[.slice e1 ya.length f1, .slice e2 yb.length f2, .slice e3 m.length f3] 37)).heap.size := by simp
    go_upto_region 4 with fail
    generalize (w1.alloc (.cells #[.slice e1 ya.length f1, .slice e2 yb.length f2, .slice e3 m.length f3] 37)) = w2 at *
    have z2 := hn2.size
    have oA_2 := Lib.hid (oA_1.out.new (by omega) hn2)
    have oB_2 := Lib.hid (oB_1.out.new (by omega) hn2)
    have oC_2 := Lib.hid (oC_1.out.new (by omega) hn2)
    have N2 : New w w2 := N1.trans hn2
    clear oA_1 oB_1 oC_1 N1 hn2
    cases ht : CmpP.fine ya yb m
    · have hfh := Lib.hid ht
      clear ht
      obtain ⟨cA0, cA1, cA2⟩ := cells3 bA_2
      have lA := heap_lt bA_2
      go_wp2_with fail
      clear cA0 cA1 cA2 lA
      refine (CmpN.implC (xa := ya) (xb := yb) (l := m) oA_2.out oB_2.out oC_2.out (by omega)).mono ?_
      rintro e w3 ⟨v1, v2, v3, rfl, hn3, hP1, hQ1, hL1⟩
      rw [hfh.out]
      rw [hfh.out] at hP1 hQ1 hL1
      simp only [Bool.false_eq_true, if_false] at hP1 hQ1 hL1
      have z3 := hn3.size
      have bA_3 := hn3.bk bA_2
      have oA_3 := Lib.hid (oA_2.out.new (by omega) hn3)
      have oB_3 := Lib.hid (oB_2.out.new (by omega) hn3)
      have oC_3 := Lib.hid (oC_2.out.new (by omega) hn3)
      have N3 : New w w3 := N2.trans hn3
      clear bA_2 oA_2 oB_2 oC_2 N2 hn3
      obtain ⟨aP1, dP1, ev, _⟩ := hP1.len
      rw [show (([] : List Int)).length = 0 from rfl] at ev
      subst ev
      have oP1_3 := Lib.hid hP1
      clear hP1
      obtain ⟨aQ1, dQ1, ev, _⟩ := hQ1.len
      rw [show (([] : List Int)).length = 0 from rfl] at ev
      subst ev
      have oQ1_3 := Lib.hid hQ1
      clear hQ1
      obtain ⟨aL1, dL1, ev, _⟩ := hL1.len
      rw [show (([] : List Ins)).length = 0 from rfl] at ev
      subst ev
      have oL1_3 := Lib.hid hL1
      clear hL1
      obtain ⟨cA0, cA1, cA2⟩ := cells3 bA_3
      have lA := heap_lt bA_3
      obtain ⟨hn4, y4, bD1_4⟩ := newb w3 (.cells #[.slice aP1 0 dP1, .slice aQ1 0 dQ1, .slice aL1 0 dL1] 70)
      go_upto_region 5 with fail
      generalize hbD1 : w3.heap.size = bD1 at bD1_4 y4 ⊢
      generalize (w3.alloc (.cells #[.slice aP1 0 dP1, .slice aQ1 0 dQ1, .slice aL1 0 dL1] 70)) = w4 at *
      have z4 := hn4.size
      have bA_4 := hn4.bk bA_3
      have oA_4 := Lib.hid (oA_3.out.new (by omega) hn4)
      have oB_4 := Lib.hid (oB_3.out.new (by omega) hn4)
      have oC_4 := Lib.hid (oC_3.out.new (by omega) hn4)
      have oP1_4 := Lib.hid (oP1_3.out.new (by omega) hn4)
      have oQ1_4 := Lib.hid (oQ1_3.out.new (by omega) hn4)
      have oL1_4 := Lib.hid (oL1_3.out.new (by omega) hn4)
      have N4 : New w w4 := N3.trans hn4
      clear cA0 cA1 cA2 lA
      clear bA_3 oA_3 oB_3 oC_3 oP1_3 oQ1_3 oL1_3 N3 hn4
      obtain ⟨cA0, cA1, cA2⟩ := cells3 bA_4
      have lA := heap_lt bA_4
      go_wp2_with fail
      clear cA0 cA1 cA2 lA
      refine (CmpO.specC (xa := ya) (xb := yb) (l := m) oA_4.out oB_4.out oC_4.out (by omega) (by omega)).mono ?_
      rintro e w5 ⟨v1, v2, v3, rfl, hn5, hP2, hQ2, hL2⟩
      rw [hfh.out]
      rw [hfh.out] at hP2 hQ2 hL2
      simp only [Bool.false_eq_true, if_false] at hP2 hQ2 hL2
      have z5 := hn5.size
      have bA_5 := hn5.bk bA_4
      have bD1_5 := hn5.bk bD1_4
      have oA_5 := Lib.hid (oA_4.out.new (by omega) hn5)
      have oB_5 := Lib.hid (oB_4.out.new (by omega) hn5)
      have oC_5 := Lib.hid (oC_4.out.new (by omega) hn5)
      have oP1_5 := Lib.hid (oP1_4.out.new (by omega) hn5)
      have oQ1_5 := Lib.hid (oQ1_4.out.new (by omega) hn5)
      have oL1_5 := Lib.hid (oL1_4.out.new (by omega) hn5)
      have N5 : New w w5 := N4.trans hn5
      clear bA_4 bD1_4 oA_4 oB_4 oC_4 oP1_4 oQ1_4 oL1_4 N4 hn5
      obtain ⟨aP2, dP2, ev, _⟩ := hP2.len
      rw [show (([] : List Int)).length = 0 from rfl] at ev
      subst ev
      have oP2_5 := Lib.hid hP2
      clear hP2
      obtain ⟨aQ2, dQ2, ev, _⟩ := hQ2.len
      rw [show (([] : List Int)).length = 0 from rfl] at ev
      subst ev
      have oQ2_5 := Lib.hid hQ2
      clear hQ2
      obtain ⟨aL2, dL2, ev, _⟩ := hL2.len
      rw [show (([] : List Ins)).length = 0 from rfl] at ev
      subst ev
      have oL2_5 := Lib.hid hL2
      clear hL2
      obtain ⟨cA0, cA1, cA2⟩ := cells3 bA_5
      have lA := heap_lt bA_5
      obtain ⟨cD10, cD11, cD12⟩ := cells3 bD1_5
      have lD1 := heap_lt bD1_5
      obtain ⟨hn6, y6, bD2_6⟩ := newb w5 (.cells #[.slice aP2 0 dP2, .slice aQ2 0 dQ2, .slice aL2 0 dL2] 70)
      go_upto_region 6 with fail
      generalize hbD2 : w5.heap.size = bD2 at bD2_6 y6 ⊢
      generalize (w5.alloc (.cells #[.slice aP2 0 dP2, .slice aQ2 0 dQ2, .slice aL2 0 dL2] 70)) = w6 at *
      have z6 := hn6.size
      have bA_6 := hn6.bk bA_5
      have bD1_6 := hn6.bk bD1_5
      have oA_6 := Lib.hid (oA_5.out.new (by omega) hn6)
      have oB_6 := Lib.hid (oB_5.out.new (by omega) hn6)
      have oC_6 := Lib.hid (oC_5.out.new (by omega) hn6)
      have oP1_6 := Lib.hid (oP1_5.out.new (by omega) hn6)
      have oQ1_6 := Lib.hid (oQ1_5.out.new (by omega) hn6)
      have oL1_6 := Lib.hid (oL1_5.out.new (by omega) hn6)
      have oP2_6 := Lib.hid (oP2_5.out.new (by omega) hn6)
      have oQ2_6 := Lib.hid (oQ2_5.out.new (by omega) hn6)
      have oL2_6 := Lib.hid (oL2_5.out.new (by omega) hn6)
      have N6 : New w w6 := N5.trans hn6
      clear cA0 cA1 cA2 lA cD10 cD11 cD12 lD1
      clear bA_5 bD1_5 oA_5 oB_5 oC_5 oP1_5 oQ1_5 oL1_5 oP2_5 oQ2_5 oL2_5 N5 hn6
      obtain ⟨cA0, cA1, cA2⟩ := cells3 bA_6
      have lA := heap_lt bA_6
      obtain ⟨cD10, cD11, cD12⟩ := cells3 bD1_6
      have lD1 := heap_lt bD1_6
      obtain ⟨cD20, cD21, cD22⟩ := cells3 bD2_6
      have lD2 := heap_lt bD2_6
      go_wp2_with fail
      clear cA0 cA1 cA2 lA cD10 cD11 cD12 lD1 cD20 cD21 cD22 lD2
      refine (SameC.implSame _ _ _ _ _ _ _ _ _ _ _ _ _ _ _ _ _ oP1_6.out oQ1_6.out oL1_6.out oP2_6.out oQ2_6.out oL2_6.out (by omega) (by omega)).mono ?_
      rintro e w7 ⟨rfl, hn7⟩
      have z7 := hn7.size
      have bA_7 := hn7.bk bA_6
      have bD1_7 := hn7.bk bD1_6
      have bD2_7 := hn7.bk bD2_6
      have oA_7 := Lib.hid (oA_6.out.new (by omega) hn7)
      have oB_7 := Lib.hid (oB_6.out.new (by omega) hn7)
      have oC_7 := Lib.hid (oC_6.out.new (by omega) hn7)
      have oP1_7 := Lib.hid (oP1_6.out.new (by omega) hn7)
      have oQ1_7 := Lib.hid (oQ1_6.out.new (by omega) hn7)
      have oL1_7 := Lib.hid (oL1_6.out.new (by omega) hn7)
      have oP2_7 := Lib.hid (oP2_6.out.new (by omega) hn7)
      have oQ2_7 := Lib.hid (oQ2_6.out.new (by omega) hn7)
      have oL2_7 := Lib.hid (oL2_6.out.new (by omega) hn7)
      have N7 : New w w7 := N6.trans hn7
      clear bA_6 bD1_6 bD2_6 oA_6 oB_6 oC_6 oP1_6 oQ1_6 oL1_6 oP2_6 oQ2_6 oL2_6 N6 hn7
      rw [show (decide (([] : List Int) = ([] : List Int)) && (decide (([] : List Int) = ([] : List Int)) && decide (([] : List Ins) = ([] : List Ins)))) = true by simp]
      obtain ⟨cA0, cA1, cA2⟩ := cells3 bA_7
      have lA := heap_lt bA_7
      obtain ⟨cD10, cD11, cD12⟩ := cells3 bD1_7
      have lD1 := heap_lt bD1_7
      obtain ⟨cD20, cD21, cD22⟩ := cells3 bD2_7
      have lD2 := heap_lt bD2_7
      go_wp2_with fail
      clear cA0 cA1 cA2 lA cD10 cD11 cD12 lD1 cD20 cD21 cD22 lD2
      refine (SameC.implSame _ _ _ _ _ _ _ _ _ _ _ _ _ _ _ _ _ oP1_7.out oQ1_7.out oL1_7.out oP2_7.out oQ2_7.out oL2_7.out (by omega) (by omega)).mono ?_
      rintro e w8 ⟨rfl, hn8⟩
      have z8 := hn8.size
      have bA_8 := hn8.bk bA_7
      have bD1_8 := hn8.bk bD1_7
      have bD2_8 := hn8.bk bD2_7
      have oA_8 := Lib.hid (oA_7.out.new (by omega) hn8)
      have oB_8 := Lib.hid (oB_7.out.new (by omega) hn8)
      have oC_8 := Lib.hid (oC_7.out.new (by omega) hn8)
      have oP1_8 := Lib.hid (oP1_7.out.new (by omega) hn8)
      have oQ1_8 := Lib.hid (oQ1_7.out.new (by omega) hn8)
      have oL1_8 := Lib.hid (oL1_7.out.new (by omega) hn8)
      have oP2_8 := Lib.hid (oP2_7.out.new (by omega) hn8)
      have oQ2_8 := Lib.hid (oQ2_7.out.new (by omega) hn8)
      have oL2_8 := Lib.hid (oL2_7.out.new (by omega) hn8)
      have N8 : New w w8 := N7.trans hn8
      clear bA_7 bD1_7 bD2_7 oA_7 oB_7 oC_7 oP1_7 oQ1_7 oL1_7 oP2_7 oQ2_7 oL2_7 N7 hn8
      rw [show (decide (([] : List Int) = ([] : List Int)) && (decide (([] : List Int) = ([] : List Int)) && decide (([] : List Ins) = ([] : List Ins)))) = true by simp]
      obtain ⟨cA0, cA1, cA2⟩ := cells3 bA_8
      have lA := heap_lt bA_8
      obtain ⟨cD10, cD11, cD12⟩ := cells3 bD1_8
      have lD1 := heap_lt bD1_8
      obtain ⟨cD20, cD21, cD22⟩ := cells3 bD2_8
      have lD2 := heap_lt bD2_8
      go_wp2
      go_ret
      exact ⟨rfl, N8.toBelow⟩
    · have hth := Lib.hid ht
      have hp : Val.progB ya yb m = true := by have := ht; simp only [CmpP.fine, Bool.and_eq_true] at this; exact this.1
      obtain ⟨Y, hY⟩ : ∃ Y, CmpP.csts m 0 0 ++ [CmpP.halt] = Y := ⟨_, rfl⟩
      obtain ⟨nY, hnY⟩ : ∃ n, Y.length = n := ⟨_, rfl⟩
      have hYh := Lib.hid hY
      have hnYh := Lib.hid hnY
      have hYs : nY ≤ 400 := by rw [← hnY, ← hY]; have := ht; simp only [CmpP.fine, Bool.and_eq_true, decide_eq_true_eq] at this; simp; omega
      clear ht hY hnY
      obtain ⟨cA0, cA1, cA2⟩ := cells3 bA_2
      have lA := heap_lt bA_2
      go_wp2_with fail
      clear cA0 cA1 cA2 lA
      refine (CmpN.implC (xa := ya) (xb := yb) (l := m) oA_2.out oB_2.out oC_2.out (by omega)).mono ?_
      rintro e w3 ⟨v1, v2, v3, rfl, hn3, hP1, hQ1, hL1⟩
      rw [hth.out]
      rw [hth.out] at hP1 hQ1 hL1
      simp only [if_true] at hP1 hQ1 hL1
      rw [hYh.out] at hL1
      have z3 := hn3.size
      have bA_3 := hn3.bk bA_2
      have oA_3 := Lib.hid (oA_2.out.new (by omega) hn3)
      have oB_3 := Lib.hid (oB_2.out.new (by omega) hn3)
      have oC_3 := Lib.hid (oC_2.out.new (by omega) hn3)
      have N3 : New w w3 := N2.trans hn3
      clear bA_2 oA_2 oB_2 oC_2 N2 hn3
      obtain ⟨aP1, dP1, ev, _⟩ := hP1.len
      rw [show (ya).length = ya.length from rfl] at ev
      subst ev
      have oP1_3 := Lib.hid hP1
      clear hP1
      obtain ⟨aQ1, dQ1, ev, _⟩ := hQ1.len
      rw [show (yb).length = yb.length from rfl] at ev
      subst ev
      have oQ1_3 := Lib.hid hQ1
      clear hQ1
      obtain ⟨aL1, dL1, ev, _⟩ := hL1.len
      rw [show (Y).length = nY from hnYh.out] at ev
      subst ev
      have oL1_3 := Lib.hid hL1
      clear hL1
      obtain ⟨cA0, cA1, cA2⟩ := cells3 bA_3
      have lA := heap_lt bA_3
      obtain ⟨hn4, y4, bD1_4⟩ := newb w3 (.cells #[.slice aP1 ya.length dP1, .slice aQ1 yb.length dQ1, .slice aL1 nY dL1] 70)
      go_upto_region 5 with fail
      generalize hbD1 : w3.heap.size = bD1 at bD1_4 y4 ⊢
      generalize (w3.alloc (.cells #[.slice aP1 ya.length dP1, .slice aQ1 yb.length dQ1, .slice aL1 nY dL1] 70)) = w4 at *
      have z4 := hn4.size
      have bA_4 := hn4.bk bA_3
      have oA_4 := Lib.hid (oA_3.out.new (by omega) hn4)
      have oB_4 := Lib.hid (oB_3.out.new (by omega) hn4)
      have oC_4 := Lib.hid (oC_3.out.new (by omega) hn4)
      have oP1_4 := Lib.hid (oP1_3.out.new (by omega) hn4)
      have oQ1_4 := Lib.hid (oQ1_3.out.new (by omega) hn4)
      have oL1_4 := Lib.hid (oL1_3.out.new (by omega) hn4)
      have N4 : New w w4 := N3.trans hn4
      clear cA0 cA1 cA2 lA
      clear bA_3 oA_3 oB_3 oC_3 oP1_3 oQ1_3 oL1_3 N3 hn4
      obtain ⟨cA0, cA1, cA2⟩ := cells3 bA_4
      have lA := heap_lt bA_4
      go_wp2_with fail
      clear cA0 cA1 cA2 lA
      refine (CmpO.specC (xa := ya) (xb := yb) (l := m) oA_4.out oB_4.out oC_4.out (by omega) (by omega)).mono ?_
      rintro e w5 ⟨v1, v2, v3, rfl, hn5, hP2, hQ2, hL2⟩
      rw [hth.out]
      rw [hth.out] at hP2 hQ2 hL2
      simp only [if_true] at hP2 hQ2 hL2
      rw [hYh.out] at hL2
      have z5 := hn5.size
      have bA_5 := hn5.bk bA_4
      have bD1_5 := hn5.bk bD1_4
      have oA_5 := Lib.hid (oA_4.out.new (by omega) hn5)
      have oB_5 := Lib.hid (oB_4.out.new (by omega) hn5)
      have oC_5 := Lib.hid (oC_4.out.new (by omega) hn5)
      have oP1_5 := Lib.hid (oP1_4.out.new (by omega) hn5)
      have oQ1_5 := Lib.hid (oQ1_4.out.new (by omega) hn5)
      have oL1_5 := Lib.hid (oL1_4.out.new (by omega) hn5)
      have N5 : New w w5 := N4.trans hn5
      clear bA_4 bD1_4 oA_4 oB_4 oC_4 oP1_4 oQ1_4 oL1_4 N4 hn5
      obtain ⟨aP2, dP2, ev, _⟩ := hP2.len
      rw [show (ya).length = ya.length from rfl] at ev
      subst ev
      have oP2_5 := Lib.hid hP2
      clear hP2
      obtain ⟨aQ2, dQ2, ev, _⟩ := hQ2.len
      rw [show (yb).length = yb.length from rfl] at ev
      subst ev
      have oQ2_5 := Lib.hid hQ2
      clear hQ2
      obtain ⟨aL2, dL2, ev, _⟩ := hL2.len
      rw [show (Y).length = nY from hnYh.out] at ev
      subst ev
      have oL2_5 := Lib.hid hL2
      clear hL2
      obtain ⟨cA0, cA1, cA2⟩ := cells3 bA_5
      have lA := heap_lt bA_5
      obtain ⟨cD10, cD11, cD12⟩ := cells3 bD1_5
      have lD1 := heap_lt bD1_5
      obtain ⟨hn6, y6, bD2_6⟩ := newb w5 (.cells #[.slice aP2 ya.length dP2, .slice aQ2 yb.length dQ2, .slice aL2 nY dL2] 70)
      go_upto_region 6 with fail
      generalize hbD2 : w5.heap.size = bD2 at bD2_6 y6 ⊢
      generalize (w5.alloc (.cells #[.slice aP2 ya.length dP2, .slice aQ2 yb.length dQ2, .slice aL2 nY dL2] 70)) = w6 at *
      have z6 := hn6.size
      have bA_6 := hn6.bk bA_5
      have bD1_6 := hn6.bk bD1_5
      have oA_6 := Lib.hid (oA_5.out.new (by omega) hn6)
      have oB_6 := Lib.hid (oB_5.out.new (by omega) hn6)
      have oC_6 := Lib.hid (oC_5.out.new (by omega) hn6)
      have oP1_6 := Lib.hid (oP1_5.out.new (by omega) hn6)
      have oQ1_6 := Lib.hid (oQ1_5.out.new (by omega) hn6)
      have oL1_6 := Lib.hid (oL1_5.out.new (by omega) hn6)
      have oP2_6 := Lib.hid (oP2_5.out.new (by omega) hn6)
      have oQ2_6 := Lib.hid (oQ2_5.out.new (by omega) hn6)
      have oL2_6 := Lib.hid (oL2_5.out.new (by omega) hn6)
      have N6 : New w w6 := N5.trans hn6
      clear cA0 cA1 cA2 lA cD10 cD11 cD12 lD1
      clear bA_5 bD1_5 oA_5 oB_5 oC_5 oP1_5 oQ1_5 oL1_5 oP2_5 oQ2_5 oL2_5 N5 hn6
      obtain ⟨cA0, cA1, cA2⟩ := cells3 bA_6
      have lA := heap_lt bA_6
      obtain ⟨cD10, cD11, cD12⟩ := cells3 bD1_6
      have lD1 := heap_lt bD1_6
      obtain ⟨cD20, cD21, cD22⟩ := cells3 bD2_6
      have lD2 := heap_lt bD2_6
      go_wp2_with fail
      clear cA0 cA1 cA2 lA cD10 cD11 cD12 lD1 cD20 cD21 cD22 lD2
      refine (SameC.implSame _ _ _ _ _ _ _ _ _ _ _ _ _ _ _ _ _ oP1_6.out oQ1_6.out oL1_6.out oP2_6.out oQ2_6.out oL2_6.out (by omega) (by omega)).mono ?_
      rintro e w7 ⟨rfl, hn7⟩
      have z7 := hn7.size
      have bA_7 := hn7.bk bA_6
      have bD1_7 := hn7.bk bD1_6
      have bD2_7 := hn7.bk bD2_6
      have oA_7 := Lib.hid (oA_6.out.new (by omega) hn7)
      have oB_7 := Lib.hid (oB_6.out.new (by omega) hn7)
      have oC_7 := Lib.hid (oC_6.out.new (by omega) hn7)
      have oP1_7 := Lib.hid (oP1_6.out.new (by omega) hn7)
      have oQ1_7 := Lib.hid (oQ1_6.out.new (by omega) hn7)
      have oL1_7 := Lib.hid (oL1_6.out.new (by omega) hn7)
      have oP2_7 := Lib.hid (oP2_6.out.new (by omega) hn7)
      have oQ2_7 := Lib.hid (oQ2_6.out.new (by omega) hn7)
      have oL2_7 := Lib.hid (oL2_6.out.new (by omega) hn7)
      have N7 : New w w7 := N6.trans hn7
      clear bA_6 bD1_6 bD2_6 oA_6 oB_6 oC_6 oP1_6 oQ1_6 oL1_6 oP2_6 oQ2_6 oL2_6 N6 hn7
      rw [show (decide (ya = ya) && (decide (yb = yb) && decide (Y = Y))) = true by simp]
      clear oP2_7
      clear oQ2_7
      clear oL2_7
      clear oP1_7
      clear oQ1_7
      obtain ⟨kk, hkk⟩ : ∃ kk, l1 % (m.length + 1) = kk := ⟨_, rfl⟩
      have hkl : kk ≤ m.length := hkk ▸ Nat.le_of_lt_succ (Nat.mod_lt l1 (Nat.succ_pos _))
      have hw : (l1 : Int) % ((m.length : Int) + 1) = (kk : Int) := by rw [← hkk]; simp
      clear hkk
      have hcap := LawT.sts_cap oC_7.out
      have hkf : kk ≤ f3 := Nat.le_trans hkl hcap
      obtain ⟨hp1, hp2⟩ := LawT.progB_split kk hp
      have hS := CmpP.fine_split kk hth.out
      have hfT := Lib.hid hS.1
      have hfD := Lib.hid hS.2.1
      have hsum := hS.2.2
      clear hS hp hp1 hp2
      obtain ⟨LT, hLT⟩ : ∃ Y, CmpP.csts (m.take kk) 0 0 ++ [CmpP.halt] = Y := ⟨_, rfl⟩
      obtain ⟨LD, hLD⟩ : ∃ Y, CmpP.csts (m.drop kk) 0 0 ++ [CmpP.halt] = Y := ⟨_, rfl⟩
      obtain ⟨nT, hnT⟩ : ∃ n, LT.length = n := ⟨_, rfl⟩
      obtain ⟨nD, hnD⟩ : ∃ n, LD.length = n := ⟨_, rfl⟩
      have hT1 : (CmpP.csts (m.take kk) 0 0).length + 1 = nT := by rw [← hnT, ← hLT]; simp
      have hD1 : (CmpP.csts (m.drop kk) 0 0).length + 1 = nD := by rw [← hnD, ← hLD]; simp
      have hY1 : (CmpP.csts m 0 0).length + 1 = nY := by rw [← hnYh.out, ← hYh.out]; simp
      have hnum := Lib.hid (show nT + nD = nY + 1 ∧ 1 ≤ nT by omega)
      have hTl := Lib.hid (show ∀ j, j + 1 < nT → j < (CmpP.csts (m.take kk) 0 0).length from fun j h => by omega)
      have hLTh := Lib.hid hLT
      have hLDh := Lib.hid hLD
      have hnTh := Lib.hid hnT
      have hnDh := Lib.hid hnD
      clear hLT hLD hnT hnD hT1 hD1 hY1 hsum
      obtain ⟨cA0, cA1, cA2⟩ := cells3 bA_7
      have lA := heap_lt bA_7
      go_wp2_with fail
      rw [hw]
      clear hw
      refine wp_region_tail (k := 14) (S := fun w' => w'.cell? ⟨w1.heap.size, 0, none⟩ = some (.slice e1 ya.length f1) ∧ w'.cell? ⟨w1.heap.size, 1, none⟩ = some (.slice e2 yb.length f2) ∧ w'.cell? ⟨w1.heap.size, 2, none⟩ = some (.slice e3 m.length f3)) (by kernel_rfl) ?_ (fun hHeld => ?_)
      · exact ⟨cA0, cA1, cA2⟩
      clear cA0 cA1 cA2 lA
      have hn8 : New w7 w7.drew := (Kp.refl _ _).drew
      generalize w7.drew = w8 at *
      have z8 := hn8.size
      have bA_8 := hn8.bk bA_7
      have bD1_8 := hn8.bk bD1_7
      have bD2_8 := hn8.bk bD2_7
      have oA_8 := Lib.hid (oA_7.out.new (by omega) hn8)
      have oB_8 := Lib.hid (oB_7.out.new (by omega) hn8)
      have oC_8 := Lib.hid (oC_7.out.new (by omega) hn8)
      have oL1_8 := Lib.hid (oL1_7.out.new (by omega) hn8)
      have N8 : New w w8 := N7.trans hn8
      clear bA_7 bD1_7 bD2_7 oA_7 oB_7 oC_7 oL1_7 N7 hn8
      obtain ⟨cA0, cA1, cA2⟩ := cells3 bA_8
      have lA := heap_lt bA_8
      refine AnyK.tw 0 rfl ?_
      try simp only [AP]
      refine AnyK.tk 1 rfl ?_
      try simp only [AP]
      refine AnyK.tw 2 rfl ?_
      try simp only [AP]
      refine AnyK.tk 3 rfl ?_
      try simp only [AP]
      refine AnyK.tw 4 rfl ?_
      try simp only [AP]
      refine AnyK.tk 5 rfl ?_
      try simp only [AP]
      refine AnyK.tw 6 rfl ?_
      try simp only [AP]
      refine AnyK.tw 7 rfl ?_
      try simp only [AP]
      refine AnyK.tw 8 rfl ?_
      try simp only [AP]
      refine AnyK.two (i := 9) (j := 13) (by kernel_rfl) rfl rfl (fun K hK => ?_) (fun K hK => ?_)
      · go_simp
        clear cA0 cA1 cA2 lA
        refine (CmpN.implC (xa := ya) (xb := yb) (l := m.take kk) oA_8.out oB_8.out (LawT.sts_take oC_8.out kk hkl) (by omega)).mono ?_
        rintro e w9 ⟨v1, v2, v3, rfl, hn9, hPT, hQT, hLT⟩
        rw [hfT.out]
        rw [hfT.out] at hPT hQT hLT
        simp only [if_true] at hPT hQT hLT
        rw [hLTh.out] at hLT
        have z9 := hn9.size
        have bA_9 := hn9.bk bA_8
        have bD1_9 := hn9.bk bD1_8
        have bD2_9 := hn9.bk bD2_8
        have oA_9 := Lib.hid (oA_8.out.new (by omega) hn9)
        have oB_9 := Lib.hid (oB_8.out.new (by omega) hn9)
        have oC_9 := Lib.hid (oC_8.out.new (by omega) hn9)
        have oL1_9 := Lib.hid (oL1_8.out.new (by omega) hn9)
        have N9 : New w w9 := N8.trans hn9
        clear bA_8 bD1_8 bD2_8 oA_8 oB_8 oC_8 oL1_8 N8 hn9
        obtain ⟨aPT, dPT, ev, _⟩ := hPT.len
        rw [show (ya).length = ya.length from rfl] at ev
        subst ev
        have oPT_9 := Lib.hid hPT
        clear hPT
        obtain ⟨aQT, dQT, ev, _⟩ := hQT.len
        rw [show (yb).length = yb.length from rfl] at ev
        subst ev
        have oQT_9 := Lib.hid hQT
        clear hQT
        obtain ⟨aLT, dLT, ev, _⟩ := hLT.len
        rw [show (LT).length = nT from hnTh.out] at ev
        subst ev
        have oLT_9 := Lib.hid hLT
        clear hLT
        clear oPT_9
        clear oQT_9
        obtain ⟨cA0, cA1, cA2⟩ := cells3 bA_9
        have lA := heap_lt bA_9
        refine hK.out _ _ ?_ (fun hHeld2 => ?_)
        · exact ⟨cA0, cA1, cA2⟩
        clear hK K hHeld
        have hHeld := hHeld2
        clear hHeld2
        try simp only [AP]
        refine AnyK.tw 10 rfl ?_
        try simp only [AP]
        refine AnyK.tw 11 rfl ?_
        try simp only [AP]
        refine AnyK.tw 12 rfl ?_
        try simp only [AP]
        refine AnyK.step (i := 13) (by kernel_rfl) rfl (fun K hK => ?_)
        go_simp
        clear cA0 cA1 cA2 lA
        obtain ⟨hn10, y10, bDT_10⟩ := newb w9 (.cells #[.slice none 0 0, .slice none 0 0, .slice none 0 0] 70)
        generalize w9.alloc (.cells #[.slice none 0 0, .slice none 0 0, .slice none 0 0] 70) = w10 at *
        have z10 := hn10.size
        have bA_10 := hn10.bk bA_9
        have bD1_10 := hn10.bk bD1_9
        have bD2_10 := hn10.bk bD2_9
        have oA_10 := Lib.hid (oA_9.out.new (by omega) hn10)
        have oB_10 := Lib.hid (oB_9.out.new (by omega) hn10)
        have oC_10 := Lib.hid (oC_9.out.new (by omega) hn10)
        have oL1_10 := Lib.hid (oL1_9.out.new (by omega) hn10)
        have oLT_10 := Lib.hid (oLT_9.out.new (by omega) hn10)
        have N10 : New w w10 := N9.trans hn10
        clear bA_9 bD1_9 bD2_9 oA_9 oB_9 oC_9 oL1_9 oLT_9 N9 hn10
        obtain ⟨cA0, cA1, cA2⟩ := cells3 bA_10
        have lA := heap_lt bA_10
        refine hK.out _ _ ?_ (fun hHeld2 => ?_)
        · exact ⟨cA0, cA1, cA2⟩
        clear hK K hHeld
        have hHeld := hHeld2
        clear hHeld2
        try simp only [AP]
        refine AnyK.last (by kernel_rfl) ?_
        simp only [List.drop_succ_cons, List.drop_zero]
        clear hHeld
        clear cA0 cA1 cA2 lA
        obtain ⟨cDT0, cDT1, cDT2⟩ := cells3 bDT_10
        have fDT := frozen_of_heap bDT_10
        have lDT := heap_lt bDT_10
        go_upto_region 10 with fail
        have hk11 : Kp (fun k => k = w9.heap.size) w10 (((w10.setCell ⟨w9.heap.size, 0, none⟩ (.slice aPT ya.length dPT)).setCell ⟨w9.heap.size, 1, none⟩ (.slice aQT yb.length dQT)).setCell ⟨w9.heap.size, 2, none⟩ (.slice aLT nT dLT)) := (Kp.setCell (Kp.setCell (Kp.setCell (Kp.refl (fun k => k = w9.heap.size) _) (.inl rfl) _) (.inl rfl) _) (.inl rfl) _)
        have bDT_11 : (((w10.setCell ⟨w9.heap.size, 0, none⟩ (.slice aPT ya.length dPT)).setCell ⟨w9.heap.size, 1, none⟩ (.slice aQT yb.length dQT)).setCell ⟨w9.heap.size, 2, none⟩ (.slice aLT nT dLT)).heap[w9.heap.size]? = some (.cells #[.slice aPT ya.length dPT, .slice aQT yb.length dQT, .slice aLT nT dLT] 70) := (setCell_heap (setCell_heap (setCell_heap bDT_10 _) _) _)
        generalize (((w10.setCell ⟨w9.heap.size, 0, none⟩ (.slice aPT ya.length dPT)).setCell ⟨w9.heap.size, 1, none⟩ (.slice aQT yb.length dQT)).setCell ⟨w9.heap.size, 2, none⟩ (.slice aLT nT dLT)) = w11 at *
        have z11 := hk11.size
        have bA_11 := hk11.bo bA_10
        have bD1_11 := hk11.bo bD1_10
        have bD2_11 := hk11.bo bD2_10
        have oA_11 := Lib.hid (oA_10.out.kp hk11 (by omega) (fun b e => by omega))
        have oB_11 := Lib.hid (oB_10.out.kp hk11 (by omega) (fun b e => by omega))
        have oC_11 := Lib.hid (oC_10.out.kp hk11 (by omega) (fun b e => by omega))
        have oL1_11 := Lib.hid (oL1_10.out.kp hk11 (by omega) (fun b e => by omega))
        have oLT_11 := Lib.hid (oLT_10.out.kp hk11 (by omega) (fun b e => by omega))
        have N11 : New w w11 := New.one N10 hk11 (by omega)
        clear cDT0 cDT1 cDT2 fDT lDT
        clear bA_10 bD1_10 bD2_10 bDT_10 oA_10 oB_10 oC_10 oL1_10 oLT_10 N10 hk11
        obtain ⟨cA0, cA1, cA2⟩ := cells3 bA_11
        have lA := heap_lt bA_11
        go_wp2_with fail
        refine wp_region_tail (k := 14) (S := fun w' => w'.cell? ⟨w1.heap.size, 0, none⟩ = some (.slice e1 ya.length f1) ∧ w'.cell? ⟨w1.heap.size, 1, none⟩ = some (.slice e2 yb.length f2) ∧ w'.cell? ⟨w1.heap.size, 2, none⟩ = some (.slice e3 m.length f3)) (by kernel_rfl) ?_ (fun hHeld => ?_)
        · exact ⟨cA0, cA1, cA2⟩
        clear cA0 cA1 cA2 lA
        have hn12 : New w11 w11.drew := (Kp.refl _ _).drew
        generalize w11.drew = w12 at *
        have z12 := hn12.size
        have bA_12 := hn12.bk bA_11
        have bD1_12 := hn12.bk bD1_11
        have bD2_12 := hn12.bk bD2_11
        have bDT_12 := hn12.bk bDT_11
        have oA_12 := Lib.hid (oA_11.out.new (by omega) hn12)
        have oB_12 := Lib.hid (oB_11.out.new (by omega) hn12)
        have oC_12 := Lib.hid (oC_11.out.new (by omega) hn12)
        have oL1_12 := Lib.hid (oL1_11.out.new (by omega) hn12)
        have oLT_12 := Lib.hid (oLT_11.out.new (by omega) hn12)
        have N12 : New w w12 := N11.trans hn12
        clear bA_11 bD1_11 bD2_11 bDT_11 oA_11 oB_11 oC_11 oL1_11 oLT_11 N11 hn12
        obtain ⟨cA0, cA1, cA2⟩ := cells3 bA_12
        have lA := heap_lt bA_12
        refine AnyK.tw 0 rfl ?_
        try simp only [AP]
        refine AnyK.tk 1 rfl ?_
        try simp only [AP]
        refine AnyK.tw 2 rfl ?_
        try simp only [AP]
        refine AnyK.tk 3 rfl ?_
        try simp only [AP]
        refine AnyK.tw 4 rfl ?_
        try simp only [AP]
        refine AnyK.tk 5 rfl ?_
        try simp only [AP]
        refine AnyK.tw 6 rfl ?_
        try simp only [AP]
        refine AnyK.tw 7 rfl ?_
        try simp only [AP]
        refine AnyK.tw 8 rfl ?_
        try simp only [AP]
        refine AnyK.two (i := 9) (j := 13) (by kernel_rfl) rfl rfl (fun K hK => ?_) (fun K hK => ?_)
        · go_simp
          clear cA0 cA1 cA2 lA
          refine (CmpN.implC (xa := ya) (xb := yb) (l := m.drop kk) oA_12.out oB_12.out (LawT.sts_from oC_12.out kk hkl) (by omega)).mono ?_
          rintro e w13 ⟨v1, v2, v3, rfl, hn13, hPD, hQD, hLD⟩
          rw [hfD.out]
          rw [hfD.out] at hPD hQD hLD
          simp only [if_true] at hPD hQD hLD
          rw [hLDh.out] at hLD
          have z13 := hn13.size
          have bA_13 := hn13.bk bA_12
          have bD1_13 := hn13.bk bD1_12
          have bD2_13 := hn13.bk bD2_12
          have bDT_13 := hn13.bk bDT_12
          have oA_13 := Lib.hid (oA_12.out.new (by omega) hn13)
          have oB_13 := Lib.hid (oB_12.out.new (by omega) hn13)
          have oC_13 := Lib.hid (oC_12.out.new (by omega) hn13)
          have oL1_13 := Lib.hid (oL1_12.out.new (by omega) hn13)
          have oLT_13 := Lib.hid (oLT_12.out.new (by omega) hn13)
          have N13 : New w w13 := N12.trans hn13
          clear bA_12 bD1_12 bD2_12 bDT_12 oA_12 oB_12 oC_12 oL1_12 oLT_12 N12 hn13
          obtain ⟨aPD, dPD, ev, _⟩ := hPD.len
          rw [show (ya).length = ya.length from rfl] at ev
          subst ev
          have oPD_13 := Lib.hid hPD
          clear hPD
          obtain ⟨aQD, dQD, ev, _⟩ := hQD.len
          rw [show (yb).length = yb.length from rfl] at ev
          subst ev
          have oQD_13 := Lib.hid hQD
          clear hQD
          obtain ⟨aLD, dLD, ev, _⟩ := hLD.len
          rw [show (LD).length = nD from hnDh.out] at ev
          subst ev
          have oLD_13 := Lib.hid hLD
          clear hLD
          clear oPD_13
          clear oQD_13
          clear oLD_13
          obtain ⟨cA0, cA1, cA2⟩ := cells3 bA_13
          have lA := heap_lt bA_13
          refine hK.out _ _ ?_ (fun hHeld2 => ?_)
          · exact ⟨cA0, cA1, cA2⟩
          clear hK K hHeld
          have hHeld := hHeld2
          clear hHeld2
          try simp only [AP]
          refine AnyK.tw 10 rfl ?_
          try simp only [AP]
          refine AnyK.tw 11 rfl ?_
          try simp only [AP]
          refine AnyK.tw 12 rfl ?_
          try simp only [AP]
          refine AnyK.step (i := 13) (by kernel_rfl) rfl (fun K hK => ?_)
          go_simp
          clear cA0 cA1 cA2 lA
          obtain ⟨hn14, y14, bDD_14⟩ := newb w13 (.cells #[.slice none 0 0, .slice none 0 0, .slice none 0 0] 70)
          generalize w13.alloc (.cells #[.slice none 0 0, .slice none 0 0, .slice none 0 0] 70) = w14 at *
          have z14 := hn14.size
          have bA_14 := hn14.bk bA_13
          have bD1_14 := hn14.bk bD1_13
          have bD2_14 := hn14.bk bD2_13
          have bDT_14 := hn14.bk bDT_13
          have oA_14 := Lib.hid (oA_13.out.new (by omega) hn14)
          have oB_14 := Lib.hid (oB_13.out.new (by omega) hn14)
          have oC_14 := Lib.hid (oC_13.out.new (by omega) hn14)
          have oL1_14 := Lib.hid (oL1_13.out.new (by omega) hn14)
          have oLT_14 := Lib.hid (oLT_13.out.new (by omega) hn14)
          have N14 : New w w14 := N13.trans hn14
          clear bA_13 bD1_13 bD2_13 bDT_13 oA_13 oB_13 oC_13 oL1_13 oLT_13 N13 hn14
          obtain ⟨cA0, cA1, cA2⟩ := cells3 bA_14
          have lA := heap_lt bA_14
          refine hK.out _ _ ?_ (fun hHeld2 => ?_)
          · exact ⟨cA0, cA1, cA2⟩
          clear hK K hHeld
          have hHeld := hHeld2
          clear hHeld2
          try simp only [AP]
          refine AnyK.last (by kernel_rfl) ?_
          simp only [List.drop_succ_cons, List.drop_zero]
          clear hHeld
          clear cA0 cA1 cA2 lA
          obtain ⟨cDD0, cDD1, cDD2⟩ := cells3 bDD_14
          have fDD := frozen_of_heap bDD_14
          have lDD := heap_lt bDD_14
          go_upto_region 11 with fail
          have hk15 : Kp (fun k => k = w13.heap.size) w14 (((w14.setCell ⟨w13.heap.size, 0, none⟩ (.slice aPD ya.length dPD)).setCell ⟨w13.heap.size, 1, none⟩ (.slice aQD yb.length dQD)).setCell ⟨w13.heap.size, 2, none⟩ (.slice aLD nD dLD)) := (Kp.setCell (Kp.setCell (Kp.setCell (Kp.refl (fun k => k = w13.heap.size) _) (.inl rfl) _) (.inl rfl) _) (.inl rfl) _)
          have bDD_15 : (((w14.setCell ⟨w13.heap.size, 0, none⟩ (.slice aPD ya.length dPD)).setCell ⟨w13.heap.size, 1, none⟩ (.slice aQD yb.length dQD)).setCell ⟨w13.heap.size, 2, none⟩ (.slice aLD nD dLD)).heap[w13.heap.size]? = some (.cells #[.slice aPD ya.length dPD, .slice aQD yb.length dQD, .slice aLD nD dLD] 70) := (setCell_heap (setCell_heap (setCell_heap bDD_14 _) _) _)
          generalize (((w14.setCell ⟨w13.heap.size, 0, none⟩ (.slice aPD ya.length dPD)).setCell ⟨w13.heap.size, 1, none⟩ (.slice aQD yb.length dQD)).setCell ⟨w13.heap.size, 2, none⟩ (.slice aLD nD dLD)) = w15 at *
          have z15 := hk15.size
          have bA_15 := hk15.bo bA_14
          have bD1_15 := hk15.bo bD1_14
          have bD2_15 := hk15.bo bD2_14
          have bDT_15 := hk15.bo bDT_14
          have oA_15 := Lib.hid (oA_14.out.kp hk15 (by omega) (fun b e => by omega))
          have oB_15 := Lib.hid (oB_14.out.kp hk15 (by omega) (fun b e => by omega))
          have oC_15 := Lib.hid (oC_14.out.kp hk15 (by omega) (fun b e => by omega))
          have oL1_15 := Lib.hid (oL1_14.out.kp hk15 (by omega) (fun b e => by omega))
          have oLT_15 := Lib.hid (oLT_14.out.kp hk15 (by omega) (fun b e => by omega))
          have N15 : New w w15 := New.one N14 hk15 (by omega)
          clear cDD0 cDD1 cDD2 fDD lDD
          clear bA_14 bD1_14 bD2_14 bDT_14 bDD_14 oA_14 oB_14 oC_14 oL1_14 oLT_14 N14 hk15
          obtain ⟨cD10, cD11, cD12⟩ := cells3 bD1_15
          have lD1 := heap_lt bD1_15
          obtain ⟨cDT0, cDT1, cDT2⟩ := cells3 bDT_15
          have lDT := heap_lt bDT_15
          obtain ⟨cDD0, cDD1, cDD2⟩ := cells3 bDD_15
          have lDD := heap_lt bDD_15
          obtain ⟨cA0, cA1, cA2⟩ := cells3 bA_15
          have lA := heap_lt bA_15
          have hne : (((nT : Int) + (nD : Int)) != ((nY : Int) + 1)) = false := by rw [bne_eq_false_iff_eq]; have := hnum.out; omega
          have hnT4 : nT ≤ 401 := by have := hnum.out; omega
          have hnD4 : nD ≤ 401 := by have := hnum.out; omega
          go_upto_region 14 with fail
          all_goals
            clear hne
            clear cD10 cD11 cD12 lD1 cDT0 cDT1 cDT2 lDT cDD0 cDD1 cDD2 lDD cA0 cA1 cA2 lA
            go_loopw [15] (fun i wr => ∃ j : Nat, j + 1 ≤ nT ∧ i = .int .i64 j ∧ ∃ q, wr = w15.drewN q) (fun i _ => nT - (intOf i).toNat)
            case atStart => exact ⟨0, by have := hnum.out; omega, rfl, 0, rfl⟩
            case round =>
              obtain ⟨j, hj, rfl, kd, rfl⟩ := hrel
              by_cases hlt : j + 1 < nT
              · have ltT : j < LT.length := by have := hnTh.out; omega
                have ltY : j < Y.length := by have := hnYh.out; have := hnum.out; have := hTl.out j hlt; have hx := hYh.out; have hsp := congrArg List.length (CmpP.csts_split m kk); rw [List.length_append] at hsp; rw [← hx]; simp; omega
                have hget : LT[j] = Y[j] := by
                  have h1 := hLTh.out
                  have h2 := hYh.out
                  subst h1
                  subst h2
                  exact CmpP.code_get m kk j (hTl.out j hlt) ltT ltY
                obtain ⟨g0, p0, x0, -, -, c00, c01, c02, c03, c04⟩ := InssR.at oLT_15.out j ltT
                obtain ⟨g1, p1, x1, -, -, c10, c11, c12, c13, c14⟩ := InssR.at oL1_15.out j ltY
                cases x0
                cases x1
                rw [hget] at c00 c01 c02 c03 c04
                clear hget
                generalize Y[j] = x at *
                have ltT2 : j < nT := by omega
                have ltY2 : j < nY := by rw [← hnYh.out]; exact ltY
                clear ltT ltY
                obtain ⟨cDT0, cDT1, cDT2⟩ := cells3 bDT_15
                have lDT := heap_lt bDT_15
                obtain ⟨cD10, cD11, cD12⟩ := cells3 bD1_15
                have lD1 := heap_lt bD1_15
                go_wp2_with fail
                go_quiet (fail)
                go_wp2
                go_roundw
                case rel => exact ⟨j + 1, by omega, by go_num, _, by first | rfl | exact World.drewN_drewN _ _ _⟩
                case measure => simp [intOf]; omega
              · have hge : nT ≤ j + 1 := by omega
                have hgeI : (nT : Int) ≤ (j : Int) + 1 := by omega
                clear hlt
                have hn16 : New w15 (w15.drewN kd) := drewN_kp _ kd (Kp.refl _ _)
                obtain ⟨cDT0, cDT1, cDT2⟩ := cells3 bDT_15
                have lDT := heap_lt bDT_15
                go_wp2
                go_ret
                exact ⟨rfl, (N15.trans hn16).toBelow⟩
        · go_simp
          clear cA0 cA1 cA2 lA
          obtain ⟨hn13, y13, bDD_13⟩ := newb w12 (.cells #[.slice none 0 0, .slice none 0 0, .slice none 0 0] 70)
          generalize w12.alloc (.cells #[.slice none 0 0, .slice none 0 0, .slice none 0 0] 70) = w13 at *
          have z13 := hn13.size
          have bA_13 := hn13.bk bA_12
          have bD1_13 := hn13.bk bD1_12
          have bD2_13 := hn13.bk bD2_12
          have bDT_13 := hn13.bk bDT_12
          have oA_13 := Lib.hid (oA_12.out.new (by omega) hn13)
          have oB_13 := Lib.hid (oB_12.out.new (by omega) hn13)
          have oC_13 := Lib.hid (oC_12.out.new (by omega) hn13)
          have oL1_13 := Lib.hid (oL1_12.out.new (by omega) hn13)
          have oLT_13 := Lib.hid (oLT_12.out.new (by omega) hn13)
          have N13 : New w w13 := N12.trans hn13
          clear bA_12 bD1_12 bD2_12 bDT_12 oA_12 oB_12 oC_12 oL1_12 oLT_12 N12 hn13
          obtain ⟨cA0, cA1, cA2⟩ := cells3 bA_13
          have lA := heap_lt bA_13
          refine hK.out _ _ ?_ (fun hHeld2 => ?_)
          · exact ⟨cA0, cA1, cA2⟩
          clear hK K hHeld
          have hHeld := hHeld2
          clear hHeld2
          try simp only [AP]
          refine AnyK.step (i := 9) (by kernel_rfl) rfl (fun K hK => ?_)
          go_simp
          clear cA0 cA1 cA2 lA
          refine (CmpN.implC (xa := ya) (xb := yb) (l := m.drop kk) oA_13.out oB_13.out (LawT.sts_from oC_13.out kk hkl) (by omega)).mono ?_
          rintro e w14 ⟨v1, v2, v3, rfl, hn14, hPD, hQD, hLD⟩
          rw [hfD.out]
          rw [hfD.out] at hPD hQD hLD
          simp only [if_true] at hPD hQD hLD
          rw [hLDh.out] at hLD
          have z14 := hn14.size
          have bA_14 := hn14.bk bA_13
          have bD1_14 := hn14.bk bD1_13
          have bD2_14 := hn14.bk bD2_13
          have bDT_14 := hn14.bk bDT_13
          have bDD_14 := hn14.bk bDD_13
          have oA_14 := Lib.hid (oA_13.out.new (by omega) hn14)
          have oB_14 := Lib.hid (oB_13.out.new (by omega) hn14)
          have oC_14 := Lib.hid (oC_13.out.new (by omega) hn14)
          have oL1_14 := Lib.hid (oL1_13.out.new (by omega) hn14)
          have oLT_14 := Lib.hid (oLT_13.out.new (by omega) hn14)
          have N14 : New w w14 := N13.trans hn14
          clear bA_13 bD1_13 bD2_13 bDT_13 bDD_13 oA_13 oB_13 oC_13 oL1_13 oLT_13 N13 hn14
          obtain ⟨aPD, dPD, ev, _⟩ := hPD.len
          rw [show (ya).length = ya.length from rfl] at ev
          subst ev
          have oPD_14 := Lib.hid hPD
          clear hPD
          obtain ⟨aQD, dQD, ev, _⟩ := hQD.len
          rw [show (yb).length = yb.length from rfl] at ev
          subst ev
          have oQD_14 := Lib.hid hQD
          clear hQD
          obtain ⟨aLD, dLD, ev, _⟩ := hLD.len
          rw [show (LD).length = nD from hnDh.out] at ev
          subst ev
          have oLD_14 := Lib.hid hLD
          clear hLD
          clear oPD_14
          clear oQD_14
          clear oLD_14
          obtain ⟨cA0, cA1, cA2⟩ := cells3 bA_14
          have lA := heap_lt bA_14
          refine hK.out _ _ ?_ (fun hHeld2 => ?_)
          · exact ⟨cA0, cA1, cA2⟩
          clear hK K hHeld
          have hHeld := hHeld2
          clear hHeld2
          try simp only [AP]
          refine AnyK.tw 10 rfl ?_
          try simp only [AP]
          refine AnyK.tw 11 rfl ?_
          try simp only [AP]
          refine AnyK.tw 12 rfl ?_
          try simp only [AP]
          refine AnyK.last (by kernel_rfl) ?_
          simp only [List.drop_succ_cons, List.drop_zero]
          clear hHeld
          clear cA0 cA1 cA2 lA
          obtain ⟨cDD0, cDD1, cDD2⟩ := cells3 bDD_14
          have fDD := frozen_of_heap bDD_14
          have lDD := heap_lt bDD_14
          go_upto_region 11 with fail
          have hk15 : Kp (fun k => k = w12.heap.size) w14 (((w14.setCell ⟨w12.heap.size, 0, none⟩ (.slice aPD ya.length dPD)).setCell ⟨w12.heap.size, 1, none⟩ (.slice aQD yb.length dQD)).setCell ⟨w12.heap.size, 2, none⟩ (.slice aLD nD dLD)) := (Kp.setCell (Kp.setCell (Kp.setCell (Kp.refl (fun k => k = w12.heap.size) _) (.inl rfl) _) (.inl rfl) _) (.inl rfl) _)
          have bDD_15 : (((w14.setCell ⟨w12.heap.size, 0, none⟩ (.slice aPD ya.length dPD)).setCell ⟨w12.heap.size, 1, none⟩ (.slice aQD yb.length dQD)).setCell ⟨w12.heap.size, 2, none⟩ (.slice aLD nD dLD)).heap[w12.heap.size]? = some (.cells #[.slice aPD ya.length dPD, .slice aQD yb.length dQD, .slice aLD nD dLD] 70) := (setCell_heap (setCell_heap (setCell_heap bDD_14 _) _) _)
          generalize (((w14.setCell ⟨w12.heap.size, 0, none⟩ (.slice aPD ya.length dPD)).setCell ⟨w12.heap.size, 1, none⟩ (.slice aQD yb.length dQD)).setCell ⟨w12.heap.size, 2, none⟩ (.slice aLD nD dLD)) = w15 at *
          have z15 := hk15.size
          have bA_15 := hk15.bo bA_14
          have bD1_15 := hk15.bo bD1_14
          have bD2_15 := hk15.bo bD2_14
          have bDT_15 := hk15.bo bDT_14
          have oA_15 := Lib.hid (oA_14.out.kp hk15 (by omega) (fun b e => by omega))
          have oB_15 := Lib.hid (oB_14.out.kp hk15 (by omega) (fun b e => by omega))
          have oC_15 := Lib.hid (oC_14.out.kp hk15 (by omega) (fun b e => by omega))
          have oL1_15 := Lib.hid (oL1_14.out.kp hk15 (by omega) (fun b e => by omega))
          have oLT_15 := Lib.hid (oLT_14.out.kp hk15 (by omega) (fun b e => by omega))
          have N15 : New w w15 := New.one N14 hk15 (by omega)
          clear cDD0 cDD1 cDD2 fDD lDD
          clear bA_14 bD1_14 bD2_14 bDT_14 bDD_14 oA_14 oB_14 oC_14 oL1_14 oLT_14 N14 hk15
          obtain ⟨cD10, cD11, cD12⟩ := cells3 bD1_15
          have lD1 := heap_lt bD1_15
          obtain ⟨cDT0, cDT1, cDT2⟩ := cells3 bDT_15
          have lDT := heap_lt bDT_15
          obtain ⟨cDD0, cDD1, cDD2⟩ := cells3 bDD_15
          have lDD := heap_lt bDD_15
          obtain ⟨cA0, cA1, cA2⟩ := cells3 bA_15
          have lA := heap_lt bA_15
          have hne : (((nT : Int) + (nD : Int)) != ((nY : Int) + 1)) = false := by rw [bne_eq_false_iff_eq]; have := hnum.out; omega
          have hnT4 : nT ≤ 401 := by have := hnum.out; omega
          have hnD4 : nD ≤ 401 := by have := hnum.out; omega
          go_upto_region 14 with fail
          all_goals
            clear hne
            clear cD10 cD11 cD12 lD1 cDT0 cDT1 cDT2 lDT cDD0 cDD1 cDD2 lDD cA0 cA1 cA2 lA
            go_loopw [15] (fun i wr => ∃ j : Nat, j + 1 ≤ nT ∧ i = .int .i64 j ∧ ∃ q, wr = w15.drewN q) (fun i _ => nT - (intOf i).toNat)
            case atStart => exact ⟨0, by have := hnum.out; omega, rfl, 0, rfl⟩
            case round =>
              obtain ⟨j, hj, rfl, kd, rfl⟩ := hrel
              by_cases hlt : j + 1 < nT
              · have ltT : j < LT.length := by have := hnTh.out; omega
                have ltY : j < Y.length := by have := hnYh.out; have := hnum.out; have := hTl.out j hlt; have hx := hYh.out; have hsp := congrArg List.length (CmpP.csts_split m kk); rw [List.length_append] at hsp; rw [← hx]; simp; omega
                have hget : LT[j] = Y[j] := by
                  have h1 := hLTh.out
                  have h2 := hYh.out
                  subst h1
                  subst h2
                  exact CmpP.code_get m kk j (hTl.out j hlt) ltT ltY
                obtain ⟨g0, p0, x0, -, -, c00, c01, c02, c03, c04⟩ := InssR.at oLT_15.out j ltT
                obtain ⟨g1, p1, x1, -, -, c10, c11, c12, c13, c14⟩ := InssR.at oL1_15.out j ltY
                cases x0
                cases x1
                rw [hget] at c00 c01 c02 c03 c04
                clear hget
                generalize Y[j] = x at *
                have ltT2 : j < nT := by omega
                have ltY2 : j < nY := by rw [← hnYh.out]; exact ltY
                clear ltT ltY
                obtain ⟨cDT0, cDT1, cDT2⟩ := cells3 bDT_15
                have lDT := heap_lt bDT_15
                obtain ⟨cD10, cD11, cD12⟩ := cells3 bD1_15
                have lD1 := heap_lt bD1_15
                go_wp2_with fail
                go_quiet (fail)
                go_wp2
                go_roundw
                case rel => exact ⟨j + 1, by omega, by go_num, _, by first | rfl | exact World.drewN_drewN _ _ _⟩
                case measure => simp [intOf]; omega
              · have hge : nT ≤ j + 1 := by omega
                have hgeI : (nT : Int) ≤ (j : Int) + 1 := by omega
                clear hlt
                have hn16 : New w15 (w15.drewN kd) := drewN_kp _ kd (Kp.refl _ _)
                obtain ⟨cDT0, cDT1, cDT2⟩ := cells3 bDT_15
                have lDT := heap_lt bDT_15
                go_wp2
                go_ret
                exact ⟨rfl, (N15.trans hn16).toBelow⟩
      · go_simp
        clear cA0 cA1 cA2 lA
        obtain ⟨hn9, y9, bDT_9⟩ := newb w8 (.cells #[.slice none 0 0, .slice none 0 0, .slice none 0 0] 70)
        generalize w8.alloc (.cells #[.slice none 0 0, .slice none 0 0, .slice none 0 0] 70) = w9 at *
        have z9 := hn9.size
        have bA_9 := hn9.bk bA_8
        have bD1_9 := hn9.bk bD1_8
        have bD2_9 := hn9.bk bD2_8
        have oA_9 := Lib.hid (oA_8.out.new (by omega) hn9)
        have oB_9 := Lib.hid (oB_8.out.new (by omega) hn9)
        have oC_9 := Lib.hid (oC_8.out.new (by omega) hn9)
        have oL1_9 := Lib.hid (oL1_8.out.new (by omega) hn9)
        have N9 : New w w9 := N8.trans hn9
        clear bA_8 bD1_8 bD2_8 oA_8 oB_8 oC_8 oL1_8 N8 hn9
        obtain ⟨cA0, cA1, cA2⟩ := cells3 bA_9
        have lA := heap_lt bA_9
        refine hK.out _ _ ?_ (fun hHeld2 => ?_)
        · exact ⟨cA0, cA1, cA2⟩
        clear hK K hHeld
        have hHeld := hHeld2
        clear hHeld2
        try simp only [AP]
        refine AnyK.step (i := 9) (by kernel_rfl) rfl (fun K hK => ?_)
        go_simp
        clear cA0 cA1 cA2 lA
        refine (CmpN.implC (xa := ya) (xb := yb) (l := m.take kk) oA_9.out oB_9.out (LawT.sts_take oC_9.out kk hkl) (by omega)).mono ?_
        rintro e w10 ⟨v1, v2, v3, rfl, hn10, hPT, hQT, hLT⟩
        rw [hfT.out]
        rw [hfT.out] at hPT hQT hLT
        simp only [if_true] at hPT hQT hLT
        rw [hLTh.out] at hLT
        have z10 := hn10.size
        have bA_10 := hn10.bk bA_9
        have bD1_10 := hn10.bk bD1_9
        have bD2_10 := hn10.bk bD2_9
        have bDT_10 := hn10.bk bDT_9
        have oA_10 := Lib.hid (oA_9.out.new (by omega) hn10)
        have oB_10 := Lib.hid (oB_9.out.new (by omega) hn10)
        have oC_10 := Lib.hid (oC_9.out.new (by omega) hn10)
        have oL1_10 := Lib.hid (oL1_9.out.new (by omega) hn10)
        have N10 : New w w10 := N9.trans hn10
        clear bA_9 bD1_9 bD2_9 bDT_9 oA_9 oB_9 oC_9 oL1_9 N9 hn10
        obtain ⟨aPT, dPT, ev, _⟩ := hPT.len
        rw [show (ya).length = ya.length from rfl] at ev
        subst ev
        have oPT_10 := Lib.hid hPT
        clear hPT
        obtain ⟨aQT, dQT, ev, _⟩ := hQT.len
        rw [show (yb).length = yb.length from rfl] at ev
        subst ev
        have oQT_10 := Lib.hid hQT
        clear hQT
        obtain ⟨aLT, dLT, ev, _⟩ := hLT.len
        rw [show (LT).length = nT from hnTh.out] at ev
        subst ev
        have oLT_10 := Lib.hid hLT
        clear hLT
        clear oPT_10
        clear oQT_10
        obtain ⟨cA0, cA1, cA2⟩ := cells3 bA_10
        have lA := heap_lt bA_10
        refine hK.out _ _ ?_ (fun hHeld2 => ?_)
        · exact ⟨cA0, cA1, cA2⟩
        clear hK K hHeld
        have hHeld := hHeld2
        clear hHeld2
        try simp only [AP]
        refine AnyK.tw 10 rfl ?_
        try simp only [AP]
        refine AnyK.tw 11 rfl ?_
        try simp only [AP]
        refine AnyK.tw 12 rfl ?_
        try simp only [AP]
        refine AnyK.last (by kernel_rfl) ?_
        simp only [List.drop_succ_cons, List.drop_zero]
        clear hHeld
        clear cA0 cA1 cA2 lA
        obtain ⟨cDT0, cDT1, cDT2⟩ := cells3 bDT_10
        have fDT := frozen_of_heap bDT_10
        have lDT := heap_lt bDT_10
        go_upto_region 10 with fail
        have hk11 : Kp (fun k => k = w8.heap.size) w10 (((w10.setCell ⟨w8.heap.size, 0, none⟩ (.slice aPT ya.length dPT)).setCell ⟨w8.heap.size, 1, none⟩ (.slice aQT yb.length dQT)).setCell ⟨w8.heap.size, 2, none⟩ (.slice aLT nT dLT)) := (Kp.setCell (Kp.setCell (Kp.setCell (Kp.refl (fun k => k = w8.heap.size) _) (.inl rfl) _) (.inl rfl) _) (.inl rfl) _)
        have bDT_11 : (((w10.setCell ⟨w8.heap.size, 0, none⟩ (.slice aPT ya.length dPT)).setCell ⟨w8.heap.size, 1, none⟩ (.slice aQT yb.length dQT)).setCell ⟨w8.heap.size, 2, none⟩ (.slice aLT nT dLT)).heap[w8.heap.size]? = some (.cells #[.slice aPT ya.length dPT, .slice aQT yb.length dQT, .slice aLT nT dLT] 70) := (setCell_heap (setCell_heap (setCell_heap bDT_10 _) _) _)
        generalize (((w10.setCell ⟨w8.heap.size, 0, none⟩ (.slice aPT ya.length dPT)).setCell ⟨w8.heap.size, 1, none⟩ (.slice aQT yb.length dQT)).setCell ⟨w8.heap.size, 2, none⟩ (.slice aLT nT dLT)) = w11 at *
        have z11 := hk11.size
        have bA_11 := hk11.bo bA_10
        have bD1_11 := hk11.bo bD1_10
        have bD2_11 := hk11.bo bD2_10
        have oA_11 := Lib.hid (oA_10.out.kp hk11 (by omega) (fun b e => by omega))
        have oB_11 := Lib.hid (oB_10.out.kp hk11 (by omega) (fun b e => by omega))
        have oC_11 := Lib.hid (oC_10.out.kp hk11 (by omega) (fun b e => by omega))
        have oL1_11 := Lib.hid (oL1_10.out.kp hk11 (by omega) (fun b e => by omega))
        have oLT_11 := Lib.hid (oLT_10.out.kp hk11 (by omega) (fun b e => by omega))
        have N11 : New w w11 := New.one N10 hk11 (by omega)
        clear cDT0 cDT1 cDT2 fDT lDT
        clear bA_10 bD1_10 bD2_10 bDT_10 oA_10 oB_10 oC_10 oL1_10 oLT_10 N10 hk11
        obtain ⟨cA0, cA1, cA2⟩ := cells3 bA_11
        have lA := heap_lt bA_11
        go_wp2_with fail
        refine wp_region_tail (k := 14) (S := fun w' => w'.cell? ⟨w1.heap.size, 0, none⟩ = some (.slice e1 ya.length f1) ∧ w'.cell? ⟨w1.heap.size, 1, none⟩ = some (.slice e2 yb.length f2) ∧ w'.cell? ⟨w1.heap.size, 2, none⟩ = some (.slice e3 m.length f3)) (by kernel_rfl) ?_ (fun hHeld => ?_)
        · exact ⟨cA0, cA1, cA2⟩
        clear cA0 cA1 cA2 lA
        have hn12 : New w11 w11.drew := (Kp.refl _ _).drew
        generalize w11.drew = w12 at *
        have z12 := hn12.size
        have bA_12 := hn12.bk bA_11
        have bD1_12 := hn12.bk bD1_11
        have bD2_12 := hn12.bk bD2_11
        have bDT_12 := hn12.bk bDT_11
        have oA_12 := Lib.hid (oA_11.out.new (by omega) hn12)
        have oB_12 := Lib.hid (oB_11.out.new (by omega) hn12)
        have oC_12 := Lib.hid (oC_11.out.new (by omega) hn12)
        have oL1_12 := Lib.hid (oL1_11.out.new (by omega) hn12)
        have oLT_12 := Lib.hid (oLT_11.out.new (by omega) hn12)
        have N12 : New w w12 := N11.trans hn12
        clear bA_11 bD1_11 bD2_11 bDT_11 oA_11 oB_11 oC_11 oL1_11 oLT_11 N11 hn12
        obtain ⟨cA0, cA1, cA2⟩ := cells3 bA_12
        have lA := heap_lt bA_12
        refine AnyK.tw 0 rfl ?_
        try simp only [AP]
        refine AnyK.tk 1 rfl ?_
        try simp only [AP]
        refine AnyK.tw 2 rfl ?_
        try simp only [AP]
        refine AnyK.tk 3 rfl ?_
        try simp only [AP]
        refine AnyK.tw 4 rfl ?_
        try simp only [AP]
        refine AnyK.tk 5 rfl ?_
        try simp only [AP]
        refine AnyK.tw 6 rfl ?_
        try simp only [AP]
        refine AnyK.tw 7 rfl ?_
        try simp only [AP]
        refine AnyK.tw 8 rfl ?_
        try simp only [AP]
        refine AnyK.two (i := 9) (j := 13) (by kernel_rfl) rfl rfl (fun K hK => ?_) (fun K hK => ?_)
        · go_simp
          clear cA0 cA1 cA2 lA
          refine (CmpN.implC (xa := ya) (xb := yb) (l := m.drop kk) oA_12.out oB_12.out (LawT.sts_from oC_12.out kk hkl) (by omega)).mono ?_
          rintro e w13 ⟨v1, v2, v3, rfl, hn13, hPD, hQD, hLD⟩
          rw [hfD.out]
          rw [hfD.out] at hPD hQD hLD
          simp only [if_true] at hPD hQD hLD
          rw [hLDh.out] at hLD
          have z13 := hn13.size
          have bA_13 := hn13.bk bA_12
          have bD1_13 := hn13.bk bD1_12
          have bD2_13 := hn13.bk bD2_12
          have bDT_13 := hn13.bk bDT_12
          have oA_13 := Lib.hid (oA_12.out.new (by omega) hn13)
          have oB_13 := Lib.hid (oB_12.out.new (by omega) hn13)
          have oC_13 := Lib.hid (oC_12.out.new (by omega) hn13)
          have oL1_13 := Lib.hid (oL1_12.out.new (by omega) hn13)
          have oLT_13 := Lib.hid (oLT_12.out.new (by omega) hn13)
          have N13 : New w w13 := N12.trans hn13
          clear bA_12 bD1_12 bD2_12 bDT_12 oA_12 oB_12 oC_12 oL1_12 oLT_12 N12 hn13
          obtain ⟨aPD, dPD, ev, _⟩ := hPD.len
          rw [show (ya).length = ya.length from rfl] at ev
          subst ev
          have oPD_13 := Lib.hid hPD
          clear hPD
          obtain ⟨aQD, dQD, ev, _⟩ := hQD.len
          rw [show (yb).length = yb.length from rfl] at ev
          subst ev
          have oQD_13 := Lib.hid hQD
          clear hQD
          obtain ⟨aLD, dLD, ev, _⟩ := hLD.len
          rw [show (LD).length = nD from hnDh.out] at ev
          subst ev
          have oLD_13 := Lib.hid hLD
          clear hLD
          clear oPD_13
          clear oQD_13
          clear oLD_13
          obtain ⟨cA0, cA1, cA2⟩ := cells3 bA_13
          have lA := heap_lt bA_13
          refine hK.out _ _ ?_ (fun hHeld2 => ?_)
          · exact ⟨cA0, cA1, cA2⟩
          clear hK K hHeld
          have hHeld := hHeld2
          clear hHeld2
          try simp only [AP]
          refine AnyK.tw 10 rfl ?_
          try simp only [AP]
          refine AnyK.tw 11 rfl ?_
          try simp only [AP]
          refine AnyK.tw 12 rfl ?_
          try simp only [AP]
          refine AnyK.step (i := 13) (by kernel_rfl) rfl (fun K hK => ?_)
          go_simp
          clear cA0 cA1 cA2 lA
          obtain ⟨hn14, y14, bDD_14⟩ := newb w13 (.cells #[.slice none 0 0, .slice none 0 0, .slice none 0 0] 70)
          generalize w13.alloc (.cells #[.slice none 0 0, .slice none 0 0, .slice none 0 0] 70) = w14 at *
          have z14 := hn14.size
          have bA_14 := hn14.bk bA_13
          have bD1_14 := hn14.bk bD1_13
          have bD2_14 := hn14.bk bD2_13
          have bDT_14 := hn14.bk bDT_13
          have oA_14 := Lib.hid (oA_13.out.new (by omega) hn14)
          have oB_14 := Lib.hid (oB_13.out.new (by omega) hn14)
          have oC_14 := Lib.hid (oC_13.out.new (by omega) hn14)
          have oL1_14 := Lib.hid (oL1_13.out.new (by omega) hn14)
          have oLT_14 := Lib.hid (oLT_13.out.new (by omega) hn14)
          have N14 : New w w14 := N13.trans hn14
          clear bA_13 bD1_13 bD2_13 bDT_13 oA_13 oB_13 oC_13 oL1_13 oLT_13 N13 hn14
          obtain ⟨cA0, cA1, cA2⟩ := cells3 bA_14
          have lA := heap_lt bA_14
          refine hK.out _ _ ?_ (fun hHeld2 => ?_)
          · exact ⟨cA0, cA1, cA2⟩
          clear hK K hHeld
          have hHeld := hHeld2
          clear hHeld2
          try simp only [AP]
          refine AnyK.last (by kernel_rfl) ?_
          simp only [List.drop_succ_cons, List.drop_zero]
          clear hHeld
          clear cA0 cA1 cA2 lA
          obtain ⟨cDD0, cDD1, cDD2⟩ := cells3 bDD_14
          have fDD := frozen_of_heap bDD_14
          have lDD := heap_lt bDD_14
          go_upto_region 11 with fail
          have hk15 : Kp (fun k => k = w13.heap.size) w14 (((w14.setCell ⟨w13.heap.size, 0, none⟩ (.slice aPD ya.length dPD)).setCell ⟨w13.heap.size, 1, none⟩ (.slice aQD yb.length dQD)).setCell ⟨w13.heap.size, 2, none⟩ (.slice aLD nD dLD)) := (Kp.setCell (Kp.setCell (Kp.setCell (Kp.refl (fun k => k = w13.heap.size) _) (.inl rfl) _) (.inl rfl) _) (.inl rfl) _)
          have bDD_15 : (((w14.setCell ⟨w13.heap.size, 0, none⟩ (.slice aPD ya.length dPD)).setCell ⟨w13.heap.size, 1, none⟩ (.slice aQD yb.length dQD)).setCell ⟨w13.heap.size, 2, none⟩ (.slice aLD nD dLD)).heap[w13.heap.size]? = some (.cells #[.slice aPD ya.length dPD, .slice aQD yb.length dQD, .slice aLD nD dLD] 70) := (setCell_heap (setCell_heap (setCell_heap bDD_14 _) _) _)
          generalize (((w14.setCell ⟨w13.heap.size, 0, none⟩ (.slice aPD ya.length dPD)).setCell ⟨w13.heap.size, 1, none⟩ (.slice aQD yb.length dQD)).setCell ⟨w13.heap.size, 2, none⟩ (.slice aLD nD dLD)) = w15 at *
          have z15 := hk15.size
          have bA_15 := hk15.bo bA_14
          have bD1_15 := hk15.bo bD1_14
          have bD2_15 := hk15.bo bD2_14
          have bDT_15 := hk15.bo bDT_14
          have oA_15 := Lib.hid (oA_14.out.kp hk15 (by omega) (fun b e => by omega))
          have oB_15 := Lib.hid (oB_14.out.kp hk15 (by omega) (fun b e => by omega))
          have oC_15 := Lib.hid (oC_14.out.kp hk15 (by omega) (fun b e => by omega))
          have oL1_15 := Lib.hid (oL1_14.out.kp hk15 (by omega) (fun b e => by omega))
          have oLT_15 := Lib.hid (oLT_14.out.kp hk15 (by omega) (fun b e => by omega))
          have N15 : New w w15 := New.one N14 hk15 (by omega)
          clear cDD0 cDD1 cDD2 fDD lDD
          clear bA_14 bD1_14 bD2_14 bDT_14 bDD_14 oA_14 oB_14 oC_14 oL1_14 oLT_14 N14 hk15
          obtain ⟨cD10, cD11, cD12⟩ := cells3 bD1_15
          have lD1 := heap_lt bD1_15
          obtain ⟨cDT0, cDT1, cDT2⟩ := cells3 bDT_15
          have lDT := heap_lt bDT_15
          obtain ⟨cDD0, cDD1, cDD2⟩ := cells3 bDD_15
          have lDD := heap_lt bDD_15
          obtain ⟨cA0, cA1, cA2⟩ := cells3 bA_15
          have lA := heap_lt bA_15
          have hne : (((nT : Int) + (nD : Int)) != ((nY : Int) + 1)) = false := by rw [bne_eq_false_iff_eq]; have := hnum.out; omega
          have hnT4 : nT ≤ 401 := by have := hnum.out; omega
          have hnD4 : nD ≤ 401 := by have := hnum.out; omega
          go_upto_region 14 with fail
          all_goals
            clear hne
            clear cD10 cD11 cD12 lD1 cDT0 cDT1 cDT2 lDT cDD0 cDD1 cDD2 lDD cA0 cA1 cA2 lA
            go_loopw [15] (fun i wr => ∃ j : Nat, j + 1 ≤ nT ∧ i = .int .i64 j ∧ ∃ q, wr = w15.drewN q) (fun i _ => nT - (intOf i).toNat)
            case atStart => exact ⟨0, by have := hnum.out; omega, rfl, 0, rfl⟩
            case round =>
              obtain ⟨j, hj, rfl, kd, rfl⟩ := hrel
              by_cases hlt : j + 1 < nT
              · have ltT : j < LT.length := by have := hnTh.out; omega
                have ltY : j < Y.length := by have := hnYh.out; have := hnum.out; have := hTl.out j hlt; have hx := hYh.out; have hsp := congrArg List.length (CmpP.csts_split m kk); rw [List.length_append] at hsp; rw [← hx]; simp; omega
                have hget : LT[j] = Y[j] := by
                  have h1 := hLTh.out
                  have h2 := hYh.out
                  subst h1
                  subst h2
                  exact CmpP.code_get m kk j (hTl.out j hlt) ltT ltY
                obtain ⟨g0, p0, x0, -, -, c00, c01, c02, c03, c04⟩ := InssR.at oLT_15.out j ltT
                obtain ⟨g1, p1, x1, -, -, c10, c11, c12, c13, c14⟩ := InssR.at oL1_15.out j ltY
                cases x0
                cases x1
                rw [hget] at c00 c01 c02 c03 c04
                clear hget
                generalize Y[j] = x at *
                have ltT2 : j < nT := by omega
                have ltY2 : j < nY := by rw [← hnYh.out]; exact ltY
                clear ltT ltY
                obtain ⟨cDT0, cDT1, cDT2⟩ := cells3 bDT_15
                have lDT := heap_lt bDT_15
                obtain ⟨cD10, cD11, cD12⟩ := cells3 bD1_15
                have lD1 := heap_lt bD1_15
                go_wp2_with fail
                go_quiet (fail)
                go_wp2
                go_roundw
                case rel => exact ⟨j + 1, by omega, by go_num, _, by first | rfl | exact World.drewN_drewN _ _ _⟩
                case measure => simp [intOf]; omega
              · have hge : nT ≤ j + 1 := by omega
                have hgeI : (nT : Int) ≤ (j : Int) + 1 := by omega
                clear hlt
                have hn16 : New w15 (w15.drewN kd) := drewN_kp _ kd (Kp.refl _ _)
                obtain ⟨cDT0, cDT1, cDT2⟩ := cells3 bDT_15
                have lDT := heap_lt bDT_15
                go_wp2
                go_ret
                exact ⟨rfl, (N15.trans hn16).toBelow⟩
        · go_simp
          clear cA0 cA1 cA2 lA
          obtain ⟨hn13, y13, bDD_13⟩ := newb w12 (.cells #[.slice none 0 0, .slice none 0 0, .slice none 0 0] 70)
          generalize w12.alloc (.cells #[.slice none 0 0, .slice none 0 0, .slice none 0 0] 70) = w13 at *
          have z13 := hn13.size
          have bA_13 := hn13.bk bA_12
          have bD1_13 := hn13.bk bD1_12
          have bD2_13 := hn13.bk bD2_12
          have bDT_13 := hn13.bk bDT_12
          have oA_13 := Lib.hid (oA_12.out.new (by omega) hn13)
          have oB_13 := Lib.hid (oB_12.out.new (by omega) hn13)
          have oC_13 := Lib.hid (oC_12.out.new (by omega) hn13)
          have oL1_13 := Lib.hid (oL1_12.out.new (by omega) hn13)
          have oLT_13 := Lib.hid (oLT_12.out.new (by omega) hn13)
          have N13 : New w w13 := N12.trans hn13
          clear bA_12 bD1_12 bD2_12 bDT_12 oA_12 oB_12 oC_12 oL1_12 oLT_12 N12 hn13
          obtain ⟨cA0, cA1, cA2⟩ := cells3 bA_13
          have lA := heap_lt bA_13
          refine hK.out _ _ ?_ (fun hHeld2 => ?_)
          · exact ⟨cA0, cA1, cA2⟩
          clear hK K hHeld
          have hHeld := hHeld2
          clear hHeld2
          try simp only [AP]
          refine AnyK.step (i := 9) (by kernel_rfl) rfl (fun K hK => ?_)
          go_simp
          clear cA0 cA1 cA2 lA
          refine (CmpN.implC (xa := ya) (xb := yb) (l := m.drop kk) oA_13.out oB_13.out (LawT.sts_from oC_13.out kk hkl) (by omega)).mono ?_
          rintro e w14 ⟨v1, v2, v3, rfl, hn14, hPD, hQD, hLD⟩
          rw [hfD.out]
          rw [hfD.out] at hPD hQD hLD
          simp only [if_true] at hPD hQD hLD
          rw [hLDh.out] at hLD
          have z14 := hn14.size
          have bA_14 := hn14.bk bA_13
          have bD1_14 := hn14.bk bD1_13
          have bD2_14 := hn14.bk bD2_13
          have bDT_14 := hn14.bk bDT_13
          have bDD_14 := hn14.bk bDD_13
          have oA_14 := Lib.hid (oA_13.out.new (by omega) hn14)
          have oB_14 := Lib.hid (oB_13.out.new (by omega) hn14)
          have oC_14 := Lib.hid (oC_13.out.new (by omega) hn14)
          have oL1_14 := Lib.hid (oL1_13.out.new (by omega) hn14)
          have oLT_14 := Lib.hid (oLT_13.out.new (by omega) hn14)
          have N14 : New w w14 := N13.trans hn14
          clear bA_13 bD1_13 bD2_13 bDT_13 bDD_13 oA_13 oB_13 oC_13 oL1_13 oLT_13 N13 hn14
          obtain ⟨aPD, dPD, ev, _⟩ := hPD.len
          rw [show (ya).length = ya.length from rfl] at ev
          subst ev
          have oPD_14 := Lib.hid hPD
          clear hPD
          obtain ⟨aQD, dQD, ev, _⟩ := hQD.len
          rw [show (yb).length = yb.length from rfl] at ev
          subst ev
          have oQD_14 := Lib.hid hQD
          clear hQD
          obtain ⟨aLD, dLD, ev, _⟩ := hLD.len
          rw [show (LD).length = nD from hnDh.out] at ev
          subst ev
          have oLD_14 := Lib.hid hLD
          clear hLD
          clear oPD_14
          clear oQD_14
          clear oLD_14
          obtain ⟨cA0, cA1, cA2⟩ := cells3 bA_14
          have lA := heap_lt bA_14
          refine hK.out _ _ ?_ (fun hHeld2 => ?_)
          · exact ⟨cA0, cA1, cA2⟩
          clear hK K hHeld
          have hHeld := hHeld2
          clear hHeld2
          try simp only [AP]
          refine AnyK.tw 10 rfl ?_
          try simp only [AP]
          refine AnyK.tw 11 rfl ?_
          try simp only [AP]
          refine AnyK.tw 12 rfl ?_
          try simp only [AP]
          refine AnyK.last (by kernel_rfl) ?_
          simp only [List.drop_succ_cons, List.drop_zero]
          clear hHeld
          clear cA0 cA1 cA2 lA
          obtain ⟨cDD0, cDD1, cDD2⟩ := cells3 bDD_14
          have fDD := frozen_of_heap bDD_14
          have lDD := heap_lt bDD_14
          go_upto_region 11 with fail
          have hk15 : Kp (fun k => k = w12.heap.size) w14 (((w14.setCell ⟨w12.heap.size, 0, none⟩ (.slice aPD ya.length dPD)).setCell ⟨w12.heap.size, 1, none⟩ (.slice aQD yb.length dQD)).setCell ⟨w12.heap.size, 2, none⟩ (.slice aLD nD dLD)) := (Kp.setCell (Kp.setCell (Kp.setCell (Kp.refl (fun k => k = w12.heap.size) _) (.inl rfl) _) (.inl rfl) _) (.inl rfl) _)
          have bDD_15 : (((w14.setCell ⟨w12.heap.size, 0, none⟩ (.slice aPD ya.length dPD)).setCell ⟨w12.heap.size, 1, none⟩ (.slice aQD yb.length dQD)).setCell ⟨w12.heap.size, 2, none⟩ (.slice aLD nD dLD)).heap[w12.heap.size]? = some (.cells #[.slice aPD ya.length dPD, .slice aQD yb.length dQD, .slice aLD nD dLD] 70) := (setCell_heap (setCell_heap (setCell_heap bDD_14 _) _) _)
          generalize (((w14.setCell ⟨w12.heap.size, 0, none⟩ (.slice aPD ya.length dPD)).setCell ⟨w12.heap.size, 1, none⟩ (.slice aQD yb.length dQD)).setCell ⟨w12.heap.size, 2, none⟩ (.slice aLD nD dLD)) = w15 at *
          have z15 := hk15.size
          have bA_15 := hk15.bo bA_14
          have bD1_15 := hk15.bo bD1_14
          have bD2_15 := hk15.bo bD2_14
          have bDT_15 := hk15.bo bDT_14
          have oA_15 := Lib.hid (oA_14.out.kp hk15 (by omega) (fun b e => by omega))
          have oB_15 := Lib.hid (oB_14.out.kp hk15 (by omega) (fun b e => by omega))
          have oC_15 := Lib.hid (oC_14.out.kp hk15 (by omega) (fun b e => by omega))
          have oL1_15 := Lib.hid (oL1_14.out.kp hk15 (by omega) (fun b e => by omega))
          have oLT_15 := Lib.hid (oLT_14.out.kp hk15 (by omega) (fun b e => by omega))
          have N15 : New w w15 := New.one N14 hk15 (by omega)
          clear cDD0 cDD1 cDD2 fDD lDD
          clear bA_14 bD1_14 bD2_14 bDT_14 bDD_14 oA_14 oB_14 oC_14 oL1_14 oLT_14 N14 hk15
          obtain ⟨cD10, cD11, cD12⟩ := cells3 bD1_15
          have lD1 := heap_lt bD1_15
          obtain ⟨cDT0, cDT1, cDT2⟩ := cells3 bDT_15
          have lDT := heap_lt bDT_15
          obtain ⟨cDD0, cDD1, cDD2⟩ := cells3 bDD_15
          have lDD := heap_lt bDD_15
          obtain ⟨cA0, cA1, cA2⟩ := cells3 bA_15
          have lA := heap_lt bA_15
          have hne : (((nT : Int) + (nD : Int)) != ((nY : Int) + 1)) = false := by rw [bne_eq_false_iff_eq]; have := hnum.out; omega
          have hnT4 : nT ≤ 401 := by have := hnum.out; omega
          have hnD4 : nD ≤ 401 := by have := hnum.out; omega
          go_upto_region 14 with fail
          all_goals
            clear hne
            clear cD10 cD11 cD12 lD1 cDT0 cDT1 cDT2 lDT cDD0 cDD1 cDD2 lDD cA0 cA1 cA2 lA
            go_loopw [15] (fun i wr => ∃ j : Nat, j + 1 ≤ nT ∧ i = .int .i64 j ∧ ∃ q, wr = w15.drewN q) (fun i _ => nT - (intOf i).toNat)
            case atStart => exact ⟨0, by have := hnum.out; omega, rfl, 0, rfl⟩
            case round =>
              obtain ⟨j, hj, rfl, kd, rfl⟩ := hrel
              by_cases hlt : j + 1 < nT
              · have ltT : j < LT.length := by have := hnTh.out; omega
                have ltY : j < Y.length := by have := hnYh.out; have := hnum.out; have := hTl.out j hlt; have hx := hYh.out; have hsp := congrArg List.length (CmpP.csts_split m kk); rw [List.length_append] at hsp; rw [← hx]; simp; omega
                have hget : LT[j] = Y[j] := by
                  have h1 := hLTh.out
                  have h2 := hYh.out
                  subst h1
                  subst h2
                  exact CmpP.code_get m kk j (hTl.out j hlt) ltT ltY
                obtain ⟨g0, p0, x0, -, -, c00, c01, c02, c03, c04⟩ := InssR.at oLT_15.out j ltT
                obtain ⟨g1, p1, x1, -, -, c10, c11, c12, c13, c14⟩ := InssR.at oL1_15.out j ltY
                cases x0
                cases x1
                rw [hget] at c00 c01 c02 c03 c04
                clear hget
                generalize Y[j] = x at *
                have ltT2 : j < nT := by omega
                have ltY2 : j < nY := by rw [← hnYh.out]; exact ltY
                clear ltT ltY
                obtain ⟨cDT0, cDT1, cDT2⟩ := cells3 bDT_15
                have lDT := heap_lt bDT_15
                obtain ⟨cD10, cD11, cD12⟩ := cells3 bD1_15
                have lD1 := heap_lt bD1_15
                go_wp2_with fail
                go_quiet (fail)
                go_wp2
                go_roundw
                case rel => exact ⟨j + 1, by omega, by go_num, _, by first | rfl | exact World.drewN_drewN _ _ _⟩
                case measure => simp [intOf]; omega
              · have hge : nT ≤ j + 1 := by omega
                have hgeI : (nT : Int) ≤ (j : Int) + 1 := by omega
                clear hlt
                have hn16 : New w15 (w15.drewN kd) := drewN_kp _ kd (Kp.refl _ _)
                obtain ⟨cDT0, cDT1, cDT2⟩ := cells3 bDT_15
                have lDT := heap_lt bDT_15
                go_wp2
                go_ret
                exact ⟨rfl, (N15.trans hn16).toBelow⟩
set_option maxRecDepth 100000 in
theorem lifted (os : Os) (started : os.Started) (H : Type) (enc : TypeId × Value → H) :
    ReturnsInHanded {} Try.checked os 11 .any (Rows.fnCompileSequenceSpec.pre6 enc Try.prog Try.f11 Rows.fnCompileSequenceRow.domain false) (Rows.fnCompileSequenceSpec.post enc Try.prog Try.f11 false true false false) := by
  refine returnsInHanded_of_change (C := Try.checked) own started (by kernel_rfl) Try.func11
    (ChangeSpec.witness6 (enc := enc) (C := Try.checked) false ⟨#[], #[.slice none 0 0, .slice none 0 0], []⟩ 8 (by kernel_rfl) (by kernel_rfl) (by kernel_rfl) (by kernel_rfl)) ?_
  intro W base args ds gs before hval0 hW hcnd _
  have hval : ∀ (j : Nat) t v, Try.f11.params[j]? = some t → args[j]? = some v → Value.okWide Try.prog W .any base t v := hval0
  have hW' := hW
  obtain ⟨p, q, hA0, hV, rfl, hfz, hnd⟩ := hW
  have hA : DataW.TrodAll enc Try.prog W 0 (fun _ => true) true Try.f11.params.toList args.toList ds p := hA0
  rw [Try.params11] at hA hval
  obtain ⟨v0, vs0, d0, ds0, p0, q0, hargs, rfl, rfl, h0, r0⟩ := trodAll_cons hA
  obtain ⟨v1, vs1, d1, ds1, p1, q1, rfl, rfl, rfl, h1, r1⟩ := trodAll_cons r0
  obtain ⟨rfl, rfl, rfl⟩ := trodAll_nil r1
  obtain rfl : args = #[v0, v1] := by cases args; simp_all
  obtain ⟨rfl, rfl⟩ := trodVars_none hV
  have kk0 := h0
  have lt0 : ∀ x ∈ p0, x.block < W.heap.size := by obtain ⟨m, hm⟩ := kk0; exact DataW.trod_lt m _ _ _ hm
  obtain ⟨a0, l0, c0, rfl, s0⟩ := Kit.open_bytes Try.underlying22 Try.underlying5 (by kernel_rfl) (hval 0 22 v0 rfl rfl) h0
  have kk1 := h1
  have lt1 : ∀ x ∈ p1, x.block < W.heap.size := by obtain ⟨m, hm⟩ := kk1; exact DataW.trod_lt m _ _ _ hm
  obtain ⟨a1, l1, c1, rfl, s1⟩ := Kit.open_bytes Try.underlying22 Try.underlying5 (by kernel_rfl) (hval 1 22 v1 rfl rfl) h1
  clear hA0 hval0
  refine (walk a0 l0 c0 a1 l1 c1 W s0 s1).mono fun e W' ⟨he, bel⟩ => ?_
  subst he
  exact ⟨_, rfl, _, _, _, [], _, [], hW', trodAll_mk1 (shut_bool Try.underlying4 _), (trodAll_cons_mk (Below.trod laidOut (by kernel_rfl) (of_decide_eq_true (by kernel_rfl)) kk0 bel lt0) (trodAll_cons_mk (Below.trod laidOut (by kernel_rfl) (of_decide_eq_true (by kernel_rfl)) kk1 bel lt1) trodAll_mk0)), rfl, bel.frame _, fun h => by cases h⟩
theorem over : Rows.fnCompileSequenceRow.holds Try.pinned (OpenSpec.ofChange Rows.fnCompileSequenceSpec) :=
  OpenClaim.holds_of_wide 11 Try.f11 rfl rfl rfl rfl rfl rfl rfl ⟨rfl, rfl, rfl, rfl, rfl⟩ rfl rfl rfl rfl rfl (by kernel_rfl) Try.func11 (by kernel_rfl)
    (of_decide_eq_true (by kernel_rfl)) (by unfold Func.isWrapper; first | (rw [if_pos (by decide +kernel)]; kernel_rfl) | (rw [if_neg (by decide +kernel)]; exact ⟨rfl, rfl⟩))
    (fun os started H enc _ => lifted os started H enc)
theorem proved : Rows.FnCompileSequenceSaid := over
#print axioms proved
end Go.Proofs.Ytckikiaockkmbaa.fnCompileSequence
