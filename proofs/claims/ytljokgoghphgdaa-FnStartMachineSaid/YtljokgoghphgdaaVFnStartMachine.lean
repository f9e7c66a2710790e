/- FnStartMachine: for every input the law returns true, and the arguments read as they did. No conditions. -/
import Derived.Test.YtljokgoghphgdaaRows
import Derived.Test.YtljokgoghphgdaaVDrawA
import Derived.Test.YtljokgoghphgdaaVStartC
import Derived.Test.YtljokgoghphgdaaVMachV
import Derived.Test.YtljokgoghphgdaaVP6
import Derived.Test.YtljokgoghphgdaaVLawA
import Derived.WalkKit
import Derived.ProofKit
import Derived.OpenShut
import Derived.ShutString
import Derived.ChangeOld
import Derived.Below
namespace Go.Proofs.Ytljokgoghphgdaa.fnStartMachine
open Go.ChangeShapes Go.WideShapes Go.ChangeAt Go.RowKit Kit MarkC
open Go.ChangeMaps (open_string shut_string)
set_option linter.unusedVariables false
theorem own : ownKnob Try.prog.godebug = none := by kernel_rfl
theorem laidOut : laidOutB Try.prog = true := by kernel_rfl
set_option maxHeartbeats 1000000 in
theorem walk (a0 : Option Addr) (l0 c0 : Nat) (w : World) (s0 : Kit.Src w a0 l0 c0) :
    Calls Try.prog 6 #[.slice a0 l0 c0] w fun e w' => e = .returned (.bool true) ∧ Below w.heap.size w w' := by
  by_cases hl : 1048576 < l0
  · go_enter Try.func6, Try.ntmps6
    go_wp2
    go_ret
    exact ⟨rfl, Below.refl _ _⟩
  · go_enter Try.func6, Try.ntmps6
    go_wp2_with fail
    refine (DrawA.drawStart _ a0 l0 c0 s0).mono ?_
    rintro e w1 ⟨a1, a2, a3, d1, d2, d3, xa, xb, x, va, vb, ya, yb, rfl, N1, hC, hO, hxa, hxb, hx, hya, hyb, hr⟩
    obtain ⟨⟨aa, da, rfl⟩, ab, db, rfl⟩ := hO.lens
    have oS_1 := Lib.hid hO
    have hrh := Lib.hid hr
    clear hO hr
    have oC_1 := Lib.hid hC
    clear hC
    have zw := N1.size
    have hn2 : New w1 ((w1.alloc (.cells #[.slice a1 xa.length d1, .slice a2 xb.length d2, .slice a3 x.length d3] 26)).alloc (.cells #[.slice aa ya.length da, .slice ab yb.length db] 29)) := ((Kp.refl _ _).alloc _).alloc _
    have bA_2 : ((w1.alloc (.cells #[.slice a1 xa.length d1, .slice a2 xb.length d2, .slice a3 x.length d3] 26)).alloc (.cells #[.slice aa ya.length da, .slice ab yb.length db] 29)).heap[w1.heap.size]? = some (.cells #[.slice a1 xa.length d1, .slice a2 xb.length d2, .slice a3 x.length d3] 26) := heap_old (alloc_heap _ _)
    have bB_2 : ((w1.alloc (.cells #[.slice a1 xa.length d1, .slice a2 xb.length d2, .slice a3 x.length d3] 26)).alloc (.cells #[.slice aa ya.length da, .slice ab yb.length db] 29)).heap[w1.heap.size + 1]? = some (.cells #[.slice aa ya.length da, .slice ab yb.length db] 29) := heap_at (by simp)
    have y2 : w1.heap.size + 1 < ((w1.alloc (.cells #[.slice a1 xa.length d1, .slice a2 xb.length d2, .slice a3 x.length d3] 26)).alloc (.cells #[.slice aa ya.length da, .slice ab yb.length db] 29)).heap.size := by simp
    go_upto_region 4 with fail
    generalize ((w1.alloc (.cells #[.slice a1 xa.length d1, .slice a2 xb.length d2, .slice a3 x.length d3] 26)).alloc (.cells #[.slice aa ya.length da, .slice ab yb.length db] 29)) = w2 at *
    have z2 : w1.heap.size ≤ w2.heap.size := hn2.size
    have oC_2 := Lib.hid ((⟨oC_1.out.1.new (by omega) hn2, oC_1.out.2.1.new (by omega) hn2, oC_1.out.2.2.new (by omega) hn2⟩ : _ ∧ _ ∧ _))
    have oS_2 := Lib.hid (oS_1.out.new (by omega) hn2)
    have N2 : New w w2 := N1.trans hn2
    clear oC_1 oS_1 N1 hn2
    have hb : ∀ y ∈ yb, y.length ≤ 1099511627776 := fun y hy => by have := hrh.out y hy; omega
    have hbh := Lib.hid hb
    clear hb
    obtain ⟨t, ht⟩ : ∃ t, (Val.codeB xa xb x && Val.fitB xa.length xb.length ya yb) = t := ⟨_, rfl⟩
    have hth := Lib.hid ht
    clear ht
    cases t
    · have cA0 := cell_of_heap bA_2 0
      have cA1 := cell_of_heap bA_2 1
      have cA2 := cell_of_heap bA_2 2
      have lA := heap_lt bA_2
      have cB0 := cell_of_heap bB_2 0
      have cB1 := cell_of_heap bB_2 1
      have lB := heap_lt bB_2
      go_wp2_with fail
      clear cA0 cA1 cA2 lA cB0 cB1 lB
      refine (StartC.implS w2 w.heap.size w1.heap.size w.heap.size w1.heap.size _ _ _ _ _ xa xb ya x yb oC_2.out.1 oC_2.out.2.1 oC_2.out.2.2 (by omega) oS_2.out (by omega) (by omega) (by omega) hbh.out).mono ?_
      intro e w3 h3
      rw [hth.out] at h3
      obtain ⟨vrX, vaX, vbX, rfl, hn3, hOX⟩ := h3
      have z3 : w2.heap.size ≤ w3.heap.size := hn3.size
      have bA_3 := (hn3.block _ (heap_lt bA_2) (fun f => f)).trans bA_2
      have bB_3 := (hn3.block _ (heap_lt bB_2) (fun f => f)).trans bB_2
      have oC_3 := Lib.hid ((⟨oC_2.out.1.new (by omega) hn3, oC_2.out.2.1.new (by omega) hn3, oC_2.out.2.2.new (by omega) hn3⟩ : _ ∧ _ ∧ _))
      have oS_3 := Lib.hid (oS_2.out.new (by omega) hn3)
      have N3 : New w w3 := N2.trans hn3
      clear bA_2 bB_2 oC_2 oS_2 N2 hn3
      have hPX : MachO w3 _ _ _ _ _ ([] : List Int) ([] : List Int) ([] : List (List Int)) := hOX
      obtain ⟨⟨arX, drX, erX⟩, ⟨aaX, daX, eaX⟩, abX, dbX, ebX⟩ := StartM.lens3 hPX
      replace erX : vrX = .slice arX 0 drX := erX
      replace eaX : vaX = .slice aaX 0 daX := eaX
      replace ebX : vbX = .slice abX 0 dbX := ebX
      subst erX eaX ebX
      have oX_3 := Lib.hid hPX
      clear hPX hOX
      have hsX : w2.heap.size ≤ w3.heap.size := z3
      have hn4 : New w3 (w3.alloc (.cells #[.int .i64 0, .slice arX 0 drX, .slice aaX 0 daX, .slice abX 0 dbX] 31)) := (Kp.refl _ _).alloc _
      have y4 : w3.heap.size < (w3.alloc (.cells #[.int .i64 0, .slice arX 0 drX, .slice aaX 0 daX, .slice abX 0 dbX] 31)).heap.size := DrawX.lt_alloc _ _
      have bX_4 := alloc_heap w3 (.cells #[.int .i64 0, .slice arX 0 drX, .slice aaX 0 daX, .slice abX 0 dbX] 31)
      go_upto_region 5 with fail
      generalize hbX : w3.heap.size = bX at bX_4 y4 ⊢
      generalize (w3.alloc (.cells #[.int .i64 0, .slice arX 0 drX, .slice aaX 0 daX, .slice abX 0 dbX] 31)) = w4 at *
      have z4 : w3.heap.size ≤ w4.heap.size := hn4.size
      have bA_4 := (hn4.block _ (heap_lt bA_3) (fun f => f)).trans bA_3
      have bB_4 := (hn4.block _ (heap_lt bB_3) (fun f => f)).trans bB_3
      have oC_4 := Lib.hid ((⟨oC_3.out.1.new (by omega) hn4, oC_3.out.2.1.new (by omega) hn4, oC_3.out.2.2.new (by omega) hn4⟩ : _ ∧ _ ∧ _))
      have oS_4 := Lib.hid (oS_3.out.new (by omega) hn4)
      have oX_4 := Lib.hid (oX_3.out.new (by omega) hn4)
      have N4 : New w w4 := N3.trans hn4
      clear bA_3 bB_3 oC_3 oS_3 oX_3 N3 hn4
      have cA0 := cell_of_heap bA_4 0
      have cA1 := cell_of_heap bA_4 1
      have cA2 := cell_of_heap bA_4 2
      have lA := heap_lt bA_4
      have cB0 := cell_of_heap bB_4 0
      have cB1 := cell_of_heap bB_4 1
      have lB := heap_lt bB_4
      go_wp2_with fail
      clear cA0 cA1 cA2 lA cB0 cB1 lB
      refine (StartC.specS w4 w.heap.size w1.heap.size w.heap.size w1.heap.size _ _ _ _ _ xa xb ya x yb oC_4.out.1 oC_4.out.2.1 oC_4.out.2.2 (by omega) oS_4.out.reads.1 oS_4.out.reads.2 (by omega) (by omega) (by omega) hbh.out).mono ?_
      intro e w5 h3
      rw [hth.out] at h3
      obtain ⟨vrY, vaY, vbY, rfl, hn5, hOY⟩ := h3
      have z5 : w4.heap.size ≤ w5.heap.size := hn5.size
      have bA_5 := (hn5.block _ (heap_lt bA_4) (fun f => f)).trans bA_4
      have bB_5 := (hn5.block _ (heap_lt bB_4) (fun f => f)).trans bB_4
      have bX_5 := (hn5.block _ (heap_lt bX_4) (fun f => f)).trans bX_4
      have oC_5 := Lib.hid ((⟨oC_4.out.1.new (by omega) hn5, oC_4.out.2.1.new (by omega) hn5, oC_4.out.2.2.new (by omega) hn5⟩ : _ ∧ _ ∧ _))
      have oS_5 := Lib.hid (oS_4.out.new (by omega) hn5)
      have oX_5 := Lib.hid (oX_4.out.new (by omega) hn5)
      have N5 : New w w5 := N4.trans hn5
      clear bA_4 bB_4 bX_4 oC_4 oS_4 oX_4 N4 hn5
      have hPY : MachO w5 _ _ _ _ _ ([] : List Int) ([] : List Int) ([] : List (List Int)) := hOY
      obtain ⟨⟨arY, drY, erY⟩, ⟨aaY, daY, eaY⟩, abY, dbY, ebY⟩ := StartM.lens3 hPY
      replace erY : vrY = .slice arY 0 drY := erY
      replace eaY : vaY = .slice aaY 0 daY := eaY
      replace ebY : vbY = .slice abY 0 dbY := ebY
      subst erY eaY ebY
      have oY_5 := Lib.hid hPY
      clear hPY hOY
      have hsY : w4.heap.size ≤ w5.heap.size := z5
      have hn6 : New w5 (w5.alloc (.cells #[.int .i64 0, .slice arY 0 drY, .slice aaY 0 daY, .slice abY 0 dbY] 31)) := (Kp.refl _ _).alloc _
      have y6 : w5.heap.size < (w5.alloc (.cells #[.int .i64 0, .slice arY 0 drY, .slice aaY 0 daY, .slice abY 0 dbY] 31)).heap.size := DrawX.lt_alloc _ _
      have bY_6 := alloc_heap w5 (.cells #[.int .i64 0, .slice arY 0 drY, .slice aaY 0 daY, .slice abY 0 dbY] 31)
      go_upto_region 6 with fail
      generalize hbY : w5.heap.size = bY at bY_6 y6 ⊢
      generalize (w5.alloc (.cells #[.int .i64 0, .slice arY 0 drY, .slice aaY 0 daY, .slice abY 0 dbY] 31)) = w6 at *
      have z6 : w5.heap.size ≤ w6.heap.size := hn6.size
      have bA_6 := (hn6.block _ (heap_lt bA_5) (fun f => f)).trans bA_5
      have bB_6 := (hn6.block _ (heap_lt bB_5) (fun f => f)).trans bB_5
      have bX_6 := (hn6.block _ (heap_lt bX_5) (fun f => f)).trans bX_5
      have oC_6 := Lib.hid ((⟨oC_5.out.1.new (by omega) hn6, oC_5.out.2.1.new (by omega) hn6, oC_5.out.2.2.new (by omega) hn6⟩ : _ ∧ _ ∧ _))
      have oS_6 := Lib.hid (oS_5.out.new (by omega) hn6)
      have oX_6 := Lib.hid (oX_5.out.new (by omega) hn6)
      have oY_6 := Lib.hid (oY_5.out.new (by omega) hn6)
      have N6 : New w w6 := N5.trans hn6
      clear bA_5 bB_5 bX_5 oC_5 oS_5 oX_5 oY_5 N5 hn6
      have cX0 := cell_of_heap bX_6 0
      have cX1 := cell_of_heap bX_6 1
      have cX2 := cell_of_heap bX_6 2
      have cX3 := cell_of_heap bX_6 3
      have lX := heap_lt bX_6
      have cY0 := cell_of_heap bY_6 0
      have cY1 := cell_of_heap bY_6 1
      have cY2 := cell_of_heap bY_6 2
      have cY3 := cell_of_heap bY_6 3
      have lY := heap_lt bY_6
      go_wp2_with fail
      clear cX0 cX1 cX2 cX3 lX cY0 cY1 cY2 cY3 lY
      refine (SameS.implSame w6 _ _ _ _ 0 0 _ _ _ _ _ _ ([] : List Int) ([] : List Int) ([] : List Int) ([] : List Int) ([] : List (List Int)) ([] : List (List Int)) oX_6.out.reads.1 oX_6.out.reads.2.1 oX_6.out.reads.2.2 oY_6.out.reads.1 oY_6.out.reads.2.1 oY_6.out.reads.2.2 (by omega) (by omega)).mono ?_
      rintro e w7 ⟨rfl, hn7⟩
      have z7 : w6.heap.size ≤ w7.heap.size := hn7.size
      have bA_7 := (hn7.block _ (heap_lt bA_6) (fun f => f)).trans bA_6
      have bB_7 := (hn7.block _ (heap_lt bB_6) (fun f => f)).trans bB_6
      have bX_7 := (hn7.block _ (heap_lt bX_6) (fun f => f)).trans bX_6
      have bY_7 := (hn7.block _ (heap_lt bY_6) (fun f => f)).trans bY_6
      have oC_7 := Lib.hid ((⟨oC_6.out.1.new (by omega) hn7, oC_6.out.2.1.new (by omega) hn7, oC_6.out.2.2.new (by omega) hn7⟩ : _ ∧ _ ∧ _))
      have oS_7 := Lib.hid (oS_6.out.new (by omega) hn7)
      have oX_7 := Lib.hid (oX_6.out.new (by omega) hn7)
      have oY_7 := Lib.hid (oY_6.out.new (by omega) hn7)
      have N7 : New w w7 := N6.trans hn7
      clear bA_6 bB_6 bX_6 bY_6 oC_6 oS_6 oX_6 oY_6 N6 hn7
      have hs : ((0 : Int) == 0 && (decide (([] : List Int) = ([] : List Int)) && (decide (([] : List Int) = ([] : List Int)) && decide (([] : List (List Int)) = ([] : List (List Int)))))) = true := by simp
      rw [hs]
      clear hs
      have cX0 := cell_of_heap bX_7 0
      have cX1 := cell_of_heap bX_7 1
      have cX2 := cell_of_heap bX_7 2
      have cX3 := cell_of_heap bX_7 3
      have lX := heap_lt bX_7
      have cY0 := cell_of_heap bY_7 0
      have cY1 := cell_of_heap bY_7 1
      have cY2 := cell_of_heap bY_7 2
      have cY3 := cell_of_heap bY_7 3
      have lY := heap_lt bY_7
      go_wp2_with fail
      clear cX0 cX1 cX2 cX3 lX cY0 cY1 cY2 cY3 lY
      refine (SameS.implSame w7 _ _ _ _ 0 0 _ _ _ _ _ _ ([] : List Int) ([] : List Int) ([] : List Int) ([] : List Int) ([] : List (List Int)) ([] : List (List Int)) oX_7.out.reads.1 oX_7.out.reads.2.1 oX_7.out.reads.2.2 oY_7.out.reads.1 oY_7.out.reads.2.1 oY_7.out.reads.2.2 (by omega) (by omega)).mono ?_
      rintro e w8 ⟨rfl, hn8⟩
      have z8 : w7.heap.size ≤ w8.heap.size := hn8.size
      have bA_8 := (hn8.block _ (heap_lt bA_7) (fun f => f)).trans bA_7
      have bB_8 := (hn8.block _ (heap_lt bB_7) (fun f => f)).trans bB_7
      have bX_8 := (hn8.block _ (heap_lt bX_7) (fun f => f)).trans bX_7
      have bY_8 := (hn8.block _ (heap_lt bY_7) (fun f => f)).trans bY_7
      have oC_8 := Lib.hid ((⟨oC_7.out.1.new (by omega) hn8, oC_7.out.2.1.new (by omega) hn8, oC_7.out.2.2.new (by omega) hn8⟩ : _ ∧ _ ∧ _))
      have oS_8 := Lib.hid (oS_7.out.new (by omega) hn8)
      have oX_8 := Lib.hid (oX_7.out.new (by omega) hn8)
      have oY_8 := Lib.hid (oY_7.out.new (by omega) hn8)
      have N8 : New w w8 := N7.trans hn8
      clear bA_7 bB_7 bX_7 bY_7 oC_7 oS_7 oX_7 oY_7 N7 hn8
      have hs : ((0 : Int) == 0 && (decide (([] : List Int) = ([] : List Int)) && (decide (([] : List Int) = ([] : List Int)) && decide (([] : List (List Int)) = ([] : List (List Int)))))) = true := by simp
      rw [hs]
      clear hs
      go_wp2
      go_ret
      exact ⟨rfl, N8.toBelow⟩
    · have cA0 := cell_of_heap bA_2 0
      have cA1 := cell_of_heap bA_2 1
      have cA2 := cell_of_heap bA_2 2
      have lA := heap_lt bA_2
      have cB0 := cell_of_heap bB_2 0
      have cB1 := cell_of_heap bB_2 1
      have lB := heap_lt bB_2
      go_wp2_with fail
      clear cA0 cA1 cA2 lA cB0 cB1 lB
      refine (StartC.implS w2 w.heap.size w1.heap.size w.heap.size w1.heap.size _ _ _ _ _ xa xb ya x yb oC_2.out.1 oC_2.out.2.1 oC_2.out.2.2 (by omega) oS_2.out (by omega) (by omega) (by omega) hbh.out).mono ?_
      intro e w3 h3
      rw [hth.out] at h3
      obtain ⟨vrX, vaX, vbX, rfl, hn3, hOX⟩ := h3
      have z3 : w2.heap.size ≤ w3.heap.size := hn3.size
      have bA_3 := (hn3.block _ (heap_lt bA_2) (fun f => f)).trans bA_2
      have bB_3 := (hn3.block _ (heap_lt bB_2) (fun f => f)).trans bB_2
      have oC_3 := Lib.hid ((⟨oC_2.out.1.new (by omega) hn3, oC_2.out.2.1.new (by omega) hn3, oC_2.out.2.2.new (by omega) hn3⟩ : _ ∧ _ ∧ _))
      have oS_3 := Lib.hid (oS_2.out.new (by omega) hn3)
      have N3 : New w w3 := N2.trans hn3
      clear bA_2 bB_2 oC_2 oS_2 N2 hn3
      have hPX : MachO w3 _ _ _ _ _ StartM.zeros ya yb := hOX
      obtain ⟨⟨arX, drX, erX⟩, ⟨aaX, daX, eaX⟩, abX, dbX, ebX⟩ := StartM.lens3 hPX
      replace erX : vrX = .slice arX 14 drX := erX
      replace eaX : vaX = .slice aaX ya.length daX := eaX
      replace ebX : vbX = .slice abX yb.length dbX := ebX
      subst erX eaX ebX
      have oX_3 := Lib.hid hPX
      clear hPX hOX
      have hsX : w2.heap.size ≤ w3.heap.size := z3
      have hn4 : New w3 (w3.alloc (.cells #[.int .i64 0, .slice arX 14 drX, .slice aaX ya.length daX, .slice abX yb.length dbX] 31)) := (Kp.refl _ _).alloc _
      have y4 : w3.heap.size < (w3.alloc (.cells #[.int .i64 0, .slice arX 14 drX, .slice aaX ya.length daX, .slice abX yb.length dbX] 31)).heap.size := DrawX.lt_alloc _ _
      have bX_4 := alloc_heap w3 (.cells #[.int .i64 0, .slice arX 14 drX, .slice aaX ya.length daX, .slice abX yb.length dbX] 31)
      go_upto_region 5 with fail
      generalize hbX : w3.heap.size = bX at bX_4 y4 ⊢
      generalize (w3.alloc (.cells #[.int .i64 0, .slice arX 14 drX, .slice aaX ya.length daX, .slice abX yb.length dbX] 31)) = w4 at *
      have z4 : w3.heap.size ≤ w4.heap.size := hn4.size
      have bA_4 := (hn4.block _ (heap_lt bA_3) (fun f => f)).trans bA_3
      have bB_4 := (hn4.block _ (heap_lt bB_3) (fun f => f)).trans bB_3
      have oC_4 := Lib.hid ((⟨oC_3.out.1.new (by omega) hn4, oC_3.out.2.1.new (by omega) hn4, oC_3.out.2.2.new (by omega) hn4⟩ : _ ∧ _ ∧ _))
      have oS_4 := Lib.hid (oS_3.out.new (by omega) hn4)
      have oX_4 := Lib.hid (oX_3.out.new (by omega) hn4)
      have N4 : New w w4 := N3.trans hn4
      clear bA_3 bB_3 oC_3 oS_3 oX_3 N3 hn4
      have cA0 := cell_of_heap bA_4 0
      have cA1 := cell_of_heap bA_4 1
      have cA2 := cell_of_heap bA_4 2
      have lA := heap_lt bA_4
      have cB0 := cell_of_heap bB_4 0
      have cB1 := cell_of_heap bB_4 1
      have lB := heap_lt bB_4
      go_wp2_with fail
      clear cA0 cA1 cA2 lA cB0 cB1 lB
      refine (StartC.specS w4 w.heap.size w1.heap.size w.heap.size w1.heap.size _ _ _ _ _ xa xb ya x yb oC_4.out.1 oC_4.out.2.1 oC_4.out.2.2 (by omega) oS_4.out.reads.1 oS_4.out.reads.2 (by omega) (by omega) (by omega) hbh.out).mono ?_
      intro e w5 h3
      rw [hth.out] at h3
      obtain ⟨vrY, vaY, vbY, rfl, hn5, hOY⟩ := h3
      have z5 : w4.heap.size ≤ w5.heap.size := hn5.size
      have bA_5 := (hn5.block _ (heap_lt bA_4) (fun f => f)).trans bA_4
      have bB_5 := (hn5.block _ (heap_lt bB_4) (fun f => f)).trans bB_4
      have bX_5 := (hn5.block _ (heap_lt bX_4) (fun f => f)).trans bX_4
      have oC_5 := Lib.hid ((⟨oC_4.out.1.new (by omega) hn5, oC_4.out.2.1.new (by omega) hn5, oC_4.out.2.2.new (by omega) hn5⟩ : _ ∧ _ ∧ _))
      have oS_5 := Lib.hid (oS_4.out.new (by omega) hn5)
      have oX_5 := Lib.hid (oX_4.out.new (by omega) hn5)
      have N5 : New w w5 := N4.trans hn5
      clear bA_4 bB_4 bX_4 oC_4 oS_4 oX_4 N4 hn5
      have hPY : MachO w5 _ _ _ _ _ StartM.zeros ya yb := hOY
      obtain ⟨⟨arY, drY, erY⟩, ⟨aaY, daY, eaY⟩, abY, dbY, ebY⟩ := StartM.lens3 hPY
      replace erY : vrY = .slice arY 14 drY := erY
      replace eaY : vaY = .slice aaY ya.length daY := eaY
      replace ebY : vbY = .slice abY yb.length dbY := ebY
      subst erY eaY ebY
      have oY_5 := Lib.hid hPY
      clear hPY hOY
      have hsY : w4.heap.size ≤ w5.heap.size := z5
      have hn6 : New w5 (w5.alloc (.cells #[.int .i64 0, .slice arY 14 drY, .slice aaY ya.length daY, .slice abY yb.length dbY] 31)) := (Kp.refl _ _).alloc _
      have y6 : w5.heap.size < (w5.alloc (.cells #[.int .i64 0, .slice arY 14 drY, .slice aaY ya.length daY, .slice abY yb.length dbY] 31)).heap.size := DrawX.lt_alloc _ _
      have bY_6 := alloc_heap w5 (.cells #[.int .i64 0, .slice arY 14 drY, .slice aaY ya.length daY, .slice abY yb.length dbY] 31)
      go_upto_region 6 with fail
      generalize hbY : w5.heap.size = bY at bY_6 y6 ⊢
      generalize (w5.alloc (.cells #[.int .i64 0, .slice arY 14 drY, .slice aaY ya.length daY, .slice abY yb.length dbY] 31)) = w6 at *
      have z6 : w5.heap.size ≤ w6.heap.size := hn6.size
      have bA_6 := (hn6.block _ (heap_lt bA_5) (fun f => f)).trans bA_5
      have bB_6 := (hn6.block _ (heap_lt bB_5) (fun f => f)).trans bB_5
      have bX_6 := (hn6.block _ (heap_lt bX_5) (fun f => f)).trans bX_5
      have oC_6 := Lib.hid ((⟨oC_5.out.1.new (by omega) hn6, oC_5.out.2.1.new (by omega) hn6, oC_5.out.2.2.new (by omega) hn6⟩ : _ ∧ _ ∧ _))
      have oS_6 := Lib.hid (oS_5.out.new (by omega) hn6)
      have oX_6 := Lib.hid (oX_5.out.new (by omega) hn6)
      have oY_6 := Lib.hid (oY_5.out.new (by omega) hn6)
      have N6 : New w w6 := N5.trans hn6
      clear bA_5 bB_5 bX_5 oC_5 oS_5 oX_5 oY_5 N5 hn6
      have cX0 := cell_of_heap bX_6 0
      have cX1 := cell_of_heap bX_6 1
      have cX2 := cell_of_heap bX_6 2
      have cX3 := cell_of_heap bX_6 3
      have lX := heap_lt bX_6
      have cY0 := cell_of_heap bY_6 0
      have cY1 := cell_of_heap bY_6 1
      have cY2 := cell_of_heap bY_6 2
      have cY3 := cell_of_heap bY_6 3
      have lY := heap_lt bY_6
      go_wp2_with fail
      clear cX0 cX1 cX2 cX3 lX cY0 cY1 cY2 cY3 lY
      refine (SameS.implSame w6 _ _ _ _ 0 0 _ _ _ _ _ _ StartM.zeros ya StartM.zeros ya yb yb oX_6.out.reads.1 oX_6.out.reads.2.1 oX_6.out.reads.2.2 oY_6.out.reads.1 oY_6.out.reads.2.1 oY_6.out.reads.2.2 (by omega) (by omega)).mono ?_
      rintro e w7 ⟨rfl, hn7⟩
      have z7 : w6.heap.size ≤ w7.heap.size := hn7.size
      have bA_7 := (hn7.block _ (heap_lt bA_6) (fun f => f)).trans bA_6
      have bB_7 := (hn7.block _ (heap_lt bB_6) (fun f => f)).trans bB_6
      have bX_7 := (hn7.block _ (heap_lt bX_6) (fun f => f)).trans bX_6
      have bY_7 := (hn7.block _ (heap_lt bY_6) (fun f => f)).trans bY_6
      have oC_7 := Lib.hid ((⟨oC_6.out.1.new (by omega) hn7, oC_6.out.2.1.new (by omega) hn7, oC_6.out.2.2.new (by omega) hn7⟩ : _ ∧ _ ∧ _))
      have oS_7 := Lib.hid (oS_6.out.new (by omega) hn7)
      have oX_7 := Lib.hid (oX_6.out.new (by omega) hn7)
      have oY_7 := Lib.hid (oY_6.out.new (by omega) hn7)
      have N7 : New w w7 := N6.trans hn7
      clear bA_6 bB_6 bX_6 bY_6 oC_6 oS_6 oX_6 oY_6 N6 hn7
      have hs : ((0 : Int) == 0 && (decide (StartM.zeros = StartM.zeros) && (decide (ya = ya) && decide (yb = yb)))) = true := by simp
      rw [hs]
      clear hs
      have cA0 := cell_of_heap bA_7 0
      have cA1 := cell_of_heap bA_7 1
      have cA2 := cell_of_heap bA_7 2
      have lA := heap_lt bA_7
      have cX0 := cell_of_heap bX_7 0
      have cX1 := cell_of_heap bX_7 1
      have cX2 := cell_of_heap bX_7 2
      have cX3 := cell_of_heap bX_7 3
      have lX := heap_lt bX_7
      go_wp2_with fail
      clear cA0 cA1 cA2 lA cX0 cX1 cX2 cX3 lX
      refine (MachV.implV (xa := xa) (xb := xb) (x := x) (pc := 0) (yr := StartM.zeros) (ya := ya) (yb := yb) oC_7.out.1 oC_7.out.2.1 oC_7.out.2.2 oX_7.out.reads.1 oX_7.out.reads.2.1 oX_7.out.reads.2.2 (by omega) (by omega)).mono ?_
      rintro e w8 ⟨rfl, hn8⟩
      have z8 : w7.heap.size ≤ w8.heap.size := hn8.size
      have bA_8 := (hn8.block _ (heap_lt bA_7) (fun f => f)).trans bA_7
      have bB_8 := (hn8.block _ (heap_lt bB_7) (fun f => f)).trans bB_7
      have bX_8 := (hn8.block _ (heap_lt bX_7) (fun f => f)).trans bX_7
      have bY_8 := (hn8.block _ (heap_lt bY_7) (fun f => f)).trans bY_7
      have oC_8 := Lib.hid ((⟨oC_7.out.1.new (by omega) hn8, oC_7.out.2.1.new (by omega) hn8, oC_7.out.2.2.new (by omega) hn8⟩ : _ ∧ _ ∧ _))
      have oS_8 := Lib.hid (oS_7.out.new (by omega) hn8)
      have oX_8 := Lib.hid (oX_7.out.new (by omega) hn8)
      have oY_8 := Lib.hid (oY_7.out.new (by omega) hn8)
      have N8 : New w w8 := N7.trans hn8
      clear bA_7 bB_7 bX_7 bY_7 oC_7 oS_7 oX_7 oY_7 N7 hn8
      rw [started_valid hth.out]
      have cX0 := cell_of_heap bX_8 0
      have cX1 := cell_of_heap bX_8 1
      have cX2 := cell_of_heap bX_8 2
      have cX3 := cell_of_heap bX_8 3
      have lX := heap_lt bX_8
      have cB0 := cell_of_heap bB_8 0
      have cB1 := cell_of_heap bB_8 1
      have lB := heap_lt bB_8
      go_wp2_with fail
      clear cX0 cX1 cX2 cX3 lX cB0 cB1 lB
      refine (SameM.implSame w8 _ _ _ _ _ _ _ _ ya yb ya yb oX_8.out.reads.2.1 oX_8.out.reads.2.2 oS_8.out.reads.1 oS_8.out.reads.2 (by omega) (by omega)).mono ?_
      rintro e w9 ⟨rfl, hn9⟩
      have z9 : w8.heap.size ≤ w9.heap.size := hn9.size
      have bA_9 := (hn9.block _ (heap_lt bA_8) (fun f => f)).trans bA_8
      have bB_9 := (hn9.block _ (heap_lt bB_8) (fun f => f)).trans bB_8
      have bX_9 := (hn9.block _ (heap_lt bX_8) (fun f => f)).trans bX_8
      have bY_9 := (hn9.block _ (heap_lt bY_8) (fun f => f)).trans bY_8
      have oC_9 := Lib.hid ((⟨oC_8.out.1.new (by omega) hn9, oC_8.out.2.1.new (by omega) hn9, oC_8.out.2.2.new (by omega) hn9⟩ : _ ∧ _ ∧ _))
      have oS_9 := Lib.hid (oS_8.out.new (by omega) hn9)
      have oX_9 := Lib.hid (oX_8.out.new (by omega) hn9)
      have oY_9 := Lib.hid (oY_8.out.new (by omega) hn9)
      have N9 : New w w9 := N8.trans hn9
      clear bA_8 bB_8 bX_8 bY_8 oC_8 oS_8 oX_8 oY_8 N8 hn9
      have hs : (decide (ya = ya) && decide (yb = yb)) = true := by simp
      rw [hs]
      clear hs
      have cX0 := cell_of_heap bX_9 0
      have cX1 := cell_of_heap bX_9 1
      have cX2 := cell_of_heap bX_9 2
      have cX3 := cell_of_heap bX_9 3
      have lX := heap_lt bX_9
      go_wp2
      go_ret
      exact ⟨rfl, N9.toBelow⟩
set_option maxRecDepth 100000 in
theorem lifted (os : Os) (started : os.Started) (H : Type) (enc : TypeId × Value → H) :
    ReturnsInHanded {} Try.checked os 6 .any (Rows.fnStartMachineSpec.pre6 enc Try.prog Try.f6 Rows.fnStartMachineRow.domain false) (Rows.fnStartMachineSpec.post enc Try.prog Try.f6 false true false false) := by
  refine returnsInHanded_of_change (C := Try.checked) own started (by kernel_rfl) Try.func6
    (ChangeSpec.witness6 (enc := enc) (C := Try.checked) false ⟨#[], #[.slice none 0 0], []⟩ 8 (by kernel_rfl) (by kernel_rfl) (by kernel_rfl) (by kernel_rfl)) ?_
  intro W base args ds gs before hval0 hW hcnd _
  have hval : ∀ (j : Nat) t v, Try.f6.params[j]? = some t → args[j]? = some v → Value.okWide Try.prog W .any base t v := hval0
  have hW' := hW
  obtain ⟨p, q, hA0, hV, rfl, hfz, hnd⟩ := hW
  have hA : DataW.TrodAll enc Try.prog W 0 (fun _ => true) true Try.f6.params.toList args.toList ds p := hA0
  rw [Try.params6] at hA hval
  obtain ⟨v0, vs0, d0, ds0, p0, q0, hargs, rfl, rfl, h0, r0⟩ := trodAll_cons hA
  obtain ⟨rfl, rfl, rfl⟩ := trodAll_nil r0
  obtain rfl : args = #[v0] := by cases args; simp_all
  obtain ⟨rfl, rfl⟩ := trodVars_none hV
  have kk0 := h0
  have lt0 : ∀ x ∈ p0, x.block < W.heap.size := by obtain ⟨m, hm⟩ := kk0; exact DataW.trod_lt m _ _ _ hm
  obtain ⟨a0, l0, c0, rfl, s0⟩ := Kit.open_bytes Try.underlying22 Try.underlying5 (by kernel_rfl) (hval 0 22 v0 rfl rfl) h0
  clear hA0 hval0
  refine (walk a0 l0 c0 W s0).mono fun e W' ⟨he, bel⟩ => ?_
  subst he
  exact ⟨_, rfl, _, _, _, [], _, [], hW', trodAll_mk1 (shut_bool Try.underlying4 _), (trodAll_cons_mk (Below.trod laidOut (by kernel_rfl) (of_decide_eq_true (by kernel_rfl)) kk0 bel lt0) trodAll_mk0), rfl, bel.frame _, fun h => by cases h⟩
theorem over : Rows.fnStartMachineRow.holds Try.pinned (OpenSpec.ofChange Rows.fnStartMachineSpec) :=
  OpenClaim.holds_of_wide 6 Try.f6 rfl rfl rfl rfl rfl rfl rfl ⟨rfl, rfl, rfl, rfl, rfl⟩ rfl rfl rfl rfl rfl (by kernel_rfl) Try.func6 (by kernel_rfl)
    (of_decide_eq_true (by kernel_rfl)) (by unfold Func.isWrapper; first | (rw [if_pos (by decide +kernel)]; kernel_rfl) | (rw [if_neg (by decide +kernel)]; exact ⟨rfl, rfl⟩))
    (fun os started H enc _ => lifted os started H enc)
theorem proved : Rows.FnStartMachineSaid := over
#print axioms proved
end Go.Proofs.Ytljokgoghphgdaa.fnStartMachine
