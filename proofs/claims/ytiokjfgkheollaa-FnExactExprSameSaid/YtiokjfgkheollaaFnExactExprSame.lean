/- FnExactExprSame: for every input the law returns true, and the arguments read as they did. No conditions. -/
import Derived.Test.YtiokjfgkheollaaRows
import Derived.Test.YtiokjfgkheollaaSzE
import Derived.Test.YtiokjfgkheollaaSameE
import Derived.Test.YtiokjfgkheollaaToE
import Derived.Test.YtiokjfgkheollaaEqE
import Derived.Test.YtiokjfgkheollaaOpenT
import Derived.Deep.RegionHeld3
import Derived.WalkKit
import Derived.ProofKit
import Derived.OpenShut
import Derived.ShutString
import Derived.ChangeOld
import Derived.Below
namespace Go.Proofs.Ytiokjfgkheollaa.fnExactExprSame
open Go.ChangeShapes Go.WideShapes Go.ChangeAt Go.RowKit Kit
open Go.ChangeMaps (open_string shut_string)
set_option linter.unusedVariables false
theorem own : ownKnob Try.prog.godebug = none := by kernel_rfl
theorem laidOut : laidOutB Try.prog = true := by kernel_rfl
set_option maxHeartbeats 1000000 in
theorem walk (k0 : Int) (u0 : Int) (t0 : Value) (x0 : List Ex) (k1 : Int) (u1 : Int) (t1 : Value) (x1 : List Ex) (w : World) (s0 : KidsR w 0 w.heap.size t0 x0) (s1 : KidsR w 0 w.heap.size t1 x1) :
    Calls Try.prog 3 #[.agg #[.int .i64 k0, .int .i64 u0, t0], .agg #[.int .i64 k1, .int .i64 u1, t1]] w fun e w' => e = .returned (.bool true) ∧ Below w.heap.size w w' := by
  by_cases h0 : Ex.sizes x0 ≤ 1048576
  · by_cases h1 : Ex.sizes x0 + Ex.sizes x1 ≤ 1048576
    · go_enter Try.func3, Try.ntmps3
      go_wp2_with fail
      have N0 : New w ((w.alloc (.cells #[.int .i64 k0, .int .i64 u0, t0] 24)).alloc (.cells #[.int .i64 k1, .int .i64 u1, t1] 24)) := ((Kp.refl _ _).alloc _).alloc _
      have bA : ((w.alloc (.cells #[.int .i64 k0, .int .i64 u0, t0] 24)).alloc (.cells #[.int .i64 k1, .int .i64 u1, t1] 24)).heap[w.heap.size]? = some (.cells #[.int .i64 k0, .int .i64 u0, t0] 24) := heap_old (alloc_heap _ _)
      have bB : ((w.alloc (.cells #[.int .i64 k0, .int .i64 u0, t0] 24)).alloc (.cells #[.int .i64 k1, .int .i64 u1, t1] 24)).heap[w.heap.size + 1]? = some (.cells #[.int .i64 k1, .int .i64 u1, t1] 24) := heap_at (by simp)
      have z0 : w.heap.size ≤ ((w.alloc (.cells #[.int .i64 k0, .int .i64 u0, t0] 24)).alloc (.cells #[.int .i64 k1, .int .i64 u1, t1] 24)).heap.size := N0.size
      generalize ((w.alloc (.cells #[.int .i64 k0, .int .i64 u0, t0] 24)).alloc (.cells #[.int .i64 k1, .int .i64 u1, t1] 24)) = w0 at *
      have bA_c0 := cell_of_heap bA 0
      have bA_c1 := cell_of_heap bA 1
      have bA_c2 := cell_of_heap bA 2
      have bB_c0 := cell_of_heap bB 0
      have bB_c1 := cell_of_heap bB 1
      have bB_c2 := cell_of_heap bB 2
      refine (SzE.szExpr w0 0 w.heap.size _ _ _ x0 (1048576) (s0.new (Nat.le_refl _) N0) (by omega) (by omega) (by omega)).mono ?_
      rintro e w1 ⟨rfl, hn1⟩
      have z1 : w0.heap.size ≤ w1.heap.size := hn1.size
      have N1 : New w w1 := N0.trans hn1
      have bA_1 := heap_new hn1 bA
      clear bA bA_c0 bA_c1 bA_c2
      have bA_1_c0 := cell_of_heap bA_1 0
      have bA_1_c1 := cell_of_heap bA_1 1
      have bA_1_c2 := cell_of_heap bA_1 2
      have bB_1 := heap_new hn1 bB
      clear bB bB_c0 bB_c1 bB_c2
      have bB_1_c0 := cell_of_heap bB_1 0
      have bB_1_c1 := cell_of_heap bB_1 1
      have bB_1_c2 := cell_of_heap bB_1 2
      clear hn1
      rw [szOf_hi (by omega)]
      go_wp2_with fail
      refine (SzE.szExpr w1 0 w.heap.size _ _ _ x1 (1048576 - (Ex.sizes x0 : Nat)) (s1.new (Nat.le_refl _) N1) (by omega) (by omega) (by omega)).mono ?_
      rintro e w2 ⟨rfl, hn2⟩
      have z2 : w1.heap.size ≤ w2.heap.size := hn2.size
      have N2 : New w w2 := N1.trans hn2
      have bA_2 := heap_new hn2 bA_1
      clear bA_1 bA_1_c0 bA_1_c1 bA_1_c2
      have bA_2_c0 := cell_of_heap bA_2 0
      have bA_2_c1 := cell_of_heap bA_2 1
      have bA_2_c2 := cell_of_heap bA_2 2
      have bB_2 := heap_new hn2 bB_1
      clear bB_1 bB_1_c0 bB_1_c1 bB_1_c2
      have bB_2_c0 := cell_of_heap bB_2 0
      have bB_2_c1 := cell_of_heap bB_2 1
      have bB_2_c2 := cell_of_heap bB_2 2
      clear hn2
      rw [szOf_hi (by omega)]
      go_wp2_with fail
      have hn3 : New w2 w2.drew := (Kp.refl _ _).drew
      have z3 : w2.heap.size ≤ w2.drew.heap.size := hn3.size
      have N3 : New w w2.drew := N2.trans hn3
      have bA_3 := heap_new hn3 bA_2
      clear bA_2 bA_2_c0 bA_2_c1 bA_2_c2
      have bA_3_c0 := cell_of_heap bA_3 0
      have bA_3_c1 := cell_of_heap bA_3 1
      have bA_3_c2 := cell_of_heap bA_3 2
      have bB_3 := heap_new hn3 bB_2
      clear bB_2 bB_2_c0 bB_2_c1 bB_2_c2
      have bB_3_c0 := cell_of_heap bB_3 0
      have bB_3_c1 := cell_of_heap bB_3 1
      have bB_3_c2 := cell_of_heap bB_3 2
      clear hn3
      set_option maxRecDepth 100000 in
      go_region_held3 (fun w' => w'.cell? ⟨w.heap.size, 0, none⟩ = some (.int .i64 k0) ∧ w'.cell? ⟨w.heap.size, 1, none⟩ = some (.int .i64 u0) ∧ w'.cell? ⟨w.heap.size, 2, none⟩ = some (t0) ∧ w'.cell? ⟨w.heap.size + 1, 0, none⟩ = some (.int .i64 k1) ∧ w'.cell? ⟨w.heap.size + 1, 1, none⟩ = some (.int .i64 u1) ∧ w'.cell? ⟨w.heap.size + 1, 2, none⟩ = some (t1)) (first | (refine ⟨?_, ?_, ?_, ?_, ?_, ?_⟩ <;> assumption) | go_keep)
        (first
          | (go_at_call 16; refine (SameE.specSame _ _ _ _ _ _ _ _ _ _ _ _ _ A_5 oB (by omega) (by omega)).mono ?_; rintro e w6 ⟨rfl, hn6⟩; have z6 : w5.heap.size ≤ w6.heap.size := hn6.size; have N6 : New w w6 := N5.trans hn6; have bA_6 := heap_new hn6 bA_5; clear bA_5 bA_5_c0 bA_5_c1 bA_5_c2; have bA_6_c0 := cell_of_heap bA_6 0; have bA_6_c1 := cell_of_heap bA_6 1; have bA_6_c2 := cell_of_heap bA_6 2; have bB_6 := heap_new hn6 bB_5; clear bB_5 bB_5_c0 bB_5_c1 bB_5_c2; have bB_6_c0 := cell_of_heap bB_6 0; have bB_6_c1 := cell_of_heap bB_6 1; have bB_6_c2 := cell_of_heap bB_6 2; have A_6 := A_5.new (by omega) hn6; clear A_5; have B_6 := oB.new (by omega) hn6; clear oB; clear hn6)
          | (go_at_call 17; refine (ToE.toExpr _ 0 w.heap.size _ _ _ x1 (by omega) (s1.new (Nat.le_refl _) N4) (by omega)).mono ?_; rintro e w5 ⟨tB, rfl, hn5, oB⟩; have z5 : w4.heap.size ≤ w5.heap.size := hn5.size; have N5 : New w w5 := N4.trans hn5; have bA_5 := heap_new hn5 bA_4; clear bA_4 bA_4_c0 bA_4_c1 bA_4_c2; have bA_5_c0 := cell_of_heap bA_5 0; have bA_5_c1 := cell_of_heap bA_5 1; have bA_5_c2 := cell_of_heap bA_5 2; have bB_5 := heap_new hn5 bB_4; clear bB_4 bB_4_c0 bB_4_c1 bB_4_c2; have bB_5_c0 := cell_of_heap bB_5 0; have bB_5_c1 := cell_of_heap bB_5 1; have bB_5_c2 := cell_of_heap bB_5 2; have A_5 := oA.new (by omega) hn5; clear oA; clear hn5)
          | (go_at_call 17; refine (ToE.toExpr _ 0 w.heap.size _ _ _ x0 (by omega) (s0.new (Nat.le_refl _) N3) (by omega)).mono ?_; rintro e w4 ⟨tA, rfl, hn4, oA⟩; have z4 : w2.drew.heap.size ≤ w4.heap.size := hn4.size; have N4 : New w w4 := N3.trans hn4; have bA_4 := heap_new hn4 bA_3; clear bA_3 bA_3_c0 bA_3_c1 bA_3_c2; have bA_4_c0 := cell_of_heap bA_4 0; have bA_4_c1 := cell_of_heap bA_4 1; have bA_4_c2 := cell_of_heap bA_4 2; have bB_4 := heap_new hn4 bB_3; clear bB_3 bB_3_c0 bB_3_c1 bB_3_c2; have bB_4_c0 := cell_of_heap bB_4 0; have bB_4_c1 := cell_of_heap bB_4 1; have bB_4_c2 := cell_of_heap bB_4 2; clear hn4))
      clear A_6
      clear B_6
      go_wp2_with fail
      refine (ToE.toExpr _ 0 w.heap.size _ _ _ x0 (by omega) (s0.new (Nat.le_refl _) N6) (by omega)).mono ?_
      rintro e w7 ⟨tX, rfl, hn7, oX⟩
      have z7 : w6.heap.size ≤ w7.heap.size := hn7.size
      have N7 : New w w7 := N6.trans hn7
      have bA_7 := heap_new hn7 bA_6
      clear bA_6 bA_6_c0 bA_6_c1 bA_6_c2
      have bA_7_c0 := cell_of_heap bA_7 0
      have bA_7_c1 := cell_of_heap bA_7 1
      have bA_7_c2 := cell_of_heap bA_7 2
      have bB_7 := heap_new hn7 bB_6
      clear bB_6 bB_6_c0 bB_6_c1 bB_6_c2
      have bB_7_c0 := cell_of_heap bB_7 0
      have bB_7_c1 := cell_of_heap bB_7 1
      have bB_7_c2 := cell_of_heap bB_7 2
      clear hn7
      obtain ⟨aX, cX, rfl, _⟩ := oX.len
      have hn8 : New w7 (w7.alloc (.cells #[.int .i64 k0, .int .i64 u0, .slice aX x0.length cX] 29)) := (Kp.refl _ _).alloc _
      have bX : (w7.alloc (.cells #[.int .i64 k0, .int .i64 u0, .slice aX x0.length cX] 29)).heap[w7.heap.size]? = some (.cells #[.int .i64 k0, .int .i64 u0, .slice aX x0.length cX] 29) := alloc_heap _ _
      have z8 : w7.heap.size ≤ (w7.alloc (.cells #[.int .i64 k0, .int .i64 u0, .slice aX x0.length cX] 29)).heap.size := hn8.size
      have N8 : New w (w7.alloc (.cells #[.int .i64 k0, .int .i64 u0, .slice aX x0.length cX] 29)) := N7.trans hn8
      have bA_8 := heap_new hn8 bA_7
      clear bA_7 bA_7_c0 bA_7_c1 bA_7_c2
      have bA_8_c0 := cell_of_heap bA_8 0
      have bA_8_c1 := cell_of_heap bA_8 1
      have bA_8_c2 := cell_of_heap bA_8 2
      have bB_8 := heap_new hn8 bB_7
      clear bB_7 bB_7_c0 bB_7_c1 bB_7_c2
      have bB_8_c0 := cell_of_heap bB_8 0
      have bB_8_c1 := cell_of_heap bB_8 1
      have bB_8_c2 := cell_of_heap bB_8 2
      have X_8 := oX.new (by omega) hn8
      clear oX
      clear hn8
      have bX_c0 := cell_of_heap bX 0
      have bX_c1 := cell_of_heap bX 1
      have bX_c2 := cell_of_heap bX 2
      go_wp2_with fail
      generalize (w7.alloc (.cells #[.int .i64 k0, .int .i64 u0, .slice aX x0.length cX] 29)) = w8 at *
      refine (ToE.toExpr _ 0 w.heap.size _ _ _ x1 (by omega) (s1.new (Nat.le_refl _) N8) (by omega)).mono ?_
      rintro e w9 ⟨tY, rfl, hn9, oY⟩
      have z9 : w8.heap.size ≤ w9.heap.size := hn9.size
      have N9 : New w w9 := N8.trans hn9
      have bA_9 := heap_new hn9 bA_8
      clear bA_8 bA_8_c0 bA_8_c1 bA_8_c2
      have bA_9_c0 := cell_of_heap bA_9 0
      have bA_9_c1 := cell_of_heap bA_9 1
      have bA_9_c2 := cell_of_heap bA_9 2
      have bB_9 := heap_new hn9 bB_8
      clear bB_8 bB_8_c0 bB_8_c1 bB_8_c2
      have bB_9_c0 := cell_of_heap bB_9 0
      have bB_9_c1 := cell_of_heap bB_9 1
      have bB_9_c2 := cell_of_heap bB_9 2
      have X_9 := X_8.new (by omega) hn9
      clear X_8
      have bX_9 := heap_new hn9 bX
      clear bX bX_c0 bX_c1 bX_c2
      have bX_9_c0 := cell_of_heap bX_9 0
      have bX_9_c1 := cell_of_heap bX_9 1
      have bX_9_c2 := cell_of_heap bX_9 2
      clear hn9
      obtain ⟨aY, cY, rfl, _⟩ := oY.len
      have hn10 : New w9 (w9.alloc (.cells #[.int .i64 k1, .int .i64 u1, .slice aY x1.length cY] 29)) := (Kp.refl _ _).alloc _
      have bY : (w9.alloc (.cells #[.int .i64 k1, .int .i64 u1, .slice aY x1.length cY] 29)).heap[w9.heap.size]? = some (.cells #[.int .i64 k1, .int .i64 u1, .slice aY x1.length cY] 29) := alloc_heap _ _
      have z10 : w9.heap.size ≤ (w9.alloc (.cells #[.int .i64 k1, .int .i64 u1, .slice aY x1.length cY] 29)).heap.size := hn10.size
      have N10 : New w (w9.alloc (.cells #[.int .i64 k1, .int .i64 u1, .slice aY x1.length cY] 29)) := N9.trans hn10
      have bA_10 := heap_new hn10 bA_9
      clear bA_9 bA_9_c0 bA_9_c1 bA_9_c2
      have bA_10_c0 := cell_of_heap bA_10 0
      have bA_10_c1 := cell_of_heap bA_10 1
      have bA_10_c2 := cell_of_heap bA_10 2
      have bB_10 := heap_new hn10 bB_9
      clear bB_9 bB_9_c0 bB_9_c1 bB_9_c2
      have bB_10_c0 := cell_of_heap bB_10 0
      have bB_10_c1 := cell_of_heap bB_10 1
      have bB_10_c2 := cell_of_heap bB_10 2
      have X_10 := X_9.new (by omega) hn10
      clear X_9
      have bX_10 := heap_new hn10 bX_9
      clear bX_9 bX_9_c0 bX_9_c1 bX_9_c2
      have bX_10_c0 := cell_of_heap bX_10 0
      have bX_10_c1 := cell_of_heap bX_10 1
      have bX_10_c2 := cell_of_heap bX_10 2
      have Y_10 := oY.new (by omega) hn10
      clear oY
      clear hn10
      have bY_c0 := cell_of_heap bY 0
      have bY_c1 := cell_of_heap bY 1
      have bY_c2 := cell_of_heap bY 2
      go_wp2_with fail
      generalize (w9.alloc (.cells #[.int .i64 k1, .int .i64 u1, .slice aY x1.length cY] 29)) = w10 at *
      refine (SameE.implSame _ _ _ _ _ _ _ _ _ _ _ _ _ X_10 Y_10 (by omega) (by omega)).mono ?_
      rintro e w11 ⟨rfl, hn11⟩
      have z11 : w10.heap.size ≤ w11.heap.size := hn11.size
      have N11 : New w w11 := N10.trans hn11
      have bA_11 := heap_new hn11 bA_10
      clear bA_10 bA_10_c0 bA_10_c1 bA_10_c2
      have bA_11_c0 := cell_of_heap bA_11 0
      have bA_11_c1 := cell_of_heap bA_11 1
      have bA_11_c2 := cell_of_heap bA_11 2
      have bB_11 := heap_new hn11 bB_10
      clear bB_10 bB_10_c0 bB_10_c1 bB_10_c2
      have bB_11_c0 := cell_of_heap bB_11 0
      have bB_11_c1 := cell_of_heap bB_11 1
      have bB_11_c2 := cell_of_heap bB_11 2
      have X_11 := X_10.new (by omega) hn11
      clear X_10
      have bX_11 := heap_new hn11 bX_10
      clear bX_10 bX_10_c0 bX_10_c1 bX_10_c2
      have bX_11_c0 := cell_of_heap bX_11 0
      have bX_11_c1 := cell_of_heap bX_11 1
      have bX_11_c2 := cell_of_heap bX_11 2
      have Y_11 := Y_10.new (by omega) hn11
      clear Y_10
      have bY_11 := heap_new hn11 bY
      clear bY bY_c0 bY_c1 bY_c2
      have bY_11_c0 := cell_of_heap bY_11 0
      have bY_11_c1 := cell_of_heap bY_11 1
      have bY_11_c2 := cell_of_heap bY_11 2
      clear hn11
      cases hb : Ex.same (.node k0 u0 x0) (.node k1 u1 x1)
      all_goals
        go_wp2_with fail
        have hn12 : New w11 w11.drew := (Kp.refl _ _).drew
        have z12 : w11.heap.size ≤ w11.drew.heap.size := hn12.size
        have N12 : New w w11.drew := N11.trans hn12
        have bA_12 := heap_new hn12 bA_11
        clear bA_11 bA_11_c0 bA_11_c1 bA_11_c2
        have bA_12_c0 := cell_of_heap bA_12 0
        have bA_12_c1 := cell_of_heap bA_12 1
        have bA_12_c2 := cell_of_heap bA_12 2
        have bB_12 := heap_new hn12 bB_11
        clear bB_11 bB_11_c0 bB_11_c1 bB_11_c2
        have bB_12_c0 := cell_of_heap bB_12 0
        have bB_12_c1 := cell_of_heap bB_12 1
        have bB_12_c2 := cell_of_heap bB_12 2
        have X_12 := X_11.new (by omega) hn12
        clear X_11
        have bX_12 := heap_new hn12 bX_11
        clear bX_11 bX_11_c0 bX_11_c1 bX_11_c2
        have bX_12_c0 := cell_of_heap bX_12 0
        have bX_12_c1 := cell_of_heap bX_12 1
        have bX_12_c2 := cell_of_heap bX_12 2
        have Y_12 := Y_11.new (by omega) hn12
        clear Y_11
        have bY_12 := heap_new hn12 bY_11
        clear bY_11 bY_11_c0 bY_11_c1 bY_11_c2
        have bY_12_c0 := cell_of_heap bY_12 0
        have bY_12_c1 := cell_of_heap bY_12 1
        have bY_12_c2 := cell_of_heap bY_12 2
        clear hn12
        set_option maxRecDepth 100000 in
        go_region_held3 (fun w' => w'.cell? ⟨w.heap.size, 0, none⟩ = some (.int .i64 k0) ∧ w'.cell? ⟨w.heap.size, 1, none⟩ = some (.int .i64 u0) ∧ w'.cell? ⟨w.heap.size, 2, none⟩ = some (t0) ∧ w'.cell? ⟨w.heap.size + 1, 0, none⟩ = some (.int .i64 k1) ∧ w'.cell? ⟨w.heap.size + 1, 1, none⟩ = some (.int .i64 u1) ∧ w'.cell? ⟨w.heap.size + 1, 2, none⟩ = some (t1) ∧ w'.cell? ⟨w7.heap.size, 0, none⟩ = some (.int .i64 k0) ∧ w'.cell? ⟨w7.heap.size, 1, none⟩ = some (.int .i64 u0) ∧ w'.cell? ⟨w7.heap.size, 2, none⟩ = some (.slice aX x0.length cX) ∧ w'.cell? ⟨w9.heap.size, 0, none⟩ = some (.int .i64 k1) ∧ w'.cell? ⟨w9.heap.size, 1, none⟩ = some (.int .i64 u1) ∧ w'.cell? ⟨w9.heap.size, 2, none⟩ = some (.slice aY x1.length cY)) (first | (refine ⟨?_, ?_, ?_, ?_, ?_, ?_, ?_, ?_, ?_, ?_, ?_, ?_⟩ <;> assumption) | go_keep)
          (first
            | (go_at_call 19; refine (EqE.eqExpr _ _ _ _ _ _ _ _ _ _ _ _ _ X_13 oC (by omega) (by omega)).mono ?_; rintro e w14 ⟨rfl, hn14⟩; have z14 : w13.heap.size ≤ w14.heap.size := hn14.size; have N14 : New w w14 := N13.trans hn14; have bA_14 := heap_new hn14 bA_13; clear bA_13 bA_13_c0 bA_13_c1 bA_13_c2; have bA_14_c0 := cell_of_heap bA_14 0; have bA_14_c1 := cell_of_heap bA_14 1; have bA_14_c2 := cell_of_heap bA_14 2; have bB_14 := heap_new hn14 bB_13; clear bB_13 bB_13_c0 bB_13_c1 bB_13_c2; have bB_14_c0 := cell_of_heap bB_14 0; have bB_14_c1 := cell_of_heap bB_14 1; have bB_14_c2 := cell_of_heap bB_14 2; have X_14 := X_13.new (by omega) hn14; clear X_13; have bX_14 := heap_new hn14 bX_13; clear bX_13 bX_13_c0 bX_13_c1 bX_13_c2; have bX_14_c0 := cell_of_heap bX_14 0; have bX_14_c1 := cell_of_heap bX_14 1; have bX_14_c2 := cell_of_heap bX_14 2; have Y_14 := Y_13.new (by omega) hn14; clear Y_13; have bY_14 := heap_new hn14 bY_13; clear bY_13 bY_13_c0 bY_13_c1 bY_13_c2; have bY_14_c0 := cell_of_heap bY_14 0; have bY_14_c1 := cell_of_heap bY_14 1; have bY_14_c2 := cell_of_heap bY_14 2; have C_14 := oC.new (by omega) hn14; clear oC; clear hn14; rw [Ex.same_refl])
            | (go_at_call 17; refine (ToE.toExpr _ 0 w.heap.size _ _ _ x0 (by omega) (s0.new (Nat.le_refl _) N12) (by omega)).mono ?_; rintro e w13 ⟨tC, rfl, hn13, oC⟩; have z13 : w11.drew.heap.size ≤ w13.heap.size := hn13.size; have N13 : New w w13 := N12.trans hn13; have bA_13 := heap_new hn13 bA_12; clear bA_12 bA_12_c0 bA_12_c1 bA_12_c2; have bA_13_c0 := cell_of_heap bA_13 0; have bA_13_c1 := cell_of_heap bA_13 1; have bA_13_c2 := cell_of_heap bA_13 2; have bB_13 := heap_new hn13 bB_12; clear bB_12 bB_12_c0 bB_12_c1 bB_12_c2; have bB_13_c0 := cell_of_heap bB_13 0; have bB_13_c1 := cell_of_heap bB_13 1; have bB_13_c2 := cell_of_heap bB_13 2; have X_13 := X_12.new (by omega) hn13; clear X_12; have bX_13 := heap_new hn13 bX_12; clear bX_12 bX_12_c0 bX_12_c1 bX_12_c2; have bX_13_c0 := cell_of_heap bX_13 0; have bX_13_c1 := cell_of_heap bX_13 1; have bX_13_c2 := cell_of_heap bX_13 2; have Y_13 := Y_12.new (by omega) hn13; clear Y_12; have bY_13 := heap_new hn13 bY_12; clear bY_12 bY_12_c0 bY_12_c1 bY_12_c2; have bY_13_c0 := cell_of_heap bY_13 0; have bY_13_c1 := cell_of_heap bY_13 1; have bY_13_c2 := cell_of_heap bY_13 2; clear hn13))
        clear C_14
        go_wp2_with fail
        have hn15 : New w14 w14.drew := (Kp.refl _ _).drew
        have z15 : w14.heap.size ≤ w14.drew.heap.size := hn15.size
        have N15 : New w w14.drew := N14.trans hn15
        have bA_15 := heap_new hn15 bA_14
        clear bA_14 bA_14_c0 bA_14_c1 bA_14_c2
        have bA_15_c0 := cell_of_heap bA_15 0
        have bA_15_c1 := cell_of_heap bA_15 1
        have bA_15_c2 := cell_of_heap bA_15 2
        have bB_15 := heap_new hn15 bB_14
        clear bB_14 bB_14_c0 bB_14_c1 bB_14_c2
        have bB_15_c0 := cell_of_heap bB_15 0
        have bB_15_c1 := cell_of_heap bB_15 1
        have bB_15_c2 := cell_of_heap bB_15 2
        have X_15 := X_14.new (by omega) hn15
        clear X_14
        have bX_15 := heap_new hn15 bX_14
        clear bX_14 bX_14_c0 bX_14_c1 bX_14_c2
        have bX_15_c0 := cell_of_heap bX_15 0
        have bX_15_c1 := cell_of_heap bX_15 1
        have bX_15_c2 := cell_of_heap bX_15 2
        have Y_15 := Y_14.new (by omega) hn15
        clear Y_14
        have bY_15 := heap_new hn15 bY_14
        clear bY_14 bY_14_c0 bY_14_c1 bY_14_c2
        have bY_15_c0 := cell_of_heap bY_15 0
        have bY_15_c1 := cell_of_heap bY_15 1
        have bY_15_c2 := cell_of_heap bY_15 2
        clear hn15
        set_option maxRecDepth 100000 in
        go_region_held3 (fun w' => w'.cell? ⟨w.heap.size, 0, none⟩ = some (.int .i64 k0) ∧ w'.cell? ⟨w.heap.size, 1, none⟩ = some (.int .i64 u0) ∧ w'.cell? ⟨w.heap.size, 2, none⟩ = some (t0) ∧ w'.cell? ⟨w.heap.size + 1, 0, none⟩ = some (.int .i64 k1) ∧ w'.cell? ⟨w.heap.size + 1, 1, none⟩ = some (.int .i64 u1) ∧ w'.cell? ⟨w.heap.size + 1, 2, none⟩ = some (t1) ∧ w'.cell? ⟨w7.heap.size, 0, none⟩ = some (.int .i64 k0) ∧ w'.cell? ⟨w7.heap.size, 1, none⟩ = some (.int .i64 u0) ∧ w'.cell? ⟨w7.heap.size, 2, none⟩ = some (.slice aX x0.length cX) ∧ w'.cell? ⟨w9.heap.size, 0, none⟩ = some (.int .i64 k1) ∧ w'.cell? ⟨w9.heap.size, 1, none⟩ = some (.int .i64 u1) ∧ w'.cell? ⟨w9.heap.size, 2, none⟩ = some (.slice aY x1.length cY)) (first | (refine ⟨?_, ?_, ?_, ?_, ?_, ?_, ?_, ?_, ?_, ?_, ?_, ?_⟩ <;> assumption) | go_keep)
          (first
            | (go_at_call 19; refine (EqE.eqExpr _ _ _ _ _ _ _ _ _ _ _ _ _ Y_16 oD (by omega) (by omega)).mono ?_; rintro e w17 ⟨rfl, hn17⟩; have z17 : w16.heap.size ≤ w17.heap.size := hn17.size; have N17 : New w w17 := N16.trans hn17; have bA_17 := heap_new hn17 bA_16; clear bA_16 bA_16_c0 bA_16_c1 bA_16_c2; have bA_17_c0 := cell_of_heap bA_17 0; have bA_17_c1 := cell_of_heap bA_17 1; have bA_17_c2 := cell_of_heap bA_17 2; have bB_17 := heap_new hn17 bB_16; clear bB_16 bB_16_c0 bB_16_c1 bB_16_c2; have bB_17_c0 := cell_of_heap bB_17 0; have bB_17_c1 := cell_of_heap bB_17 1; have bB_17_c2 := cell_of_heap bB_17 2; have X_17 := X_16.new (by omega) hn17; clear X_16; have bX_17 := heap_new hn17 bX_16; clear bX_16 bX_16_c0 bX_16_c1 bX_16_c2; have bX_17_c0 := cell_of_heap bX_17 0; have bX_17_c1 := cell_of_heap bX_17 1; have bX_17_c2 := cell_of_heap bX_17 2; have Y_17 := Y_16.new (by omega) hn17; clear Y_16; have bY_17 := heap_new hn17 bY_16; clear bY_16 bY_16_c0 bY_16_c1 bY_16_c2; have bY_17_c0 := cell_of_heap bY_17 0; have bY_17_c1 := cell_of_heap bY_17 1; have bY_17_c2 := cell_of_heap bY_17 2; have D_17 := oD.new (by omega) hn17; clear oD; clear hn17; rw [Ex.same_refl])
            | (go_at_call 17; refine (ToE.toExpr _ 0 w.heap.size _ _ _ x1 (by omega) (s1.new (Nat.le_refl _) N15) (by omega)).mono ?_; rintro e w16 ⟨tD, rfl, hn16, oD⟩; have z16 : w14.drew.heap.size ≤ w16.heap.size := hn16.size; have N16 : New w w16 := N15.trans hn16; have bA_16 := heap_new hn16 bA_15; clear bA_15 bA_15_c0 bA_15_c1 bA_15_c2; have bA_16_c0 := cell_of_heap bA_16 0; have bA_16_c1 := cell_of_heap bA_16 1; have bA_16_c2 := cell_of_heap bA_16 2; have bB_16 := heap_new hn16 bB_15; clear bB_15 bB_15_c0 bB_15_c1 bB_15_c2; have bB_16_c0 := cell_of_heap bB_16 0; have bB_16_c1 := cell_of_heap bB_16 1; have bB_16_c2 := cell_of_heap bB_16 2; have X_16 := X_15.new (by omega) hn16; clear X_15; have bX_16 := heap_new hn16 bX_15; clear bX_15 bX_15_c0 bX_15_c1 bX_15_c2; have bX_16_c0 := cell_of_heap bX_16 0; have bX_16_c1 := cell_of_heap bX_16 1; have bX_16_c2 := cell_of_heap bX_16 2; have Y_16 := Y_15.new (by omega) hn16; clear Y_15; have bY_16 := heap_new hn16 bY_15; clear bY_15 bY_15_c0 bY_15_c1 bY_15_c2; have bY_16_c0 := cell_of_heap bY_16 0; have bY_16_c1 := cell_of_heap bY_16 1; have bY_16_c2 := cell_of_heap bY_16 2; clear hn16))
        go_wp2
        go_ret
        exact ⟨rfl, N17.toBelow⟩
    · go_enter Try.func3, Try.ntmps3
      go_wp2_with fail
      have N0 : New w ((w.alloc (.cells #[.int .i64 k0, .int .i64 u0, t0] 24)).alloc (.cells #[.int .i64 k1, .int .i64 u1, t1] 24)) := ((Kp.refl _ _).alloc _).alloc _
      have bA : ((w.alloc (.cells #[.int .i64 k0, .int .i64 u0, t0] 24)).alloc (.cells #[.int .i64 k1, .int .i64 u1, t1] 24)).heap[w.heap.size]? = some (.cells #[.int .i64 k0, .int .i64 u0, t0] 24) := heap_old (alloc_heap _ _)
      have bB : ((w.alloc (.cells #[.int .i64 k0, .int .i64 u0, t0] 24)).alloc (.cells #[.int .i64 k1, .int .i64 u1, t1] 24)).heap[w.heap.size + 1]? = some (.cells #[.int .i64 k1, .int .i64 u1, t1] 24) := heap_at (by simp)
      have z0 : w.heap.size ≤ ((w.alloc (.cells #[.int .i64 k0, .int .i64 u0, t0] 24)).alloc (.cells #[.int .i64 k1, .int .i64 u1, t1] 24)).heap.size := N0.size
      generalize ((w.alloc (.cells #[.int .i64 k0, .int .i64 u0, t0] 24)).alloc (.cells #[.int .i64 k1, .int .i64 u1, t1] 24)) = w0 at *
      have bA_c0 := cell_of_heap bA 0
      have bA_c1 := cell_of_heap bA 1
      have bA_c2 := cell_of_heap bA 2
      have bB_c0 := cell_of_heap bB 0
      have bB_c1 := cell_of_heap bB 1
      have bB_c2 := cell_of_heap bB 2
      refine (SzE.szExpr w0 0 w.heap.size _ _ _ x0 (1048576) (s0.new (Nat.le_refl _) N0) (by omega) (by omega) (by omega)).mono ?_
      rintro e w1 ⟨rfl, hn1⟩
      have z1 : w0.heap.size ≤ w1.heap.size := hn1.size
      have N1 : New w w1 := N0.trans hn1
      have bA_1 := heap_new hn1 bA
      clear bA bA_c0 bA_c1 bA_c2
      have bA_1_c0 := cell_of_heap bA_1 0
      have bA_1_c1 := cell_of_heap bA_1 1
      have bA_1_c2 := cell_of_heap bA_1 2
      have bB_1 := heap_new hn1 bB
      clear bB bB_c0 bB_c1 bB_c2
      have bB_1_c0 := cell_of_heap bB_1 0
      have bB_1_c1 := cell_of_heap bB_1 1
      have bB_1_c2 := cell_of_heap bB_1 2
      clear hn1
      rw [szOf_hi (by omega)]
      go_wp2_with fail
      refine (SzE.szExpr w1 0 w.heap.size _ _ _ x1 (1048576 - (Ex.sizes x0 : Nat)) (s1.new (Nat.le_refl _) N1) (by omega) (by omega) (by omega)).mono ?_
      rintro e w2 ⟨rfl, hn2⟩
      have z2 : w1.heap.size ≤ w2.heap.size := hn2.size
      have N2 : New w w2 := N1.trans hn2
      have bA_2 := heap_new hn2 bA_1
      clear bA_1 bA_1_c0 bA_1_c1 bA_1_c2
      have bA_2_c0 := cell_of_heap bA_2 0
      have bA_2_c1 := cell_of_heap bA_2 1
      have bA_2_c2 := cell_of_heap bA_2 2
      have bB_2 := heap_new hn2 bB_1
      clear bB_1 bB_1_c0 bB_1_c1 bB_1_c2
      have bB_2_c0 := cell_of_heap bB_2 0
      have bB_2_c1 := cell_of_heap bB_2 1
      have bB_2_c2 := cell_of_heap bB_2 2
      clear hn2
      rw [szOf_lo (by omega)]
      go_wp2
      go_ret
      exact ⟨rfl, N2.toBelow⟩
  · go_enter Try.func3, Try.ntmps3
    go_wp2_with fail
    have N0 : New w ((w.alloc (.cells #[.int .i64 k0, .int .i64 u0, t0] 24)).alloc (.cells #[.int .i64 k1, .int .i64 u1, t1] 24)) := ((Kp.refl _ _).alloc _).alloc _
    have bA : ((w.alloc (.cells #[.int .i64 k0, .int .i64 u0, t0] 24)).alloc (.cells #[.int .i64 k1, .int .i64 u1, t1] 24)).heap[w.heap.size]? = some (.cells #[.int .i64 k0, .int .i64 u0, t0] 24) := heap_old (alloc_heap _ _)
    have bB : ((w.alloc (.cells #[.int .i64 k0, .int .i64 u0, t0] 24)).alloc (.cells #[.int .i64 k1, .int .i64 u1, t1] 24)).heap[w.heap.size + 1]? = some (.cells #[.int .i64 k1, .int .i64 u1, t1] 24) := heap_at (by simp)
    have z0 : w.heap.size ≤ ((w.alloc (.cells #[.int .i64 k0, .int .i64 u0, t0] 24)).alloc (.cells #[.int .i64 k1, .int .i64 u1, t1] 24)).heap.size := N0.size
    generalize ((w.alloc (.cells #[.int .i64 k0, .int .i64 u0, t0] 24)).alloc (.cells #[.int .i64 k1, .int .i64 u1, t1] 24)) = w0 at *
    have bA_c0 := cell_of_heap bA 0
    have bA_c1 := cell_of_heap bA 1
    have bA_c2 := cell_of_heap bA 2
    have bB_c0 := cell_of_heap bB 0
    have bB_c1 := cell_of_heap bB 1
    have bB_c2 := cell_of_heap bB 2
    refine (SzE.szExpr w0 0 w.heap.size _ _ _ x0 (1048576) (s0.new (Nat.le_refl _) N0) (by omega) (by omega) (by omega)).mono ?_
    rintro e w1 ⟨rfl, hn1⟩
    have z1 : w0.heap.size ≤ w1.heap.size := hn1.size
    have N1 : New w w1 := N0.trans hn1
    have bA_1 := heap_new hn1 bA
    clear bA bA_c0 bA_c1 bA_c2
    have bA_1_c0 := cell_of_heap bA_1 0
    have bA_1_c1 := cell_of_heap bA_1 1
    have bA_1_c2 := cell_of_heap bA_1 2
    have bB_1 := heap_new hn1 bB
    clear bB bB_c0 bB_c1 bB_c2
    have bB_1_c0 := cell_of_heap bB_1 0
    have bB_1_c1 := cell_of_heap bB_1 1
    have bB_1_c2 := cell_of_heap bB_1 2
    clear hn1
    rw [szOf_lo (by omega)]
    go_wp2
    go_ret
    exact ⟨rfl, N1.toBelow⟩
set_option maxRecDepth 100000 in
theorem lifted (os : Os) (started : os.Started) (H : Type) (enc : TypeId × Value → H) :
    ReturnsInHanded {} Try.checked os 3 .any (Rows.fnExactExprSameSpec.pre6 enc Try.prog Try.f3 Rows.fnExactExprSameRow.domain false) (Rows.fnExactExprSameSpec.post enc Try.prog Try.f3 false true false false) := by
  refine returnsInHanded_of_change (C := Try.checked) own started (by kernel_rfl) Try.func3
    (ChangeSpec.witness6 (enc := enc) (C := Try.checked) false ⟨#[], #[.agg #[.int .i64 0, .int .i64 0, .slice none 0 0], .agg #[.int .i64 0, .int .i64 0, .slice none 0 0]], []⟩ 8 (by kernel_rfl) (by kernel_rfl) (by kernel_rfl) (by kernel_rfl)) ?_
  intro W base args ds gs before hval0 hW hcnd _
  have hval : ∀ (j : Nat) t v, Try.f3.params[j]? = some t → args[j]? = some v → Value.okWide Try.prog W .any base t v := hval0
  have hW' := hW
  obtain ⟨p, q, hA0, hV, rfl, hfz, hnd⟩ := hW
  have hA : DataW.TrodAll enc Try.prog W 0 (fun _ => true) true Try.f3.params.toList args.toList ds p := hA0
  rw [Try.params3] at hA hval
  obtain ⟨v0, vs0, d0, ds0, p0, q0, hargs, rfl, rfl, h0, r0⟩ := trodAll_cons hA
  obtain ⟨v1, vs1, d1, ds1, p1, q1, rfl, rfl, rfl, h1, r1⟩ := trodAll_cons r0
  obtain ⟨rfl, rfl, rfl⟩ := trodAll_nil r1
  obtain rfl : args = #[v0, v1] := by cases args; simp_all
  obtain ⟨rfl, rfl⟩ := trodVars_none hV
  have kk0 := h0
  have lt0 : ∀ x ∈ p0, x.block < W.heap.size := by obtain ⟨m, hm⟩ := kk0; exact DataW.trod_lt m _ _ _ hm
  obtain ⟨k0, u0, t0, x0, rfl, s0⟩ := Open.exprL (hval 0 24 v0 rfl rfl) h0
  have kk1 := h1
  have lt1 : ∀ x ∈ p1, x.block < W.heap.size := by obtain ⟨m, hm⟩ := kk1; exact DataW.trod_lt m _ _ _ hm
  obtain ⟨k1, u1, t1, x1, rfl, s1⟩ := Open.exprL (hval 1 24 v1 rfl rfl) h1
  clear hA0 hval0
  refine (walk k0 u0 t0 x0 k1 u1 t1 x1 W s0 s1).mono fun e W' ⟨he, bel⟩ => ?_
  subst he
  exact ⟨_, rfl, _, _, _, [], _, [], hW', trodAll_mk1 (shut_bool Try.underlying4 _), (trodAll_cons_mk (Below.trod laidOut (by kernel_rfl) (of_decide_eq_true (by kernel_rfl)) kk0 bel lt0) (trodAll_cons_mk (Below.trod laidOut (by kernel_rfl) (of_decide_eq_true (by kernel_rfl)) kk1 bel lt1) trodAll_mk0)), rfl, bel.frame _, fun h => by cases h⟩
theorem over : Rows.fnExactExprSameRow.holds Try.pinned (OpenSpec.ofChange Rows.fnExactExprSameSpec) :=
  OpenClaim.holds_of_wide 3 Try.f3 rfl rfl rfl rfl rfl rfl rfl ⟨rfl, rfl, rfl, rfl, rfl⟩ rfl rfl rfl rfl rfl (by kernel_rfl) Try.func3 (by kernel_rfl)
    (of_decide_eq_true (by kernel_rfl)) (by unfold Func.isWrapper; first | (rw [if_pos (by decide +kernel)]; kernel_rfl) | (rw [if_neg (by decide +kernel)]; exact ⟨rfl, rfl⟩))
    (fun os started H enc _ => lifted os started H enc)
theorem proved : Rows.FnExactExprSameSaid := over
#print axioms proved
end Go.Proofs.Ytiokjfgkheollaa.fnExactExprSame
