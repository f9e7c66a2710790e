/- FnExactFormatExpr: for every input the law returns true, and the arguments read as they did; the listed variables as the program lays them. No conditions. -/
import Derived.Test.YtckikiaockkmbaaDoorRows
import Derived.Test.YtckikiaockkmbaaDoorCards
import Derived.Test.YtckikiaockkmbaaDoorTie
import Derived.Test.YtckikiaockkmbaaDoorYLaidD
import Derived.Test.YtckikiaockkmbaaDoorYP2
import Derived.Test.YtckikiaockkmbaaDoorYOpenT
import Derived.Test.YtckikiaockkmbaaDoorYPgmF
import Derived.Test.YtckikiaockkmbaaDoorYToE
import Derived.Test.YtckikiaockkmbaaDoorYEqE
import Derived.Test.YtckikiaockkmbaaDoorYFmtE
import Derived.Deep.RegionHeld3
import Derived.WalkKit
import Derived.ProofKit
import Derived.OpenShut
import Derived.ShutString
import Derived.ChangeOld
import Derived.Below
import Derived.SevenTiedAt
import Derived.LaidMore
import Derived.Stop.Joined
namespace Go.Proofs.YtckikiaockkmbaaDoor.fnExactFormatExpr
open Go.ChangeShapes Go.WideShapes Go.ChangeAt Go.RowKit Kit
open Go.ChangeMaps (open_string shut_string)
set_option linter.unusedVariables false
theorem own : ownKnob Tryd.prog.godebug = none := by kernel_rfl
theorem laidOut : laidOutB Tryd.prog = true := by kernel_rfl
theorem eqE1 {w : World} {lo hi lo' hi' : Nat} {k u : Int} {s t : Value} {l : List Ex} (hs : KidsR w lo hi s l) (ht : KidsR w lo' hi' t l) (h1 : hi ≤ w.heap.size) (h2 : hi' ≤ w.heap.size) :
    Calls Tryd.prog 18 #[.agg #[.int .i64 k, .int .i64 u, s], .agg #[.int .i64 k, .int .i64 u, t]] w fun e w' => e = .returned (.bool true) ∧ New w w' :=
  (EqE.eqExpr w lo hi lo' hi' k u k u s t l l hs ht h1 h2).mono fun e w' ⟨h, k⟩ => ⟨by rw [h, Ex.same_refl], k⟩
set_option maxHeartbeats 8000000 in
set_option maxRecDepth 100000 in
theorem walk (ta0 : Value) (tb0 : Value) (tc0 : Value) (xa0 : List Int) (xb0 : List Int) (x0 : List St) (k1 : Int) (u1 : Int) (t1 : Value) (x1 : List Ex) (w : World) (sa0 : IntsR w 0 w.heap.size ta0 xa0) (sb0 : IntsR w 0 w.heap.size tb0 xb0) (s0 : StsR w 0 w.heap.size tc0 x0) (s1 : KidsR w 0 w.heap.size t1 x1) (ht : DecT.Tab w) :
    Calls Tryd.prog 4 #[.agg #[ta0, tb0, tc0], .agg #[.int .i64 k1, .int .i64 u1, t1]] w fun e w' => e = .returned (.bool true) ∧ Below w.heap.size w w' := by
  have htb := Lib.hid ht
  clear ht
  obtain ⟨bb, hbb⟩ : ∃ bb, (FmtX.textX xa0 xb0 (.node k1 u1 x1)) = bb := ⟨_, rfl⟩
  by_cases q0 : (xa0.length + (xb0.length + St.sizes x0)) ≤ 1048576
  · by_cases q1 : (xa0.length + (xb0.length + St.sizes x0)) + (Ex.sizes x1) ≤ 1048576
    · go_enter Tryd.func4, Tryd.ntmps4
      go_wp2_with fail
      have N0 : New w ((w.alloc (.cells #[ta0, tb0, tc0] 32)).alloc (.cells #[.int .i64 k1, .int .i64 u1, t1] 35)) := (((Kp.refl _ _).alloc _).alloc _)
      have bA0_0 : ((w.alloc (.cells #[ta0, tb0, tc0] 32)).alloc (.cells #[.int .i64 k1, .int .i64 u1, t1] 35)).heap[w.heap.size]? = some (.cells #[ta0, tb0, tc0] 32) := heap_old (alloc_heap _ _)
      have bA1_0 : ((w.alloc (.cells #[ta0, tb0, tc0] 32)).alloc (.cells #[.int .i64 k1, .int .i64 u1, t1] 35)).heap[w.heap.size + 1]? = some (.cells #[.int .i64 k1, .int .i64 u1, t1] 35) := heap_at (by simp)
      have z0 : w.heap.size + 1 < ((w.alloc (.cells #[ta0, tb0, tc0] 32)).alloc (.cells #[.int .i64 k1, .int .i64 u1, t1] 35)).heap.size := by simp
      generalize ((w.alloc (.cells #[ta0, tb0, tc0] 32)).alloc (.cells #[.int .i64 k1, .int .i64 u1, t1] 35)) = w0 at *
      have bA0_0_c0 := cell_of_heap bA0_0 0
      have bA0_0_c1 := cell_of_heap bA0_0 1
      have bA0_0_c2 := cell_of_heap bA0_0 2
      have bA1_0_c0 := cell_of_heap bA1_0 0
      have bA1_0_c1 := cell_of_heap bA1_0 1
      have bA1_0_c2 := cell_of_heap bA1_0 2
      refine (PgmF.szProgram _ 0 w.heap.size _ _ _ _ _ _ (sa0.new (Nat.le_refl _) N0) (sb0.new (Nat.le_refl _) N0) (s0.new (Nat.le_refl _) N0) (1048576) (by omega) (by omega) (by omega)).mono ?_
      rintro e w1 ⟨rfl, hn1⟩
      have z1 : w0.heap.size ≤ w1.heap.size := hn1.size
      have N1 : New w w1 := N0.trans hn1
      have bA0_1 := heap_new hn1 bA0_0
      have bA1_1 := heap_new hn1 bA1_0
      clear bA0_0_c0 bA0_0_c1 bA0_0_c2 bA1_0_c0 bA1_0_c1 bA1_0_c2
      clear bA0_0 bA1_0 hn1
      rw [szOf_hi (by omega)]
      have bA0_1_c0 := cell_of_heap bA0_1 0
      have bA0_1_c1 := cell_of_heap bA0_1 1
      have bA0_1_c2 := cell_of_heap bA0_1 2
      have bA1_1_c0 := cell_of_heap bA1_1 0
      have bA1_1_c1 := cell_of_heap bA1_1 1
      have bA1_1_c2 := cell_of_heap bA1_1 2
      go_wp2_with fail
      refine (SzE.szExpr _ 0 w.heap.size _ _ _ _ (1048576 - ((xa0.length + (xb0.length + St.sizes x0)) : Nat)) (s1.new (Nat.le_refl _) N1) (by omega) (by omega) (by omega)).mono ?_
      rintro e w2 ⟨rfl, hn2⟩
      have z2 : w1.heap.size ≤ w2.heap.size := hn2.size
      have N2 : New w w2 := N1.trans hn2
      have bA0_2 := heap_new hn2 bA0_1
      have bA1_2 := heap_new hn2 bA1_1
      clear bA0_1_c0 bA0_1_c1 bA0_1_c2 bA1_1_c0 bA1_1_c1 bA1_1_c2
      clear bA0_1 bA1_1 hn2
      rw [szOf_hi (by omega)]
      have bA0_2_c0 := cell_of_heap bA0_2 0
      have bA0_2_c1 := cell_of_heap bA0_2 1
      have bA0_2_c2 := cell_of_heap bA0_2 2
      have bA1_2_c0 := cell_of_heap bA1_2 0
      have bA1_2_c1 := cell_of_heap bA1_2 1
      have bA1_2_c2 := cell_of_heap bA1_2 2
      go_wp2_with fail
      have hn3 : New w2 w2.drew := (Kp.refl _ _).drew
      have z3 : w2.heap.size ≤ w2.drew.heap.size := hn3.size
      have N3 : New w w2.drew := N2.trans hn3
      have bA0_3 := heap_new hn3 bA0_2
      have bA1_3 := heap_new hn3 bA1_2
      clear bA0_2_c0 bA0_2_c1 bA0_2_c2 bA1_2_c0 bA1_2_c1 bA1_2_c2
      clear bA0_2 bA1_2 hn3
      have bA0_3_c0 := cell_of_heap bA0_3 0
      have bA0_3_c1 := cell_of_heap bA0_3 1
      have bA0_3_c2 := cell_of_heap bA0_3 2
      have bA1_3_c0 := cell_of_heap bA1_3 0
      have bA1_3_c1 := cell_of_heap bA1_3 1
      have bA1_3_c2 := cell_of_heap bA1_3 2
      set_option maxRecDepth 100000 in
      go_region_held3 (fun w' => w'.cell? ⟨w.heap.size, 0, none⟩ = some (ta0) ∧ w'.cell? ⟨w.heap.size, 1, none⟩ = some (tb0) ∧ w'.cell? ⟨w.heap.size, 2, none⟩ = some (tc0) ∧ w'.cell? ⟨w.heap.size + 1, 0, none⟩ = some (.int .i64 k1) ∧ w'.cell? ⟨w.heap.size + 1, 1, none⟩ = some (.int .i64 u1) ∧ w'.cell? ⟨w.heap.size + 1, 2, none⟩ = some (t1)) (first | (refine ⟨?_, ?_, ?_, ?_, ?_, ?_⟩ <;> assumption) | go_keep)
        (first
          | (go_at_call 13; refine (FmtE.specFE oP0a_5 oP0b_5 oP1a_5 (by omega) (by omega) (by omega)).mono ?_; rintro e w6 ⟨rfl, hn6⟩; have z6 : w5.heap.size ≤ w6.heap.size := hn6.size; have N6 : New w w6 := N5.trans hn6; have bA0_6 := heap_new hn6 bA0_5; have bA1_6 := heap_new hn6 bA1_5; have oP0a_6 := oP0a_5.new (by omega) hn6; have oP0b_6 := oP0b_5.new (by omega) hn6; have oP0c_6 := oP0c_5.new (by omega) hn6; have oP1a_6 := oP1a_5.new (by omega) hn6; clear bA0_5_c0 bA0_5_c1 bA0_5_c2 bA1_5_c0 bA1_5_c1 bA1_5_c2; clear bA0_5 bA1_5 oP0a_5 oP0b_5 oP0c_5 oP1a_5 hn6; rw [hbb]; have bA0_6_c0 := cell_of_heap bA0_6 0; have bA0_6_c1 := cell_of_heap bA0_6 1; have bA0_6_c2 := cell_of_heap bA0_6 2; have bA1_6_c0 := cell_of_heap bA1_6 0; have bA1_6_c1 := cell_of_heap bA1_6 1; have bA1_6_c2 := cell_of_heap bA1_6 2)
          | (go_at_call 15; refine (ToE.toExpr _ 0 w.heap.size _ _ _ _ (by omega) (s1.new (Nat.le_refl _) N4) (by omega)).mono ?_; rintro e w5 ⟨vP1a, rfl, hn5, oP1a⟩; have z5 : w4.heap.size ≤ w5.heap.size := hn5.size; have N5 : New w w5 := N4.trans hn5; have bA0_5 := heap_new hn5 bA0_4; have bA1_5 := heap_new hn5 bA1_4; have oP0a_5 := oP0a_4.new (by omega) hn5; have oP0b_5 := oP0b_4.new (by omega) hn5; have oP0c_5 := oP0c_4.new (by omega) hn5; clear bA0_4_c0 bA0_4_c1 bA0_4_c2 bA1_4_c0 bA1_4_c1 bA1_4_c2; clear bA0_4 bA1_4 oP0a_4 oP0b_4 oP0c_4 hn5; have oP1a_5 := oP1a; clear oP1a; have bA0_5_c0 := cell_of_heap bA0_5 0; have bA0_5_c1 := cell_of_heap bA0_5 1; have bA0_5_c2 := cell_of_heap bA0_5 2; have bA1_5_c0 := cell_of_heap bA1_5 0; have bA1_5_c1 := cell_of_heap bA1_5 1; have bA1_5_c2 := cell_of_heap bA1_5 2)
          | (go_at_call 14; refine (PgmF.toProgram _ 0 w.heap.size _ _ _ _ _ _ (sa0.new (Nat.le_refl _) N3) (sb0.new (Nat.le_refl _) N3) (s0.new (Nat.le_refl _) N3) (by omega) (by omega) (by omega) (by omega)).mono ?_; rintro e w4 ⟨vP0a, vP0b, vP0c, rfl, hn4, oP0a, oP0b, oP0c⟩; have z4 : w2.drew.heap.size ≤ w4.heap.size := hn4.size; have N4 : New w w4 := N3.trans hn4; have bA0_4 := heap_new hn4 bA0_3; have bA1_4 := heap_new hn4 bA1_3; clear bA0_3_c0 bA0_3_c1 bA0_3_c2 bA1_3_c0 bA1_3_c1 bA1_3_c2; clear bA0_3 bA1_3 hn4; have oP0a_4 := oP0a; clear oP0a; have oP0b_4 := oP0b; clear oP0b; have oP0c_4 := oP0c; clear oP0c; have bA0_4_c0 := cell_of_heap bA0_4 0; have bA0_4_c1 := cell_of_heap bA0_4 1; have bA0_4_c2 := cell_of_heap bA0_4 2; have bA1_4_c0 := cell_of_heap bA1_4 0; have bA1_4_c1 := cell_of_heap bA1_4 1; have bA1_4_c2 := cell_of_heap bA1_4 2))
      clear oP0a_6
      clear oP0b_6
      clear oP0c_6
      clear oP1a_6
      clear bA0_6_c0 bA0_6_c1 bA0_6_c2 bA1_6_c0 bA1_6_c1 bA1_6_c2
      have bA0_6_c0 := cell_of_heap bA0_6 0
      have bA0_6_c1 := cell_of_heap bA0_6 1
      have bA0_6_c2 := cell_of_heap bA0_6 2
      have bA1_6_c0 := cell_of_heap bA1_6 0
      have bA1_6_c1 := cell_of_heap bA1_6 1
      have bA1_6_c2 := cell_of_heap bA1_6 2
      go_wp2_with fail
      refine (PgmF.toProgram _ 0 w.heap.size _ _ _ _ _ _ (sa0.new (Nat.le_refl _) N6) (sb0.new (Nat.le_refl _) N6) (s0.new (Nat.le_refl _) N6) (by omega) (by omega) (by omega) (by omega)).mono ?_
      rintro e w7 ⟨vX0a, vX0b, vX0c, rfl, hn7, oX0a, oX0b, oX0c⟩
      have z7 : w6.heap.size ≤ w7.heap.size := hn7.size
      have N7 : New w w7 := N6.trans hn7
      have bA0_7 := heap_new hn7 bA0_6
      have bA1_7 := heap_new hn7 bA1_6
      clear bA0_6_c0 bA0_6_c1 bA0_6_c2 bA1_6_c0 bA1_6_c1 bA1_6_c2
      clear bA0_6 bA1_6 hn7
      have oX0a_7 := oX0a
      clear oX0a
      have oX0b_7 := oX0b
      clear oX0b
      have oX0c_7 := oX0c
      clear oX0c
      obtain ⟨aX0a, cX0a, rfl, _⟩ := oX0a_7.len
      obtain ⟨aX0b, cX0b, rfl, _⟩ := oX0b_7.len
      obtain ⟨aX0c, cX0c, rfl, _⟩ := oX0c_7.len
      have hn8 : New w7 (w7.alloc (.cells #[.slice aX0a xa0.length cX0a, .slice aX0b xb0.length cX0b, .slice aX0c x0.length cX0c] 41)) := (Kp.refl _ _).alloc _
      have z8 : w7.heap.size < (w7.alloc (.cells #[.slice aX0a xa0.length cX0a, .slice aX0b xb0.length cX0b, .slice aX0c x0.length cX0c] 41)).heap.size := by simp
      have N8 : New w (w7.alloc (.cells #[.slice aX0a xa0.length cX0a, .slice aX0b xb0.length cX0b, .slice aX0c x0.length cX0c] 41)) := N7.trans hn8
      have bA0_8 := heap_new hn8 bA0_7
      have bA1_8 := heap_new hn8 bA1_7
      have oX0a_8 := oX0a_7.new (by omega) hn8
      have oX0b_8 := oX0b_7.new (by omega) hn8
      have oX0c_8 := oX0c_7.new (by omega) hn8
      have bX0_8 : (w7.alloc (.cells #[.slice aX0a xa0.length cX0a, .slice aX0b xb0.length cX0b, .slice aX0c x0.length cX0c] 41)).heap[w7.heap.size]? = some (.cells #[.slice aX0a xa0.length cX0a, .slice aX0b xb0.length cX0b, .slice aX0c x0.length cX0c] 41) := alloc_heap _ _
      clear bA0_7 bA1_7 oX0a_7 oX0b_7 oX0c_7 hn8
      have bA0_8_c0 := cell_of_heap bA0_8 0
      have bA0_8_c1 := cell_of_heap bA0_8 1
      have bA0_8_c2 := cell_of_heap bA0_8 2
      have bA1_8_c0 := cell_of_heap bA1_8 0
      have bA1_8_c1 := cell_of_heap bA1_8 1
      have bA1_8_c2 := cell_of_heap bA1_8 2
      have bX0_8_c0 := cell_of_heap bX0_8 0
      have bX0_8_c1 := cell_of_heap bX0_8 1
      have bX0_8_c2 := cell_of_heap bX0_8 2
      go_wp2_with fail
      generalize (w7.alloc (.cells #[.slice aX0a xa0.length cX0a, .slice aX0b xb0.length cX0b, .slice aX0c x0.length cX0c] 41)) = w8 at *
      refine (ToE.toExpr _ 0 w.heap.size _ _ _ _ (by omega) (s1.new (Nat.le_refl _) N8) (by omega)).mono ?_
      rintro e w9 ⟨vX1a, rfl, hn9, oX1a⟩
      have z9 : w8.heap.size ≤ w9.heap.size := hn9.size
      have N9 : New w w9 := N8.trans hn9
      have bA0_9 := heap_new hn9 bA0_8
      have bA1_9 := heap_new hn9 bA1_8
      have bX0_9 := heap_new hn9 bX0_8
      have oX0a_9 := oX0a_8.new (by omega) hn9
      have oX0b_9 := oX0b_8.new (by omega) hn9
      have oX0c_9 := oX0c_8.new (by omega) hn9
      clear bA0_8_c0 bA0_8_c1 bA0_8_c2 bA1_8_c0 bA1_8_c1 bA1_8_c2 bX0_8_c0 bX0_8_c1 bX0_8_c2
      clear bA0_8 bA1_8 bX0_8 oX0a_8 oX0b_8 oX0c_8 hn9
      have oX1a_9 := oX1a
      clear oX1a
      obtain ⟨aX1a, cX1a, rfl, _⟩ := oX1a_9.len
      have hn10 : New w9 (w9.alloc (.cells #[.int .i64 k1, .int .i64 u1, .slice aX1a x1.length cX1a] 45)) := (Kp.refl _ _).alloc _
      have z10 : w9.heap.size < (w9.alloc (.cells #[.int .i64 k1, .int .i64 u1, .slice aX1a x1.length cX1a] 45)).heap.size := by simp
      have N10 : New w (w9.alloc (.cells #[.int .i64 k1, .int .i64 u1, .slice aX1a x1.length cX1a] 45)) := N9.trans hn10
      have bA0_10 := heap_new hn10 bA0_9
      have bA1_10 := heap_new hn10 bA1_9
      have bX0_10 := heap_new hn10 bX0_9
      have oX0a_10 := oX0a_9.new (by omega) hn10
      have oX0b_10 := oX0b_9.new (by omega) hn10
      have oX0c_10 := oX0c_9.new (by omega) hn10
      have oX1a_10 := oX1a_9.new (by omega) hn10
      have bX1_10 : (w9.alloc (.cells #[.int .i64 k1, .int .i64 u1, .slice aX1a x1.length cX1a] 45)).heap[w9.heap.size]? = some (.cells #[.int .i64 k1, .int .i64 u1, .slice aX1a x1.length cX1a] 45) := alloc_heap _ _
      clear bA0_9 bA1_9 bX0_9 oX0a_9 oX0b_9 oX0c_9 oX1a_9 hn10
      have bA0_10_c0 := cell_of_heap bA0_10 0
      have bA0_10_c1 := cell_of_heap bA0_10 1
      have bA0_10_c2 := cell_of_heap bA0_10 2
      have bA1_10_c0 := cell_of_heap bA1_10 0
      have bA1_10_c1 := cell_of_heap bA1_10 1
      have bA1_10_c2 := cell_of_heap bA1_10 2
      have bX0_10_c0 := cell_of_heap bX0_10 0
      have bX0_10_c1 := cell_of_heap bX0_10 1
      have bX0_10_c2 := cell_of_heap bX0_10 2
      have bX1_10_c0 := cell_of_heap bX1_10 0
      have bX1_10_c1 := cell_of_heap bX1_10 1
      have bX1_10_c2 := cell_of_heap bX1_10 2
      go_wp2_with fail
      generalize (w9.alloc (.cells #[.int .i64 k1, .int .i64 u1, .slice aX1a x1.length cX1a] 45)) = w10 at *
      refine (FmtE.implFE oX0a_10 oX0b_10 oX1a_10 (by omega) (by omega) (by omega) (htb.out.new N10)).mono ?_
      rintro e w11 ⟨rfl, hn11⟩
      have z11 : w10.heap.size ≤ w11.heap.size := hn11.size
      have N11 : New w w11 := N10.trans hn11
      have bA0_11 := heap_new hn11 bA0_10
      have bA1_11 := heap_new hn11 bA1_10
      have bX0_11 := heap_new hn11 bX0_10
      have bX1_11 := heap_new hn11 bX1_10
      have oX0a_11 := oX0a_10.new (by omega) hn11
      have oX0b_11 := oX0b_10.new (by omega) hn11
      have oX0c_11 := oX0c_10.new (by omega) hn11
      have oX1a_11 := oX1a_10.new (by omega) hn11
      clear bA0_10_c0 bA0_10_c1 bA0_10_c2 bA1_10_c0 bA1_10_c1 bA1_10_c2 bX0_10_c0 bX0_10_c1 bX0_10_c2 bX1_10_c0 bX1_10_c1 bX1_10_c2
      clear bA0_10 bA1_10 bX0_10 bX1_10 oX0a_10 oX0b_10 oX0c_10 oX1a_10 hn11
      rw [hbb]
      clear hbb
      have bA0_11_c0 := cell_of_heap bA0_11 0
      have bA0_11_c1 := cell_of_heap bA0_11 1
      have bA0_11_c2 := cell_of_heap bA0_11 2
      have bA1_11_c0 := cell_of_heap bA1_11 0
      have bA1_11_c1 := cell_of_heap bA1_11 1
      have bA1_11_c2 := cell_of_heap bA1_11 2
      have bX0_11_c0 := cell_of_heap bX0_11 0
      have bX0_11_c1 := cell_of_heap bX0_11 1
      have bX0_11_c2 := cell_of_heap bX0_11 2
      have bX1_11_c0 := cell_of_heap bX1_11 0
      have bX1_11_c1 := cell_of_heap bX1_11 1
      have bX1_11_c2 := cell_of_heap bX1_11 2
      go_wp2_with fail
      have hn12 : New w11 w11.drew := (Kp.refl _ _).drew
      have z12 : w11.heap.size ≤ w11.drew.heap.size := hn12.size
      have N12 : New w w11.drew := N11.trans hn12
      have bA0_12 := heap_new hn12 bA0_11
      have bA1_12 := heap_new hn12 bA1_11
      have bX0_12 := heap_new hn12 bX0_11
      have bX1_12 := heap_new hn12 bX1_11
      have oX0a_12 := oX0a_11.new (by omega) hn12
      have oX0b_12 := oX0b_11.new (by omega) hn12
      have oX0c_12 := oX0c_11.new (by omega) hn12
      have oX1a_12 := oX1a_11.new (by omega) hn12
      clear bA0_11_c0 bA0_11_c1 bA0_11_c2 bA1_11_c0 bA1_11_c1 bA1_11_c2 bX0_11_c0 bX0_11_c1 bX0_11_c2 bX1_11_c0 bX1_11_c1 bX1_11_c2
      clear bA0_11 bA1_11 bX0_11 bX1_11 oX0a_11 oX0b_11 oX0c_11 oX1a_11 hn12
      have bA0_12_c0 := cell_of_heap bA0_12 0
      have bA0_12_c1 := cell_of_heap bA0_12 1
      have bA0_12_c2 := cell_of_heap bA0_12 2
      have bA1_12_c0 := cell_of_heap bA1_12 0
      have bA1_12_c1 := cell_of_heap bA1_12 1
      have bA1_12_c2 := cell_of_heap bA1_12 2
      have bX0_12_c0 := cell_of_heap bX0_12 0
      have bX0_12_c1 := cell_of_heap bX0_12 1
      have bX0_12_c2 := cell_of_heap bX0_12 2
      have bX1_12_c0 := cell_of_heap bX1_12 0
      have bX1_12_c1 := cell_of_heap bX1_12 1
      have bX1_12_c2 := cell_of_heap bX1_12 2
      set_option maxRecDepth 100000 in
      go_region_held3 (fun w' => w'.cell? ⟨w.heap.size, 0, none⟩ = some (ta0) ∧ w'.cell? ⟨w.heap.size, 1, none⟩ = some (tb0) ∧ w'.cell? ⟨w.heap.size, 2, none⟩ = some (tc0) ∧ w'.cell? ⟨w.heap.size + 1, 0, none⟩ = some (.int .i64 k1) ∧ w'.cell? ⟨w.heap.size + 1, 1, none⟩ = some (.int .i64 u1) ∧ w'.cell? ⟨w.heap.size + 1, 2, none⟩ = some (t1) ∧ w'.cell? ⟨w7.heap.size, 0, none⟩ = some (.slice aX0a xa0.length cX0a) ∧ w'.cell? ⟨w7.heap.size, 1, none⟩ = some (.slice aX0b xb0.length cX0b) ∧ w'.cell? ⟨w7.heap.size, 2, none⟩ = some (.slice aX0c x0.length cX0c) ∧ w'.cell? ⟨w9.heap.size, 0, none⟩ = some (.int .i64 k1) ∧ w'.cell? ⟨w9.heap.size, 1, none⟩ = some (.int .i64 u1) ∧ w'.cell? ⟨w9.heap.size, 2, none⟩ = some (.slice aX1a x1.length cX1a)) (first | (refine ⟨?_, ?_, ?_, ?_, ?_, ?_, ?_, ?_, ?_, ?_, ?_, ?_⟩ <;> assumption) | go_keep)
        (first
          | (go_at_call 17; refine (PgmF.eqProgram1 oX0a_13 oX0b_13 oX0c_13 oC0a_13 oC0b_13 oC0c_13 (by omega) (by omega)).mono ?_; rintro e w14 ⟨rfl, hn14⟩; have z14 : w13.heap.size ≤ w14.heap.size := hn14.size; have N14 : New w w14 := N13.trans hn14; have bA0_14 := heap_new hn14 bA0_13; have bA1_14 := heap_new hn14 bA1_13; have bX0_14 := heap_new hn14 bX0_13; have bX1_14 := heap_new hn14 bX1_13; have oX0a_14 := oX0a_13.new (by omega) hn14; have oX0b_14 := oX0b_13.new (by omega) hn14; have oX0c_14 := oX0c_13.new (by omega) hn14; have oX1a_14 := oX1a_13.new (by omega) hn14; have oC0a_14 := oC0a_13.new (by omega) hn14; have oC0b_14 := oC0b_13.new (by omega) hn14; have oC0c_14 := oC0c_13.new (by omega) hn14; clear bA0_13_c0 bA0_13_c1 bA0_13_c2 bA1_13_c0 bA1_13_c1 bA1_13_c2 bX0_13_c0 bX0_13_c1 bX0_13_c2 bX1_13_c0 bX1_13_c1 bX1_13_c2; clear bA0_13 bA1_13 bX0_13 bX1_13 oX0a_13 oX0b_13 oX0c_13 oX1a_13 oC0a_13 oC0b_13 oC0c_13 hn14; have bA0_14_c0 := cell_of_heap bA0_14 0; have bA0_14_c1 := cell_of_heap bA0_14 1; have bA0_14_c2 := cell_of_heap bA0_14 2; have bA1_14_c0 := cell_of_heap bA1_14 0; have bA1_14_c1 := cell_of_heap bA1_14 1; have bA1_14_c2 := cell_of_heap bA1_14 2; have bX0_14_c0 := cell_of_heap bX0_14 0; have bX0_14_c1 := cell_of_heap bX0_14 1; have bX0_14_c2 := cell_of_heap bX0_14 2; have bX1_14_c0 := cell_of_heap bX1_14 0; have bX1_14_c1 := cell_of_heap bX1_14 1; have bX1_14_c2 := cell_of_heap bX1_14 2)
          | (go_at_call 14; refine (PgmF.toProgram _ 0 w.heap.size _ _ _ _ _ _ (sa0.new (Nat.le_refl _) N12) (sb0.new (Nat.le_refl _) N12) (s0.new (Nat.le_refl _) N12) (by omega) (by omega) (by omega) (by omega)).mono ?_; rintro e w13 ⟨vC0a, vC0b, vC0c, rfl, hn13, oC0a, oC0b, oC0c⟩; have z13 : w11.drew.heap.size ≤ w13.heap.size := hn13.size; have N13 : New w w13 := N12.trans hn13; have bA0_13 := heap_new hn13 bA0_12; have bA1_13 := heap_new hn13 bA1_12; have bX0_13 := heap_new hn13 bX0_12; have bX1_13 := heap_new hn13 bX1_12; have oX0a_13 := oX0a_12.new (by omega) hn13; have oX0b_13 := oX0b_12.new (by omega) hn13; have oX0c_13 := oX0c_12.new (by omega) hn13; have oX1a_13 := oX1a_12.new (by omega) hn13; clear bA0_12_c0 bA0_12_c1 bA0_12_c2 bA1_12_c0 bA1_12_c1 bA1_12_c2 bX0_12_c0 bX0_12_c1 bX0_12_c2 bX1_12_c0 bX1_12_c1 bX1_12_c2; clear bA0_12 bA1_12 bX0_12 bX1_12 oX0a_12 oX0b_12 oX0c_12 oX1a_12 hn13; have oC0a_13 := oC0a; clear oC0a; have oC0b_13 := oC0b; clear oC0b; have oC0c_13 := oC0c; clear oC0c; have bA0_13_c0 := cell_of_heap bA0_13 0; have bA0_13_c1 := cell_of_heap bA0_13 1; have bA0_13_c2 := cell_of_heap bA0_13 2; have bA1_13_c0 := cell_of_heap bA1_13 0; have bA1_13_c1 := cell_of_heap bA1_13 1; have bA1_13_c2 := cell_of_heap bA1_13 2; have bX0_13_c0 := cell_of_heap bX0_13 0; have bX0_13_c1 := cell_of_heap bX0_13 1; have bX0_13_c2 := cell_of_heap bX0_13 2; have bX1_13_c0 := cell_of_heap bX1_13 0; have bX1_13_c1 := cell_of_heap bX1_13 1; have bX1_13_c2 := cell_of_heap bX1_13 2))
      clear oC0a_14
      clear oC0b_14
      clear oC0c_14
      clear bA0_14_c0 bA0_14_c1 bA0_14_c2 bA1_14_c0 bA1_14_c1 bA1_14_c2 bX0_14_c0 bX0_14_c1 bX0_14_c2 bX1_14_c0 bX1_14_c1 bX1_14_c2
      have bA0_14_c0 := cell_of_heap bA0_14 0
      have bA0_14_c1 := cell_of_heap bA0_14 1
      have bA0_14_c2 := cell_of_heap bA0_14 2
      have bA1_14_c0 := cell_of_heap bA1_14 0
      have bA1_14_c1 := cell_of_heap bA1_14 1
      have bA1_14_c2 := cell_of_heap bA1_14 2
      have bX0_14_c0 := cell_of_heap bX0_14 0
      have bX0_14_c1 := cell_of_heap bX0_14 1
      have bX0_14_c2 := cell_of_heap bX0_14 2
      have bX1_14_c0 := cell_of_heap bX1_14 0
      have bX1_14_c1 := cell_of_heap bX1_14 1
      have bX1_14_c2 := cell_of_heap bX1_14 2
      go_wp2_with fail
      have hn15 : New w14 w14.drew := (Kp.refl _ _).drew
      have z15 : w14.heap.size ≤ w14.drew.heap.size := hn15.size
      have N15 : New w w14.drew := N14.trans hn15
      have bA0_15 := heap_new hn15 bA0_14
      have bA1_15 := heap_new hn15 bA1_14
      have bX0_15 := heap_new hn15 bX0_14
      have bX1_15 := heap_new hn15 bX1_14
      have oX0a_15 := oX0a_14.new (by omega) hn15
      have oX0b_15 := oX0b_14.new (by omega) hn15
      have oX0c_15 := oX0c_14.new (by omega) hn15
      have oX1a_15 := oX1a_14.new (by omega) hn15
      clear bA0_14_c0 bA0_14_c1 bA0_14_c2 bA1_14_c0 bA1_14_c1 bA1_14_c2 bX0_14_c0 bX0_14_c1 bX0_14_c2 bX1_14_c0 bX1_14_c1 bX1_14_c2
      clear bA0_14 bA1_14 bX0_14 bX1_14 oX0a_14 oX0b_14 oX0c_14 oX1a_14 hn15
      have bA0_15_c0 := cell_of_heap bA0_15 0
      have bA0_15_c1 := cell_of_heap bA0_15 1
      have bA0_15_c2 := cell_of_heap bA0_15 2
      have bA1_15_c0 := cell_of_heap bA1_15 0
      have bA1_15_c1 := cell_of_heap bA1_15 1
      have bA1_15_c2 := cell_of_heap bA1_15 2
      have bX0_15_c0 := cell_of_heap bX0_15 0
      have bX0_15_c1 := cell_of_heap bX0_15 1
      have bX0_15_c2 := cell_of_heap bX0_15 2
      have bX1_15_c0 := cell_of_heap bX1_15 0
      have bX1_15_c1 := cell_of_heap bX1_15 1
      have bX1_15_c2 := cell_of_heap bX1_15 2
      set_option maxRecDepth 100000 in
      go_region_held3 (fun w' => w'.cell? ⟨w.heap.size, 0, none⟩ = some (ta0) ∧ w'.cell? ⟨w.heap.size, 1, none⟩ = some (tb0) ∧ w'.cell? ⟨w.heap.size, 2, none⟩ = some (tc0) ∧ w'.cell? ⟨w.heap.size + 1, 0, none⟩ = some (.int .i64 k1) ∧ w'.cell? ⟨w.heap.size + 1, 1, none⟩ = some (.int .i64 u1) ∧ w'.cell? ⟨w.heap.size + 1, 2, none⟩ = some (t1) ∧ w'.cell? ⟨w7.heap.size, 0, none⟩ = some (.slice aX0a xa0.length cX0a) ∧ w'.cell? ⟨w7.heap.size, 1, none⟩ = some (.slice aX0b xb0.length cX0b) ∧ w'.cell? ⟨w7.heap.size, 2, none⟩ = some (.slice aX0c x0.length cX0c) ∧ w'.cell? ⟨w9.heap.size, 0, none⟩ = some (.int .i64 k1) ∧ w'.cell? ⟨w9.heap.size, 1, none⟩ = some (.int .i64 u1) ∧ w'.cell? ⟨w9.heap.size, 2, none⟩ = some (.slice aX1a x1.length cX1a)) (first | (refine ⟨?_, ?_, ?_, ?_, ?_, ?_, ?_, ?_, ?_, ?_, ?_, ?_⟩ <;> assumption) | go_keep)
        (first
          | (go_at_call 18; refine ((eqE1 oX1a_16 oC1a_16 (by omega) (by omega))).mono ?_; rintro e w17 ⟨rfl, hn17⟩; have z17 : w16.heap.size ≤ w17.heap.size := hn17.size; have N17 : New w w17 := N16.trans hn17; have bA0_17 := heap_new hn17 bA0_16; have bA1_17 := heap_new hn17 bA1_16; have bX0_17 := heap_new hn17 bX0_16; have bX1_17 := heap_new hn17 bX1_16; have oX0a_17 := oX0a_16.new (by omega) hn17; have oX0b_17 := oX0b_16.new (by omega) hn17; have oX0c_17 := oX0c_16.new (by omega) hn17; have oX1a_17 := oX1a_16.new (by omega) hn17; have oC1a_17 := oC1a_16.new (by omega) hn17; clear bA0_16_c0 bA0_16_c1 bA0_16_c2 bA1_16_c0 bA1_16_c1 bA1_16_c2 bX0_16_c0 bX0_16_c1 bX0_16_c2 bX1_16_c0 bX1_16_c1 bX1_16_c2; clear bA0_16 bA1_16 bX0_16 bX1_16 oX0a_16 oX0b_16 oX0c_16 oX1a_16 oC1a_16 hn17; have bA0_17_c0 := cell_of_heap bA0_17 0; have bA0_17_c1 := cell_of_heap bA0_17 1; have bA0_17_c2 := cell_of_heap bA0_17 2; have bA1_17_c0 := cell_of_heap bA1_17 0; have bA1_17_c1 := cell_of_heap bA1_17 1; have bA1_17_c2 := cell_of_heap bA1_17 2; have bX0_17_c0 := cell_of_heap bX0_17 0; have bX0_17_c1 := cell_of_heap bX0_17 1; have bX0_17_c2 := cell_of_heap bX0_17 2; have bX1_17_c0 := cell_of_heap bX1_17 0; have bX1_17_c1 := cell_of_heap bX1_17 1; have bX1_17_c2 := cell_of_heap bX1_17 2)
          | (go_at_call 15; refine (ToE.toExpr _ 0 w.heap.size _ _ _ _ (by omega) (s1.new (Nat.le_refl _) N15) (by omega)).mono ?_; rintro e w16 ⟨vC1a, rfl, hn16, oC1a⟩; have z16 : w14.drew.heap.size ≤ w16.heap.size := hn16.size; have N16 : New w w16 := N15.trans hn16; have bA0_16 := heap_new hn16 bA0_15; have bA1_16 := heap_new hn16 bA1_15; have bX0_16 := heap_new hn16 bX0_15; have bX1_16 := heap_new hn16 bX1_15; have oX0a_16 := oX0a_15.new (by omega) hn16; have oX0b_16 := oX0b_15.new (by omega) hn16; have oX0c_16 := oX0c_15.new (by omega) hn16; have oX1a_16 := oX1a_15.new (by omega) hn16; clear bA0_15_c0 bA0_15_c1 bA0_15_c2 bA1_15_c0 bA1_15_c1 bA1_15_c2 bX0_15_c0 bX0_15_c1 bX0_15_c2 bX1_15_c0 bX1_15_c1 bX1_15_c2; clear bA0_15 bA1_15 bX0_15 bX1_15 oX0a_15 oX0b_15 oX0c_15 oX1a_15 hn16; have oC1a_16 := oC1a; clear oC1a; have bA0_16_c0 := cell_of_heap bA0_16 0; have bA0_16_c1 := cell_of_heap bA0_16 1; have bA0_16_c2 := cell_of_heap bA0_16 2; have bA1_16_c0 := cell_of_heap bA1_16 0; have bA1_16_c1 := cell_of_heap bA1_16 1; have bA1_16_c2 := cell_of_heap bA1_16 2; have bX0_16_c0 := cell_of_heap bX0_16 0; have bX0_16_c1 := cell_of_heap bX0_16 1; have bX0_16_c2 := cell_of_heap bX0_16 2; have bX1_16_c0 := cell_of_heap bX1_16 0; have bX1_16_c1 := cell_of_heap bX1_16 1; have bX1_16_c2 := cell_of_heap bX1_16 2))
      clear oC1a_17
      go_wp2
      go_ret
      exact ⟨rfl, N17.toBelow⟩
    · go_enter Tryd.func4, Tryd.ntmps4
      go_wp2_with fail
      have N0 : New w ((w.alloc (.cells #[ta0, tb0, tc0] 32)).alloc (.cells #[.int .i64 k1, .int .i64 u1, t1] 35)) := (((Kp.refl _ _).alloc _).alloc _)
      have bA0_0 : ((w.alloc (.cells #[ta0, tb0, tc0] 32)).alloc (.cells #[.int .i64 k1, .int .i64 u1, t1] 35)).heap[w.heap.size]? = some (.cells #[ta0, tb0, tc0] 32) := heap_old (alloc_heap _ _)
      have bA1_0 : ((w.alloc (.cells #[ta0, tb0, tc0] 32)).alloc (.cells #[.int .i64 k1, .int .i64 u1, t1] 35)).heap[w.heap.size + 1]? = some (.cells #[.int .i64 k1, .int .i64 u1, t1] 35) := heap_at (by simp)
      have z0 : w.heap.size + 1 < ((w.alloc (.cells #[ta0, tb0, tc0] 32)).alloc (.cells #[.int .i64 k1, .int .i64 u1, t1] 35)).heap.size := by simp
      generalize ((w.alloc (.cells #[ta0, tb0, tc0] 32)).alloc (.cells #[.int .i64 k1, .int .i64 u1, t1] 35)) = w0 at *
      have bA0_0_c0 := cell_of_heap bA0_0 0
      have bA0_0_c1 := cell_of_heap bA0_0 1
      have bA0_0_c2 := cell_of_heap bA0_0 2
      have bA1_0_c0 := cell_of_heap bA1_0 0
      have bA1_0_c1 := cell_of_heap bA1_0 1
      have bA1_0_c2 := cell_of_heap bA1_0 2
      refine (PgmF.szProgram _ 0 w.heap.size _ _ _ _ _ _ (sa0.new (Nat.le_refl _) N0) (sb0.new (Nat.le_refl _) N0) (s0.new (Nat.le_refl _) N0) (1048576) (by omega) (by omega) (by omega)).mono ?_
      rintro e w1 ⟨rfl, hn1⟩
      have z1 : w0.heap.size ≤ w1.heap.size := hn1.size
      have N1 : New w w1 := N0.trans hn1
      have bA0_1 := heap_new hn1 bA0_0
      have bA1_1 := heap_new hn1 bA1_0
      clear bA0_0_c0 bA0_0_c1 bA0_0_c2 bA1_0_c0 bA1_0_c1 bA1_0_c2
      clear bA0_0 bA1_0 hn1
      rw [szOf_hi (by omega)]
      have bA0_1_c0 := cell_of_heap bA0_1 0
      have bA0_1_c1 := cell_of_heap bA0_1 1
      have bA0_1_c2 := cell_of_heap bA0_1 2
      have bA1_1_c0 := cell_of_heap bA1_1 0
      have bA1_1_c1 := cell_of_heap bA1_1 1
      have bA1_1_c2 := cell_of_heap bA1_1 2
      go_wp2_with fail
      refine (SzE.szExpr _ 0 w.heap.size _ _ _ _ (1048576 - ((xa0.length + (xb0.length + St.sizes x0)) : Nat)) (s1.new (Nat.le_refl _) N1) (by omega) (by omega) (by omega)).mono ?_
      rintro e w2 ⟨rfl, hn2⟩
      have z2 : w1.heap.size ≤ w2.heap.size := hn2.size
      have N2 : New w w2 := N1.trans hn2
      have bA0_2 := heap_new hn2 bA0_1
      have bA1_2 := heap_new hn2 bA1_1
      clear bA0_1_c0 bA0_1_c1 bA0_1_c2 bA1_1_c0 bA1_1_c1 bA1_1_c2
      clear bA0_1 bA1_1 hn2
      rw [szOf_lo (by omega)]
      have bA0_2_c0 := cell_of_heap bA0_2 0
      have bA0_2_c1 := cell_of_heap bA0_2 1
      have bA0_2_c2 := cell_of_heap bA0_2 2
      have bA1_2_c0 := cell_of_heap bA1_2 0
      have bA1_2_c1 := cell_of_heap bA1_2 1
      have bA1_2_c2 := cell_of_heap bA1_2 2
      go_wp2
      go_ret
      exact ⟨rfl, N2.toBelow⟩
  · go_enter Tryd.func4, Tryd.ntmps4
    go_wp2_with fail
    have N0 : New w ((w.alloc (.cells #[ta0, tb0, tc0] 32)).alloc (.cells #[.int .i64 k1, .int .i64 u1, t1] 35)) := (((Kp.refl _ _).alloc _).alloc _)
    have bA0_0 : ((w.alloc (.cells #[ta0, tb0, tc0] 32)).alloc (.cells #[.int .i64 k1, .int .i64 u1, t1] 35)).heap[w.heap.size]? = some (.cells #[ta0, tb0, tc0] 32) := heap_old (alloc_heap _ _)
    have bA1_0 : ((w.alloc (.cells #[ta0, tb0, tc0] 32)).alloc (.cells #[.int .i64 k1, .int .i64 u1, t1] 35)).heap[w.heap.size + 1]? = some (.cells #[.int .i64 k1, .int .i64 u1, t1] 35) := heap_at (by simp)
    have z0 : w.heap.size + 1 < ((w.alloc (.cells #[ta0, tb0, tc0] 32)).alloc (.cells #[.int .i64 k1, .int .i64 u1, t1] 35)).heap.size := by simp
    generalize ((w.alloc (.cells #[ta0, tb0, tc0] 32)).alloc (.cells #[.int .i64 k1, .int .i64 u1, t1] 35)) = w0 at *
    have bA0_0_c0 := cell_of_heap bA0_0 0
    have bA0_0_c1 := cell_of_heap bA0_0 1
    have bA0_0_c2 := cell_of_heap bA0_0 2
    have bA1_0_c0 := cell_of_heap bA1_0 0
    have bA1_0_c1 := cell_of_heap bA1_0 1
    have bA1_0_c2 := cell_of_heap bA1_0 2
    refine (PgmF.szProgram _ 0 w.heap.size _ _ _ _ _ _ (sa0.new (Nat.le_refl _) N0) (sb0.new (Nat.le_refl _) N0) (s0.new (Nat.le_refl _) N0) (1048576) (by omega) (by omega) (by omega)).mono ?_
    rintro e w1 ⟨rfl, hn1⟩
    have z1 : w0.heap.size ≤ w1.heap.size := hn1.size
    have N1 : New w w1 := N0.trans hn1
    have bA0_1 := heap_new hn1 bA0_0
    have bA1_1 := heap_new hn1 bA1_0
    clear bA0_0_c0 bA0_0_c1 bA0_0_c2 bA1_0_c0 bA1_0_c1 bA1_0_c2
    clear bA0_0 bA1_0 hn1
    rw [szOf_lo (by omega)]
    have bA0_1_c0 := cell_of_heap bA0_1 0
    have bA0_1_c1 := cell_of_heap bA0_1 1
    have bA0_1_c2 := cell_of_heap bA0_1 2
    have bA1_1_c0 := cell_of_heap bA1_1 0
    have bA1_1_c1 := cell_of_heap bA1_1 1
    have bA1_1_c2 := cell_of_heap bA1_1 2
    go_wp2
    go_ret
    exact ⟨rfl, N1.toBelow⟩
set_option maxRecDepth 100000 in
theorem lifted (os : Os) (started : os.Started) (H : Type) (enc : TypeId × Value → H) :
    ReturnsInHanded {} Tryd.checked os 4 .any (fun w args => (Rows.fnExactFormatExprSpec.pre enc Tryd.prog Tryd.f4 [] false w args ∧ laidMetH Tryd.prog Rows.fnExactFormatExprRow.laid w) ∧ sizedMet enc Tryd.prog Tryd.f4 (OpenSpec.ofChange Rows.fnExactFormatExprSpec) false w args)
      (Rows.fnExactFormatExprSpec.post enc Tryd.prog Tryd.f4 false true false false) := by
  refine returnsInHanded_of_change_and (C := Tryd.checked) (X := fun w _ => laidMetH Tryd.prog Rows.fnExactFormatExprRow.laid w) (fun _ _ _ hh h => h.of_heap hh) own started (by kernel_rfl) Tryd.func4
    (ChangeSpec.witness_shaped (enc := enc) (C := Tryd.checked) (os := os) (X := fun w _ => laidMetH Tryd.prog Rows.fnExactFormatExprRow.laid w) false (World.doorLaid Tryd.prog 24 os) #[.agg #[.slice none 0 0, .slice none 0 0, .slice none 0 0], .agg #[.int .i64 0, .int .i64 0, .slice none 0 0]] 8 rfl (World.shaped_of_RefB (by kernel_rfl) (by kernel_rfl)) (by kernel_rfl) (by kernel_rfl) (by kernel_rfl) (LaidD.door_met os _)) ?_
  intro W base args ds gs before hval0 hW _ _ hL _
  have hval : ∀ (j : Nat) t v, Tryd.f4.params[j]? = some t → args[j]? = some v → Value.okWide Tryd.prog W .any base t v := hval0
  have hW' := hW
  obtain ⟨p, q, hA0, hV, rfl, hfz, hnd⟩ := hW
  have hA : DataW.TrodAll enc Tryd.prog W 0 (fun _ => true) true Tryd.f4.params.toList args.toList ds p := hA0
  rw [Tryd.params4] at hA hval
  obtain ⟨v0, vs0, d0, ds0, p0, q0, hargs, rfl, rfl, h0, r0⟩ := trodAll_cons hA
  obtain ⟨v1, vs1, d1, ds1, p1, q1, rfl, rfl, rfl, h1, r1⟩ := trodAll_cons r0
  obtain ⟨rfl, rfl, rfl⟩ := trodAll_nil r1
  obtain rfl : args = #[v0, v1] := by cases args; simp_all
  obtain ⟨rfl, rfl⟩ := trodVars_none hV
  have ht := LaidD.tab_of_laid hL
  have kk0 := h0
  have lt0 : ∀ x ∈ p0, x.block < W.heap.size := by obtain ⟨m, hm⟩ := kk0; exact DataW.trod_lt m _ _ _ hm
  obtain ⟨ta0, tb0, tc0, xa0, xb0, x0, rfl, sa0, sb0, s0⟩ := Open.programL (hval 0 32 v0 rfl rfl) h0
  have kk1 := h1
  have lt1 : ∀ x ∈ p1, x.block < W.heap.size := by obtain ⟨m, hm⟩ := kk1; exact DataW.trod_lt m _ _ _ hm
  obtain ⟨k1, u1, t1, x1, rfl, s1⟩ := Open.exprL (hval 1 35 v1 rfl rfl) h1
  clear hA0 hval0
  refine (walk ta0 tb0 tc0 xa0 xb0 x0 k1 u1 t1 x1 W sa0 sb0 s0 s1 ht).mono fun e W' ⟨he, bel⟩ => ?_
  subst he
  exact ⟨_, rfl, _, _, _, [], _, [], hW', trodAll_mk1 (shut_bool Tryd.underlying4 _), (trodAll_cons_mk (Below.trod laidOut (by kernel_rfl) (of_decide_eq_true (by kernel_rfl)) kk0 bel lt0) (trodAll_cons_mk (Below.trod laidOut (by kernel_rfl) (of_decide_eq_true (by kernel_rfl)) kk1 bel lt1) trodAll_mk0)), rfl, bel.frame _, fun h => by cases h⟩
theorem over : Rows.fnExactFormatExprRow.holds Tryd.pinned (OpenSpec.ofChange Rows.fnExactFormatExprSpec) :=
  OpenClaim.holds_of_wide 4 Tryd.f4 rfl rfl rfl rfl rfl rfl rfl ⟨rfl, rfl, rfl, rfl, rfl⟩ rfl rfl rfl rfl rfl (by kernel_rfl) Tryd.func4 (by kernel_rfl)
    (of_decide_eq_true (by kernel_rfl)) (by unfold Func.isWrapper; first | (rw [if_pos (by decide +kernel)]; kernel_rfl) | (rw [if_neg (by decide +kernel)]; exact ⟨rfl, rfl⟩))
    (fun os started H enc _ => lifted os started H enc)
theorem proved : Rows.FnExactFormatExprCardSaid :=
  Claim7.holds_tied_plain_at .later [] [.data, .data, .data] true _ _ over (fun _ h => by cases h) (by kernel_rfl) (fun _ h => by cases h) fnExactFormatExpr_row_tie rfl ⟨rfl, rfl⟩ (by kernel_rfl) rfl
    (fun f fn hf hfn => by
      obtain rfl : f = 4 := (Option.some.inj ((show Tryd.prog.funcNamed "loop.example/constanttime/laws.FnExactFormatExpr" = some 4 by kernel_rfl).symm.trans hf)).symm
      obtain rfl : fn = Tryd.f4 := (Option.some.inj (Tryd.func4.symm.trans hfn)).symm
      have hall : (Tryd.f4.params.toList.all fun u => !Tryd.prog.wantsStandIn u) = true := by kernel_rfl
      exact ⟨by kernel_rfl, fun j t ht => by
        have := List.all_eq_true.1 hall t (Array.mem_toList_iff.2 (Array.mem_of_getElem? ht))
        exact (show Tryd.prog.wantsStandIn t = false by simpa using this)⟩)
    (by kernel_rfl)
#print axioms proved
end Go.Proofs.YtckikiaockkmbaaDoor.fnExactFormatExpr
