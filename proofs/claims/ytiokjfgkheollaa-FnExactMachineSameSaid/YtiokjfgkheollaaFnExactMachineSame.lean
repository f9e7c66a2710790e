/- FnExactMachineSame: for every input the law returns true, and the arguments read as they did. No conditions. -/
import Derived.Test.YtiokjfgkheollaaRows
import Derived.Test.YtiokjfgkheollaaMachF
import Derived.Test.YtiokjfgkheollaaSameS
import Derived.Test.YtiokjfgkheollaaOpenT
import Derived.Deep.RegionHeld3
import Derived.WalkKit
import Derived.ProofKit
import Derived.OpenShut
import Derived.ShutString
import Derived.ChangeOld
import Derived.Below
namespace Go.Proofs.Ytiokjfgkheollaa.fnExactMachineSame
open Go.ChangeShapes Go.WideShapes Go.ChangeAt Go.RowKit Kit
open Go.ChangeMaps (open_string shut_string)
set_option linter.unusedVariables false
theorem own : ownKnob Try.prog.godebug = none := by kernel_rfl
theorem laidOut : laidOutB Try.prog = true := by kernel_rfl
set_option maxHeartbeats 1000000 in
theorem walk (pc0 : Int) (mr0 : Value) (ma0 : Value) (mb0 : Value) (yr0 : List Int) (ya0 : List Int) (yb0 : List (List Int)) (pc1 : Int) (mr1 : Value) (ma1 : Value) (mb1 : Value) (yr1 : List Int) (ya1 : List Int) (yb1 : List (List Int)) (w : World) (rr0 : IntsR w 0 w.heap.size mr0 yr0) (ra0 : IntsR w 0 w.heap.size ma0 ya0) (rb0 : MatR w 0 w.heap.size mb0 yb0) (rr1 : IntsR w 0 w.heap.size mr1 yr1) (ra1 : IntsR w 0 w.heap.size ma1 ya1) (rb1 : MatR w 0 w.heap.size mb1 yb1) :
    Calls Try.prog 6 #[.agg #[.int .i64 pc0, mr0, ma0, mb0], .agg #[.int .i64 pc1, mr1, ma1, mb1]] w fun e w' => e = .returned (.bool true) ∧ Below w.heap.size w w' := by
  obtain ⟨bb, hbb⟩ : ∃ bb, (pc0 == pc1 && (decide (yr0 = yr1) && (decide (ya0 = ya1) && decide (yb0 = yb1)))) = bb := ⟨_, rfl⟩
  by_cases h0 : (yr0.length + (ya0.length + msz yb0)) ≤ 1048576
  · by_cases h1 : (yr0.length + (ya0.length + msz yb0)) + (yr1.length + (ya1.length + msz yb1)) ≤ 1048576
    · go_enter Try.func6, Try.ntmps6
      go_wp2_with fail
      have N0 : New w ((w.alloc (.cells #[.int .i64 pc0, mr0, ma0, mb0] 52)).alloc (.cells #[.int .i64 pc1, mr1, ma1, mb1] 52)) := ((Kp.refl _ _).alloc _).alloc _
      have bA : ((w.alloc (.cells #[.int .i64 pc0, mr0, ma0, mb0] 52)).alloc (.cells #[.int .i64 pc1, mr1, ma1, mb1] 52)).heap[w.heap.size]? = some (.cells #[.int .i64 pc0, mr0, ma0, mb0] 52) := heap_old (alloc_heap _ _)
      have bB : ((w.alloc (.cells #[.int .i64 pc0, mr0, ma0, mb0] 52)).alloc (.cells #[.int .i64 pc1, mr1, ma1, mb1] 52)).heap[w.heap.size + 1]? = some (.cells #[.int .i64 pc1, mr1, ma1, mb1] 52) := heap_at (by simp)
      have z0 : w.heap.size ≤ ((w.alloc (.cells #[.int .i64 pc0, mr0, ma0, mb0] 52)).alloc (.cells #[.int .i64 pc1, mr1, ma1, mb1] 52)).heap.size := N0.size
      generalize ((w.alloc (.cells #[.int .i64 pc0, mr0, ma0, mb0] 52)).alloc (.cells #[.int .i64 pc1, mr1, ma1, mb1] 52)) = w0 at *
      have bA_c0 := cell_of_heap bA 0
      have bA_c1 := cell_of_heap bA 1
      have bA_c2 := cell_of_heap bA 2
      have bA_c3 := cell_of_heap bA 3
      have bB_c0 := cell_of_heap bB 0
      have bB_c1 := cell_of_heap bB 1
      have bB_c2 := cell_of_heap bB 2
      have bB_c3 := cell_of_heap bB 3
      refine (MachF.szMachine _ 0 w.heap.size _ _ _ _ yr0 ya0 yb0 (rr0.new (Nat.le_refl _) N0) (ra0.new (Nat.le_refl _) N0) (rb0.new (Nat.le_refl _) N0) (1048576) (by omega) (by omega) (by omega)).mono ?_
      rintro e w1 ⟨rfl, hn1⟩
      have z1 : w0.heap.size ≤ w1.heap.size := hn1.size
      have N1 : New w w1 := N0.trans hn1
      have bA_1 := heap_new hn1 bA
      clear bA bA_c0 bA_c1 bA_c2 bA_c3
      have bA_1_c0 := cell_of_heap bA_1 0
      have bA_1_c1 := cell_of_heap bA_1 1
      have bA_1_c2 := cell_of_heap bA_1 2
      have bA_1_c3 := cell_of_heap bA_1 3
      have bB_1 := heap_new hn1 bB
      clear bB bB_c0 bB_c1 bB_c2 bB_c3
      have bB_1_c0 := cell_of_heap bB_1 0
      have bB_1_c1 := cell_of_heap bB_1 1
      have bB_1_c2 := cell_of_heap bB_1 2
      have bB_1_c3 := cell_of_heap bB_1 3
      clear hn1
      rw [szOf_hi (by omega)]
      go_wp2_with fail
      refine (MachF.szMachine _ 0 w.heap.size _ _ _ _ yr1 ya1 yb1 (rr1.new (Nat.le_refl _) N1) (ra1.new (Nat.le_refl _) N1) (rb1.new (Nat.le_refl _) N1) (1048576 - ((yr0.length + (ya0.length + msz yb0)) : Nat)) (by omega) (by omega) (by omega)).mono ?_
      rintro e w2 ⟨rfl, hn2⟩
      have z2 : w1.heap.size ≤ w2.heap.size := hn2.size
      have N2 : New w w2 := N1.trans hn2
      have bA_2 := heap_new hn2 bA_1
      clear bA_1 bA_1_c0 bA_1_c1 bA_1_c2 bA_1_c3
      have bA_2_c0 := cell_of_heap bA_2 0
      have bA_2_c1 := cell_of_heap bA_2 1
      have bA_2_c2 := cell_of_heap bA_2 2
      have bA_2_c3 := cell_of_heap bA_2 3
      have bB_2 := heap_new hn2 bB_1
      clear bB_1 bB_1_c0 bB_1_c1 bB_1_c2 bB_1_c3
      have bB_2_c0 := cell_of_heap bB_2 0
      have bB_2_c1 := cell_of_heap bB_2 1
      have bB_2_c2 := cell_of_heap bB_2 2
      have bB_2_c3 := cell_of_heap bB_2 3
      clear hn2
      rw [szOf_hi (by omega)]
      go_wp2_with fail
      have hn3 : New w2 w2.drew := (Kp.refl _ _).drew
      have z3 : w2.heap.size ≤ w2.drew.heap.size := hn3.size
      have N3 : New w w2.drew := N2.trans hn3
      have bA_3 := heap_new hn3 bA_2
      clear bA_2 bA_2_c0 bA_2_c1 bA_2_c2 bA_2_c3
      have bA_3_c0 := cell_of_heap bA_3 0
      have bA_3_c1 := cell_of_heap bA_3 1
      have bA_3_c2 := cell_of_heap bA_3 2
      have bA_3_c3 := cell_of_heap bA_3 3
      have bB_3 := heap_new hn3 bB_2
      clear bB_2 bB_2_c0 bB_2_c1 bB_2_c2 bB_2_c3
      have bB_3_c0 := cell_of_heap bB_3 0
      have bB_3_c1 := cell_of_heap bB_3 1
      have bB_3_c2 := cell_of_heap bB_3 2
      have bB_3_c3 := cell_of_heap bB_3 3
      clear hn3
      set_option maxRecDepth 100000 in
      go_region_held3 (fun w' => w'.cell? ⟨w.heap.size, 0, none⟩ = some (.int .i64 pc0) ∧ w'.cell? ⟨w.heap.size, 1, none⟩ = some (mr0) ∧ w'.cell? ⟨w.heap.size, 2, none⟩ = some (ma0) ∧ w'.cell? ⟨w.heap.size, 3, none⟩ = some (mb0) ∧ w'.cell? ⟨w.heap.size + 1, 0, none⟩ = some (.int .i64 pc1) ∧ w'.cell? ⟨w.heap.size + 1, 1, none⟩ = some (mr1) ∧ w'.cell? ⟨w.heap.size + 1, 2, none⟩ = some (ma1) ∧ w'.cell? ⟨w.heap.size + 1, 3, none⟩ = some (mb1)) (first | (refine ⟨?_, ?_, ?_, ?_, ?_, ?_, ?_, ?_⟩ <;> assumption) | go_keep)
        (first
          | (go_at_call 31; refine (SameS.specSame _ _ _ _ _ _ _ _ _ _ _ _ _ _ _ _ _ _ _ Aa_5 Ab_5 Ac_5 oBa oBb oBc (by omega) (by omega)).mono ?_; rintro e w6 ⟨rfl, hn6⟩; have z6 : w5.heap.size ≤ w6.heap.size := hn6.size; have N6 : New w w6 := N5.trans hn6; have bA_6 := heap_new hn6 bA_5; clear bA_5 bA_5_c0 bA_5_c1 bA_5_c2 bA_5_c3; have bA_6_c0 := cell_of_heap bA_6 0; have bA_6_c1 := cell_of_heap bA_6 1; have bA_6_c2 := cell_of_heap bA_6 2; have bA_6_c3 := cell_of_heap bA_6 3; have bB_6 := heap_new hn6 bB_5; clear bB_5 bB_5_c0 bB_5_c1 bB_5_c2 bB_5_c3; have bB_6_c0 := cell_of_heap bB_6 0; have bB_6_c1 := cell_of_heap bB_6 1; have bB_6_c2 := cell_of_heap bB_6 2; have bB_6_c3 := cell_of_heap bB_6 3; have Aa_6 := Aa_5.new (by omega) hn6; clear Aa_5; have Ab_6 := Ab_5.new (by omega) hn6; clear Ab_5; have Ac_6 := Ac_5.new (by omega) hn6; clear Ac_5; have Ba_6 := oBa.new (by omega) hn6; clear oBa; have Bb_6 := oBb.new (by omega) hn6; clear oBb; have Bc_6 := oBc.new (by omega) hn6; clear oBc; clear hn6; rw [hbb])
          | (go_at_call 32; refine (MachF.toMachine _ 0 w.heap.size _ _ _ _ yr1 ya1 yb1 (rr1.new (Nat.le_refl _) N4) (ra1.new (Nat.le_refl _) N4) (rb1.new (Nat.le_refl _) N4) (by omega) (by omega) (by omega) (by omega)).mono ?_; rintro e w5 ⟨vBa, vBb, vBc, rfl, hn5, oBa, oBb, oBc⟩; have z5 : w4.heap.size ≤ w5.heap.size := hn5.size; have N5 : New w w5 := N4.trans hn5; have bA_5 := heap_new hn5 bA_4; clear bA_4 bA_4_c0 bA_4_c1 bA_4_c2 bA_4_c3; have bA_5_c0 := cell_of_heap bA_5 0; have bA_5_c1 := cell_of_heap bA_5 1; have bA_5_c2 := cell_of_heap bA_5 2; have bA_5_c3 := cell_of_heap bA_5 3; have bB_5 := heap_new hn5 bB_4; clear bB_4 bB_4_c0 bB_4_c1 bB_4_c2 bB_4_c3; have bB_5_c0 := cell_of_heap bB_5 0; have bB_5_c1 := cell_of_heap bB_5 1; have bB_5_c2 := cell_of_heap bB_5 2; have bB_5_c3 := cell_of_heap bB_5 3; have Aa_5 := oAa.new (by omega) hn5; clear oAa; have Ab_5 := oAb.new (by omega) hn5; clear oAb; have Ac_5 := oAc.new (by omega) hn5; clear oAc; clear hn5)
          | (go_at_call 32; refine (MachF.toMachine _ 0 w.heap.size _ _ _ _ yr0 ya0 yb0 (rr0.new (Nat.le_refl _) N3) (ra0.new (Nat.le_refl _) N3) (rb0.new (Nat.le_refl _) N3) (by omega) (by omega) (by omega) (by omega)).mono ?_; rintro e w4 ⟨vAa, vAb, vAc, rfl, hn4, oAa, oAb, oAc⟩; have z4 : w2.drew.heap.size ≤ w4.heap.size := hn4.size; have N4 : New w w4 := N3.trans hn4; have bA_4 := heap_new hn4 bA_3; clear bA_3 bA_3_c0 bA_3_c1 bA_3_c2 bA_3_c3; have bA_4_c0 := cell_of_heap bA_4 0; have bA_4_c1 := cell_of_heap bA_4 1; have bA_4_c2 := cell_of_heap bA_4 2; have bA_4_c3 := cell_of_heap bA_4 3; have bB_4 := heap_new hn4 bB_3; clear bB_3 bB_3_c0 bB_3_c1 bB_3_c2 bB_3_c3; have bB_4_c0 := cell_of_heap bB_4 0; have bB_4_c1 := cell_of_heap bB_4 1; have bB_4_c2 := cell_of_heap bB_4 2; have bB_4_c3 := cell_of_heap bB_4 3; clear hn4))
      clear Aa_6
      clear Ab_6
      clear Ac_6
      clear Ba_6
      clear Bb_6
      clear Bc_6
      go_wp2_with fail
      refine (MachF.toMachine _ 0 w.heap.size _ _ _ _ yr0 ya0 yb0 (rr0.new (Nat.le_refl _) N6) (ra0.new (Nat.le_refl _) N6) (rb0.new (Nat.le_refl _) N6) (by omega) (by omega) (by omega) (by omega)).mono ?_
      rintro e w7 ⟨vXa, vXb, vXc, rfl, hn7, oXa, oXb, oXc⟩
      have z7 : w6.heap.size ≤ w7.heap.size := hn7.size
      have N7 : New w w7 := N6.trans hn7
      have bA_7 := heap_new hn7 bA_6
      clear bA_6 bA_6_c0 bA_6_c1 bA_6_c2 bA_6_c3
      have bA_7_c0 := cell_of_heap bA_7 0
      have bA_7_c1 := cell_of_heap bA_7 1
      have bA_7_c2 := cell_of_heap bA_7 2
      have bA_7_c3 := cell_of_heap bA_7 3
      have bB_7 := heap_new hn7 bB_6
      clear bB_6 bB_6_c0 bB_6_c1 bB_6_c2 bB_6_c3
      have bB_7_c0 := cell_of_heap bB_7 0
      have bB_7_c1 := cell_of_heap bB_7 1
      have bB_7_c2 := cell_of_heap bB_7 2
      have bB_7_c3 := cell_of_heap bB_7 3
      clear hn7
      obtain ⟨aXa, cXa, rfl, _⟩ := oXa.len
      obtain ⟨aXb, cXb, rfl, _⟩ := oXb.len
      obtain ⟨aXc, cXc, rfl, _⟩ := oXc.len
      have hn8 : New w7 (w7.alloc (.cells #[.int .i64 pc0, .slice aXa yr0.length cXa, .slice aXb ya0.length cXb, .slice aXc yb0.length cXc] 56)) := (Kp.refl _ _).alloc _
      have bX : (w7.alloc (.cells #[.int .i64 pc0, .slice aXa yr0.length cXa, .slice aXb ya0.length cXb, .slice aXc yb0.length cXc] 56)).heap[w7.heap.size]? = some (.cells #[.int .i64 pc0, .slice aXa yr0.length cXa, .slice aXb ya0.length cXb, .slice aXc yb0.length cXc] 56) := alloc_heap _ _
      have z8 : w7.heap.size ≤ (w7.alloc (.cells #[.int .i64 pc0, .slice aXa yr0.length cXa, .slice aXb ya0.length cXb, .slice aXc yb0.length cXc] 56)).heap.size := hn8.size
      have N8 : New w (w7.alloc (.cells #[.int .i64 pc0, .slice aXa yr0.length cXa, .slice aXb ya0.length cXb, .slice aXc yb0.length cXc] 56)) := N7.trans hn8
      have bA_8 := heap_new hn8 bA_7
      clear bA_7 bA_7_c0 bA_7_c1 bA_7_c2 bA_7_c3
      have bA_8_c0 := cell_of_heap bA_8 0
      have bA_8_c1 := cell_of_heap bA_8 1
      have bA_8_c2 := cell_of_heap bA_8 2
      have bA_8_c3 := cell_of_heap bA_8 3
      have bB_8 := heap_new hn8 bB_7
      clear bB_7 bB_7_c0 bB_7_c1 bB_7_c2 bB_7_c3
      have bB_8_c0 := cell_of_heap bB_8 0
      have bB_8_c1 := cell_of_heap bB_8 1
      have bB_8_c2 := cell_of_heap bB_8 2
      have bB_8_c3 := cell_of_heap bB_8 3
      have Xa_8 := oXa.new (by omega) hn8
      clear oXa
      have Xb_8 := oXb.new (by omega) hn8
      clear oXb
      have Xc_8 := oXc.new (by omega) hn8
      clear oXc
      clear hn8
      have bX_c0 := cell_of_heap bX 0
      have bX_c1 := cell_of_heap bX 1
      have bX_c2 := cell_of_heap bX 2
      have bX_c3 := cell_of_heap bX 3
      go_wp2_with fail
      generalize (w7.alloc (.cells #[.int .i64 pc0, .slice aXa yr0.length cXa, .slice aXb ya0.length cXb, .slice aXc yb0.length cXc] 56)) = w8 at *
      refine (MachF.toMachine _ 0 w.heap.size _ _ _ _ yr1 ya1 yb1 (rr1.new (Nat.le_refl _) N8) (ra1.new (Nat.le_refl _) N8) (rb1.new (Nat.le_refl _) N8) (by omega) (by omega) (by omega) (by omega)).mono ?_
      rintro e w9 ⟨vYa, vYb, vYc, rfl, hn9, oYa, oYb, oYc⟩
      have z9 : w8.heap.size ≤ w9.heap.size := hn9.size
      have N9 : New w w9 := N8.trans hn9
      have bA_9 := heap_new hn9 bA_8
      clear bA_8 bA_8_c0 bA_8_c1 bA_8_c2 bA_8_c3
      have bA_9_c0 := cell_of_heap bA_9 0
      have bA_9_c1 := cell_of_heap bA_9 1
      have bA_9_c2 := cell_of_heap bA_9 2
      have bA_9_c3 := cell_of_heap bA_9 3
      have bB_9 := heap_new hn9 bB_8
      clear bB_8 bB_8_c0 bB_8_c1 bB_8_c2 bB_8_c3
      have bB_9_c0 := cell_of_heap bB_9 0
      have bB_9_c1 := cell_of_heap bB_9 1
      have bB_9_c2 := cell_of_heap bB_9 2
      have bB_9_c3 := cell_of_heap bB_9 3
      have Xa_9 := Xa_8.new (by omega) hn9
      clear Xa_8
      have Xb_9 := Xb_8.new (by omega) hn9
      clear Xb_8
      have Xc_9 := Xc_8.new (by omega) hn9
      clear Xc_8
      have bX_9 := heap_new hn9 bX
      clear bX bX_c0 bX_c1 bX_c2 bX_c3
      have bX_9_c0 := cell_of_heap bX_9 0
      have bX_9_c1 := cell_of_heap bX_9 1
      have bX_9_c2 := cell_of_heap bX_9 2
      have bX_9_c3 := cell_of_heap bX_9 3
      clear hn9
      obtain ⟨aYa, cYa, rfl, _⟩ := oYa.len
      obtain ⟨aYb, cYb, rfl, _⟩ := oYb.len
      obtain ⟨aYc, cYc, rfl, _⟩ := oYc.len
      have hn10 : New w9 (w9.alloc (.cells #[.int .i64 pc1, .slice aYa yr1.length cYa, .slice aYb ya1.length cYb, .slice aYc yb1.length cYc] 56)) := (Kp.refl _ _).alloc _
      have bY : (w9.alloc (.cells #[.int .i64 pc1, .slice aYa yr1.length cYa, .slice aYb ya1.length cYb, .slice aYc yb1.length cYc] 56)).heap[w9.heap.size]? = some (.cells #[.int .i64 pc1, .slice aYa yr1.length cYa, .slice aYb ya1.length cYb, .slice aYc yb1.length cYc] 56) := alloc_heap _ _
      have z10 : w9.heap.size ≤ (w9.alloc (.cells #[.int .i64 pc1, .slice aYa yr1.length cYa, .slice aYb ya1.length cYb, .slice aYc yb1.length cYc] 56)).heap.size := hn10.size
      have N10 : New w (w9.alloc (.cells #[.int .i64 pc1, .slice aYa yr1.length cYa, .slice aYb ya1.length cYb, .slice aYc yb1.length cYc] 56)) := N9.trans hn10
      have bA_10 := heap_new hn10 bA_9
      clear bA_9 bA_9_c0 bA_9_c1 bA_9_c2 bA_9_c3
      have bA_10_c0 := cell_of_heap bA_10 0
      have bA_10_c1 := cell_of_heap bA_10 1
      have bA_10_c2 := cell_of_heap bA_10 2
      have bA_10_c3 := cell_of_heap bA_10 3
      have bB_10 := heap_new hn10 bB_9
      clear bB_9 bB_9_c0 bB_9_c1 bB_9_c2 bB_9_c3
      have bB_10_c0 := cell_of_heap bB_10 0
      have bB_10_c1 := cell_of_heap bB_10 1
      have bB_10_c2 := cell_of_heap bB_10 2
      have bB_10_c3 := cell_of_heap bB_10 3
      have Xa_10 := Xa_9.new (by omega) hn10
      clear Xa_9
      have Xb_10 := Xb_9.new (by omega) hn10
      clear Xb_9
      have Xc_10 := Xc_9.new (by omega) hn10
      clear Xc_9
      have bX_10 := heap_new hn10 bX_9
      clear bX_9 bX_9_c0 bX_9_c1 bX_9_c2 bX_9_c3
      have bX_10_c0 := cell_of_heap bX_10 0
      have bX_10_c1 := cell_of_heap bX_10 1
      have bX_10_c2 := cell_of_heap bX_10 2
      have bX_10_c3 := cell_of_heap bX_10 3
      have Ya_10 := oYa.new (by omega) hn10
      clear oYa
      have Yb_10 := oYb.new (by omega) hn10
      clear oYb
      have Yc_10 := oYc.new (by omega) hn10
      clear oYc
      clear hn10
      have bY_c0 := cell_of_heap bY 0
      have bY_c1 := cell_of_heap bY 1
      have bY_c2 := cell_of_heap bY 2
      have bY_c3 := cell_of_heap bY 3
      go_wp2_with fail
      generalize (w9.alloc (.cells #[.int .i64 pc1, .slice aYa yr1.length cYa, .slice aYb ya1.length cYb, .slice aYc yb1.length cYc] 56)) = w10 at *
      refine (SameS.implSame _ _ _ _ _ _ _ _ _ _ _ _ _ _ _ _ _ _ _ Xa_10 Xb_10 Xc_10 Ya_10 Yb_10 Yc_10 (by omega) (by omega)).mono ?_
      rintro e w11 ⟨rfl, hn11⟩
      have z11 : w10.heap.size ≤ w11.heap.size := hn11.size
      have N11 : New w w11 := N10.trans hn11
      have bA_11 := heap_new hn11 bA_10
      clear bA_10 bA_10_c0 bA_10_c1 bA_10_c2 bA_10_c3
      have bA_11_c0 := cell_of_heap bA_11 0
      have bA_11_c1 := cell_of_heap bA_11 1
      have bA_11_c2 := cell_of_heap bA_11 2
      have bA_11_c3 := cell_of_heap bA_11 3
      have bB_11 := heap_new hn11 bB_10
      clear bB_10 bB_10_c0 bB_10_c1 bB_10_c2 bB_10_c3
      have bB_11_c0 := cell_of_heap bB_11 0
      have bB_11_c1 := cell_of_heap bB_11 1
      have bB_11_c2 := cell_of_heap bB_11 2
      have bB_11_c3 := cell_of_heap bB_11 3
      have Xa_11 := Xa_10.new (by omega) hn11
      clear Xa_10
      have Xb_11 := Xb_10.new (by omega) hn11
      clear Xb_10
      have Xc_11 := Xc_10.new (by omega) hn11
      clear Xc_10
      have bX_11 := heap_new hn11 bX_10
      clear bX_10 bX_10_c0 bX_10_c1 bX_10_c2 bX_10_c3
      have bX_11_c0 := cell_of_heap bX_11 0
      have bX_11_c1 := cell_of_heap bX_11 1
      have bX_11_c2 := cell_of_heap bX_11 2
      have bX_11_c3 := cell_of_heap bX_11 3
      have Ya_11 := Ya_10.new (by omega) hn11
      clear Ya_10
      have Yb_11 := Yb_10.new (by omega) hn11
      clear Yb_10
      have Yc_11 := Yc_10.new (by omega) hn11
      clear Yc_10
      have bY_11 := heap_new hn11 bY
      clear bY bY_c0 bY_c1 bY_c2 bY_c3
      have bY_11_c0 := cell_of_heap bY_11 0
      have bY_11_c1 := cell_of_heap bY_11 1
      have bY_11_c2 := cell_of_heap bY_11 2
      have bY_11_c3 := cell_of_heap bY_11 3
      clear hn11
      rw [hbb]
      clear hbb
      cases bb
      all_goals
        go_wp2_with fail
        have hn12 : New w11 w11.drew := (Kp.refl _ _).drew
        have z12 : w11.heap.size ≤ w11.drew.heap.size := hn12.size
        have N12 : New w w11.drew := N11.trans hn12
        have bA_12 := heap_new hn12 bA_11
        clear bA_11 bA_11_c0 bA_11_c1 bA_11_c2 bA_11_c3
        have bA_12_c0 := cell_of_heap bA_12 0
        have bA_12_c1 := cell_of_heap bA_12 1
        have bA_12_c2 := cell_of_heap bA_12 2
        have bA_12_c3 := cell_of_heap bA_12 3
        have bB_12 := heap_new hn12 bB_11
        clear bB_11 bB_11_c0 bB_11_c1 bB_11_c2 bB_11_c3
        have bB_12_c0 := cell_of_heap bB_12 0
        have bB_12_c1 := cell_of_heap bB_12 1
        have bB_12_c2 := cell_of_heap bB_12 2
        have bB_12_c3 := cell_of_heap bB_12 3
        have Xa_12 := Xa_11.new (by omega) hn12
        clear Xa_11
        have Xb_12 := Xb_11.new (by omega) hn12
        clear Xb_11
        have Xc_12 := Xc_11.new (by omega) hn12
        clear Xc_11
        have bX_12 := heap_new hn12 bX_11
        clear bX_11 bX_11_c0 bX_11_c1 bX_11_c2 bX_11_c3
        have bX_12_c0 := cell_of_heap bX_12 0
        have bX_12_c1 := cell_of_heap bX_12 1
        have bX_12_c2 := cell_of_heap bX_12 2
        have bX_12_c3 := cell_of_heap bX_12 3
        have Ya_12 := Ya_11.new (by omega) hn12
        clear Ya_11
        have Yb_12 := Yb_11.new (by omega) hn12
        clear Yb_11
        have Yc_12 := Yc_11.new (by omega) hn12
        clear Yc_11
        have bY_12 := heap_new hn12 bY_11
        clear bY_11 bY_11_c0 bY_11_c1 bY_11_c2 bY_11_c3
        have bY_12_c0 := cell_of_heap bY_12 0
        have bY_12_c1 := cell_of_heap bY_12 1
        have bY_12_c2 := cell_of_heap bY_12 2
        have bY_12_c3 := cell_of_heap bY_12 3
        clear hn12
        set_option maxRecDepth 100000 in
        go_region_held3 (fun w' => w'.cell? ⟨w.heap.size, 0, none⟩ = some (.int .i64 pc0) ∧ w'.cell? ⟨w.heap.size, 1, none⟩ = some (mr0) ∧ w'.cell? ⟨w.heap.size, 2, none⟩ = some (ma0) ∧ w'.cell? ⟨w.heap.size, 3, none⟩ = some (mb0) ∧ w'.cell? ⟨w.heap.size + 1, 0, none⟩ = some (.int .i64 pc1) ∧ w'.cell? ⟨w.heap.size + 1, 1, none⟩ = some (mr1) ∧ w'.cell? ⟨w.heap.size + 1, 2, none⟩ = some (ma1) ∧ w'.cell? ⟨w.heap.size + 1, 3, none⟩ = some (mb1) ∧ w'.cell? ⟨w7.heap.size, 0, none⟩ = some (.int .i64 pc0) ∧ w'.cell? ⟨w7.heap.size, 1, none⟩ = some (.slice aXa yr0.length cXa) ∧ w'.cell? ⟨w7.heap.size, 2, none⟩ = some (.slice aXb ya0.length cXb) ∧ w'.cell? ⟨w7.heap.size, 3, none⟩ = some (.slice aXc yb0.length cXc) ∧ w'.cell? ⟨w9.heap.size, 0, none⟩ = some (.int .i64 pc1) ∧ w'.cell? ⟨w9.heap.size, 1, none⟩ = some (.slice aYa yr1.length cYa) ∧ w'.cell? ⟨w9.heap.size, 2, none⟩ = some (.slice aYb ya1.length cYb) ∧ w'.cell? ⟨w9.heap.size, 3, none⟩ = some (.slice aYc yb1.length cYc)) (first | (refine ⟨?_, ?_, ?_, ?_, ?_, ?_, ?_, ?_, ?_, ?_, ?_, ?_, ?_, ?_, ?_, ?_⟩ <;> assumption) | go_keep)
          (first
            | (go_at_call 34; refine (MachF.eqMachine1 _ _ _ _ _ _ _ _ _ _ _ _ _ _ _ Xa_13 Xb_13 Xc_13 oCa oCb oCc (by omega) (by omega)).mono ?_; rintro e w14 ⟨rfl, hn14⟩; have z14 : w13.heap.size ≤ w14.heap.size := hn14.size; have N14 : New w w14 := N13.trans hn14; have bA_14 := heap_new hn14 bA_13; clear bA_13 bA_13_c0 bA_13_c1 bA_13_c2 bA_13_c3; have bA_14_c0 := cell_of_heap bA_14 0; have bA_14_c1 := cell_of_heap bA_14 1; have bA_14_c2 := cell_of_heap bA_14 2; have bA_14_c3 := cell_of_heap bA_14 3; have bB_14 := heap_new hn14 bB_13; clear bB_13 bB_13_c0 bB_13_c1 bB_13_c2 bB_13_c3; have bB_14_c0 := cell_of_heap bB_14 0; have bB_14_c1 := cell_of_heap bB_14 1; have bB_14_c2 := cell_of_heap bB_14 2; have bB_14_c3 := cell_of_heap bB_14 3; have Xa_14 := Xa_13.new (by omega) hn14; clear Xa_13; have Xb_14 := Xb_13.new (by omega) hn14; clear Xb_13; have Xc_14 := Xc_13.new (by omega) hn14; clear Xc_13; have bX_14 := heap_new hn14 bX_13; clear bX_13 bX_13_c0 bX_13_c1 bX_13_c2 bX_13_c3; have bX_14_c0 := cell_of_heap bX_14 0; have bX_14_c1 := cell_of_heap bX_14 1; have bX_14_c2 := cell_of_heap bX_14 2; have bX_14_c3 := cell_of_heap bX_14 3; have Ya_14 := Ya_13.new (by omega) hn14; clear Ya_13; have Yb_14 := Yb_13.new (by omega) hn14; clear Yb_13; have Yc_14 := Yc_13.new (by omega) hn14; clear Yc_13; have bY_14 := heap_new hn14 bY_13; clear bY_13 bY_13_c0 bY_13_c1 bY_13_c2 bY_13_c3; have bY_14_c0 := cell_of_heap bY_14 0; have bY_14_c1 := cell_of_heap bY_14 1; have bY_14_c2 := cell_of_heap bY_14 2; have bY_14_c3 := cell_of_heap bY_14 3; have Ca_14 := oCa.new (by omega) hn14; clear oCa; have Cb_14 := oCb.new (by omega) hn14; clear oCb; have Cc_14 := oCc.new (by omega) hn14; clear oCc; clear hn14)
            | (go_at_call 32; refine (MachF.toMachine _ 0 w.heap.size _ _ _ _ yr0 ya0 yb0 (rr0.new (Nat.le_refl _) N12) (ra0.new (Nat.le_refl _) N12) (rb0.new (Nat.le_refl _) N12) (by omega) (by omega) (by omega) (by omega)).mono ?_; rintro e w13 ⟨vCa, vCb, vCc, rfl, hn13, oCa, oCb, oCc⟩; have z13 : w11.drew.heap.size ≤ w13.heap.size := hn13.size; have N13 : New w w13 := N12.trans hn13; have bA_13 := heap_new hn13 bA_12; clear bA_12 bA_12_c0 bA_12_c1 bA_12_c2 bA_12_c3; have bA_13_c0 := cell_of_heap bA_13 0; have bA_13_c1 := cell_of_heap bA_13 1; have bA_13_c2 := cell_of_heap bA_13 2; have bA_13_c3 := cell_of_heap bA_13 3; have bB_13 := heap_new hn13 bB_12; clear bB_12 bB_12_c0 bB_12_c1 bB_12_c2 bB_12_c3; have bB_13_c0 := cell_of_heap bB_13 0; have bB_13_c1 := cell_of_heap bB_13 1; have bB_13_c2 := cell_of_heap bB_13 2; have bB_13_c3 := cell_of_heap bB_13 3; have Xa_13 := Xa_12.new (by omega) hn13; clear Xa_12; have Xb_13 := Xb_12.new (by omega) hn13; clear Xb_12; have Xc_13 := Xc_12.new (by omega) hn13; clear Xc_12; have bX_13 := heap_new hn13 bX_12; clear bX_12 bX_12_c0 bX_12_c1 bX_12_c2 bX_12_c3; have bX_13_c0 := cell_of_heap bX_13 0; have bX_13_c1 := cell_of_heap bX_13 1; have bX_13_c2 := cell_of_heap bX_13 2; have bX_13_c3 := cell_of_heap bX_13 3; have Ya_13 := Ya_12.new (by omega) hn13; clear Ya_12; have Yb_13 := Yb_12.new (by omega) hn13; clear Yb_12; have Yc_13 := Yc_12.new (by omega) hn13; clear Yc_12; have bY_13 := heap_new hn13 bY_12; clear bY_12 bY_12_c0 bY_12_c1 bY_12_c2 bY_12_c3; have bY_13_c0 := cell_of_heap bY_13 0; have bY_13_c1 := cell_of_heap bY_13 1; have bY_13_c2 := cell_of_heap bY_13 2; have bY_13_c3 := cell_of_heap bY_13 3; clear hn13))
        clear Ca_14
        clear Cb_14
        clear Cc_14
        go_wp2_with fail
        have hn15 : New w14 w14.drew := (Kp.refl _ _).drew
        have z15 : w14.heap.size ≤ w14.drew.heap.size := hn15.size
        have N15 : New w w14.drew := N14.trans hn15
        have bA_15 := heap_new hn15 bA_14
        clear bA_14 bA_14_c0 bA_14_c1 bA_14_c2 bA_14_c3
        have bA_15_c0 := cell_of_heap bA_15 0
        have bA_15_c1 := cell_of_heap bA_15 1
        have bA_15_c2 := cell_of_heap bA_15 2
        have bA_15_c3 := cell_of_heap bA_15 3
        have bB_15 := heap_new hn15 bB_14
        clear bB_14 bB_14_c0 bB_14_c1 bB_14_c2 bB_14_c3
        have bB_15_c0 := cell_of_heap bB_15 0
        have bB_15_c1 := cell_of_heap bB_15 1
        have bB_15_c2 := cell_of_heap bB_15 2
        have bB_15_c3 := cell_of_heap bB_15 3
        have Xa_15 := Xa_14.new (by omega) hn15
        clear Xa_14
        have Xb_15 := Xb_14.new (by omega) hn15
        clear Xb_14
        have Xc_15 := Xc_14.new (by omega) hn15
        clear Xc_14
        have bX_15 := heap_new hn15 bX_14
        clear bX_14 bX_14_c0 bX_14_c1 bX_14_c2 bX_14_c3
        have bX_15_c0 := cell_of_heap bX_15 0
        have bX_15_c1 := cell_of_heap bX_15 1
        have bX_15_c2 := cell_of_heap bX_15 2
        have bX_15_c3 := cell_of_heap bX_15 3
        have Ya_15 := Ya_14.new (by omega) hn15
        clear Ya_14
        have Yb_15 := Yb_14.new (by omega) hn15
        clear Yb_14
        have Yc_15 := Yc_14.new (by omega) hn15
        clear Yc_14
        have bY_15 := heap_new hn15 bY_14
        clear bY_14 bY_14_c0 bY_14_c1 bY_14_c2 bY_14_c3
        have bY_15_c0 := cell_of_heap bY_15 0
        have bY_15_c1 := cell_of_heap bY_15 1
        have bY_15_c2 := cell_of_heap bY_15 2
        have bY_15_c3 := cell_of_heap bY_15 3
        clear hn15
        set_option maxRecDepth 100000 in
        go_region_held3 (fun w' => w'.cell? ⟨w.heap.size, 0, none⟩ = some (.int .i64 pc0) ∧ w'.cell? ⟨w.heap.size, 1, none⟩ = some (mr0) ∧ w'.cell? ⟨w.heap.size, 2, none⟩ = some (ma0) ∧ w'.cell? ⟨w.heap.size, 3, none⟩ = some (mb0) ∧ w'.cell? ⟨w.heap.size + 1, 0, none⟩ = some (.int .i64 pc1) ∧ w'.cell? ⟨w.heap.size + 1, 1, none⟩ = some (mr1) ∧ w'.cell? ⟨w.heap.size + 1, 2, none⟩ = some (ma1) ∧ w'.cell? ⟨w.heap.size + 1, 3, none⟩ = some (mb1) ∧ w'.cell? ⟨w7.heap.size, 0, none⟩ = some (.int .i64 pc0) ∧ w'.cell? ⟨w7.heap.size, 1, none⟩ = some (.slice aXa yr0.length cXa) ∧ w'.cell? ⟨w7.heap.size, 2, none⟩ = some (.slice aXb ya0.length cXb) ∧ w'.cell? ⟨w7.heap.size, 3, none⟩ = some (.slice aXc yb0.length cXc) ∧ w'.cell? ⟨w9.heap.size, 0, none⟩ = some (.int .i64 pc1) ∧ w'.cell? ⟨w9.heap.size, 1, none⟩ = some (.slice aYa yr1.length cYa) ∧ w'.cell? ⟨w9.heap.size, 2, none⟩ = some (.slice aYb ya1.length cYb) ∧ w'.cell? ⟨w9.heap.size, 3, none⟩ = some (.slice aYc yb1.length cYc)) (first | (refine ⟨?_, ?_, ?_, ?_, ?_, ?_, ?_, ?_, ?_, ?_, ?_, ?_, ?_, ?_, ?_, ?_⟩ <;> assumption) | go_keep)
          (first
            | (go_at_call 34; refine (MachF.eqMachine1 _ _ _ _ _ _ _ _ _ _ _ _ _ _ _ Ya_16 Yb_16 Yc_16 oDa oDb oDc (by omega) (by omega)).mono ?_; rintro e w17 ⟨rfl, hn17⟩; have z17 : w16.heap.size ≤ w17.heap.size := hn17.size; have N17 : New w w17 := N16.trans hn17; have bA_17 := heap_new hn17 bA_16; clear bA_16 bA_16_c0 bA_16_c1 bA_16_c2 bA_16_c3; have bA_17_c0 := cell_of_heap bA_17 0; have bA_17_c1 := cell_of_heap bA_17 1; have bA_17_c2 := cell_of_heap bA_17 2; have bA_17_c3 := cell_of_heap bA_17 3; have bB_17 := heap_new hn17 bB_16; clear bB_16 bB_16_c0 bB_16_c1 bB_16_c2 bB_16_c3; have bB_17_c0 := cell_of_heap bB_17 0; have bB_17_c1 := cell_of_heap bB_17 1; have bB_17_c2 := cell_of_heap bB_17 2; have bB_17_c3 := cell_of_heap bB_17 3; have Xa_17 := Xa_16.new (by omega) hn17; clear Xa_16; have Xb_17 := Xb_16.new (by omega) hn17; clear Xb_16; have Xc_17 := Xc_16.new (by omega) hn17; clear Xc_16; have bX_17 := heap_new hn17 bX_16; clear bX_16 bX_16_c0 bX_16_c1 bX_16_c2 bX_16_c3; have bX_17_c0 := cell_of_heap bX_17 0; have bX_17_c1 := cell_of_heap bX_17 1; have bX_17_c2 := cell_of_heap bX_17 2; have bX_17_c3 := cell_of_heap bX_17 3; have Ya_17 := Ya_16.new (by omega) hn17; clear Ya_16; have Yb_17 := Yb_16.new (by omega) hn17; clear Yb_16; have Yc_17 := Yc_16.new (by omega) hn17; clear Yc_16; have bY_17 := heap_new hn17 bY_16; clear bY_16 bY_16_c0 bY_16_c1 bY_16_c2 bY_16_c3; have bY_17_c0 := cell_of_heap bY_17 0; have bY_17_c1 := cell_of_heap bY_17 1; have bY_17_c2 := cell_of_heap bY_17 2; have bY_17_c3 := cell_of_heap bY_17 3; have Da_17 := oDa.new (by omega) hn17; clear oDa; have Db_17 := oDb.new (by omega) hn17; clear oDb; have Dc_17 := oDc.new (by omega) hn17; clear oDc; clear hn17)
            | (go_at_call 32; refine (MachF.toMachine _ 0 w.heap.size _ _ _ _ yr1 ya1 yb1 (rr1.new (Nat.le_refl _) N15) (ra1.new (Nat.le_refl _) N15) (rb1.new (Nat.le_refl _) N15) (by omega) (by omega) (by omega) (by omega)).mono ?_; rintro e w16 ⟨vDa, vDb, vDc, rfl, hn16, oDa, oDb, oDc⟩; have z16 : w14.drew.heap.size ≤ w16.heap.size := hn16.size; have N16 : New w w16 := N15.trans hn16; have bA_16 := heap_new hn16 bA_15; clear bA_15 bA_15_c0 bA_15_c1 bA_15_c2 bA_15_c3; have bA_16_c0 := cell_of_heap bA_16 0; have bA_16_c1 := cell_of_heap bA_16 1; have bA_16_c2 := cell_of_heap bA_16 2; have bA_16_c3 := cell_of_heap bA_16 3; have bB_16 := heap_new hn16 bB_15; clear bB_15 bB_15_c0 bB_15_c1 bB_15_c2 bB_15_c3; have bB_16_c0 := cell_of_heap bB_16 0; have bB_16_c1 := cell_of_heap bB_16 1; have bB_16_c2 := cell_of_heap bB_16 2; have bB_16_c3 := cell_of_heap bB_16 3; have Xa_16 := Xa_15.new (by omega) hn16; clear Xa_15; have Xb_16 := Xb_15.new (by omega) hn16; clear Xb_15; have Xc_16 := Xc_15.new (by omega) hn16; clear Xc_15; have bX_16 := heap_new hn16 bX_15; clear bX_15 bX_15_c0 bX_15_c1 bX_15_c2 bX_15_c3; have bX_16_c0 := cell_of_heap bX_16 0; have bX_16_c1 := cell_of_heap bX_16 1; have bX_16_c2 := cell_of_heap bX_16 2; have bX_16_c3 := cell_of_heap bX_16 3; have Ya_16 := Ya_15.new (by omega) hn16; clear Ya_15; have Yb_16 := Yb_15.new (by omega) hn16; clear Yb_15; have Yc_16 := Yc_15.new (by omega) hn16; clear Yc_15; have bY_16 := heap_new hn16 bY_15; clear bY_15 bY_15_c0 bY_15_c1 bY_15_c2 bY_15_c3; have bY_16_c0 := cell_of_heap bY_16 0; have bY_16_c1 := cell_of_heap bY_16 1; have bY_16_c2 := cell_of_heap bY_16 2; have bY_16_c3 := cell_of_heap bY_16 3; clear hn16))
        go_wp2
        go_ret
        exact ⟨rfl, N17.toBelow⟩
    · go_enter Try.func6, Try.ntmps6
      go_wp2_with fail
      have N0 : New w ((w.alloc (.cells #[.int .i64 pc0, mr0, ma0, mb0] 52)).alloc (.cells #[.int .i64 pc1, mr1, ma1, mb1] 52)) := ((Kp.refl _ _).alloc _).alloc _
      have bA : ((w.alloc (.cells #[.int .i64 pc0, mr0, ma0, mb0] 52)).alloc (.cells #[.int .i64 pc1, mr1, ma1, mb1] 52)).heap[w.heap.size]? = some (.cells #[.int .i64 pc0, mr0, ma0, mb0] 52) := heap_old (alloc_heap _ _)
      have bB : ((w.alloc (.cells #[.int .i64 pc0, mr0, ma0, mb0] 52)).alloc (.cells #[.int .i64 pc1, mr1, ma1, mb1] 52)).heap[w.heap.size + 1]? = some (.cells #[.int .i64 pc1, mr1, ma1, mb1] 52) := heap_at (by simp)
      have z0 : w.heap.size ≤ ((w.alloc (.cells #[.int .i64 pc0, mr0, ma0, mb0] 52)).alloc (.cells #[.int .i64 pc1, mr1, ma1, mb1] 52)).heap.size := N0.size
      generalize ((w.alloc (.cells #[.int .i64 pc0, mr0, ma0, mb0] 52)).alloc (.cells #[.int .i64 pc1, mr1, ma1, mb1] 52)) = w0 at *
      have bA_c0 := cell_of_heap bA 0
      have bA_c1 := cell_of_heap bA 1
      have bA_c2 := cell_of_heap bA 2
      have bA_c3 := cell_of_heap bA 3
      have bB_c0 := cell_of_heap bB 0
      have bB_c1 := cell_of_heap bB 1
      have bB_c2 := cell_of_heap bB 2
      have bB_c3 := cell_of_heap bB 3
      refine (MachF.szMachine _ 0 w.heap.size _ _ _ _ yr0 ya0 yb0 (rr0.new (Nat.le_refl _) N0) (ra0.new (Nat.le_refl _) N0) (rb0.new (Nat.le_refl _) N0) (1048576) (by omega) (by omega) (by omega)).mono ?_
      rintro e w1 ⟨rfl, hn1⟩
      have z1 : w0.heap.size ≤ w1.heap.size := hn1.size
      have N1 : New w w1 := N0.trans hn1
      have bA_1 := heap_new hn1 bA
      clear bA bA_c0 bA_c1 bA_c2 bA_c3
      have bA_1_c0 := cell_of_heap bA_1 0
      have bA_1_c1 := cell_of_heap bA_1 1
      have bA_1_c2 := cell_of_heap bA_1 2
      have bA_1_c3 := cell_of_heap bA_1 3
      have bB_1 := heap_new hn1 bB
      clear bB bB_c0 bB_c1 bB_c2 bB_c3
      have bB_1_c0 := cell_of_heap bB_1 0
      have bB_1_c1 := cell_of_heap bB_1 1
      have bB_1_c2 := cell_of_heap bB_1 2
      have bB_1_c3 := cell_of_heap bB_1 3
      clear hn1
      rw [szOf_hi (by omega)]
      go_wp2_with fail
      refine (MachF.szMachine _ 0 w.heap.size _ _ _ _ yr1 ya1 yb1 (rr1.new (Nat.le_refl _) N1) (ra1.new (Nat.le_refl _) N1) (rb1.new (Nat.le_refl _) N1) (1048576 - ((yr0.length + (ya0.length + msz yb0)) : Nat)) (by omega) (by omega) (by omega)).mono ?_
      rintro e w2 ⟨rfl, hn2⟩
      have z2 : w1.heap.size ≤ w2.heap.size := hn2.size
      have N2 : New w w2 := N1.trans hn2
      have bA_2 := heap_new hn2 bA_1
      clear bA_1 bA_1_c0 bA_1_c1 bA_1_c2 bA_1_c3
      have bA_2_c0 := cell_of_heap bA_2 0
      have bA_2_c1 := cell_of_heap bA_2 1
      have bA_2_c2 := cell_of_heap bA_2 2
      have bA_2_c3 := cell_of_heap bA_2 3
      have bB_2 := heap_new hn2 bB_1
      clear bB_1 bB_1_c0 bB_1_c1 bB_1_c2 bB_1_c3
      have bB_2_c0 := cell_of_heap bB_2 0
      have bB_2_c1 := cell_of_heap bB_2 1
      have bB_2_c2 := cell_of_heap bB_2 2
      have bB_2_c3 := cell_of_heap bB_2 3
      clear hn2
      rw [szOf_lo (by omega)]
      go_wp2
      go_ret
      exact ⟨rfl, N2.toBelow⟩
  · go_enter Try.func6, Try.ntmps6
    go_wp2_with fail
    have N0 : New w ((w.alloc (.cells #[.int .i64 pc0, mr0, ma0, mb0] 52)).alloc (.cells #[.int .i64 pc1, mr1, ma1, mb1] 52)) := ((Kp.refl _ _).alloc _).alloc _
    have bA : ((w.alloc (.cells #[.int .i64 pc0, mr0, ma0, mb0] 52)).alloc (.cells #[.int .i64 pc1, mr1, ma1, mb1] 52)).heap[w.heap.size]? = some (.cells #[.int .i64 pc0, mr0, ma0, mb0] 52) := heap_old (alloc_heap _ _)
    have bB : ((w.alloc (.cells #[.int .i64 pc0, mr0, ma0, mb0] 52)).alloc (.cells #[.int .i64 pc1, mr1, ma1, mb1] 52)).heap[w.heap.size + 1]? = some (.cells #[.int .i64 pc1, mr1, ma1, mb1] 52) := heap_at (by simp)
    have z0 : w.heap.size ≤ ((w.alloc (.cells #[.int .i64 pc0, mr0, ma0, mb0] 52)).alloc (.cells #[.int .i64 pc1, mr1, ma1, mb1] 52)).heap.size := N0.size
    generalize ((w.alloc (.cells #[.int .i64 pc0, mr0, ma0, mb0] 52)).alloc (.cells #[.int .i64 pc1, mr1, ma1, mb1] 52)) = w0 at *
    have bA_c0 := cell_of_heap bA 0
    have bA_c1 := cell_of_heap bA 1
    have bA_c2 := cell_of_heap bA 2
    have bA_c3 := cell_of_heap bA 3
    have bB_c0 := cell_of_heap bB 0
    have bB_c1 := cell_of_heap bB 1
    have bB_c2 := cell_of_heap bB 2
    have bB_c3 := cell_of_heap bB 3
    refine (MachF.szMachine _ 0 w.heap.size _ _ _ _ yr0 ya0 yb0 (rr0.new (Nat.le_refl _) N0) (ra0.new (Nat.le_refl _) N0) (rb0.new (Nat.le_refl _) N0) (1048576) (by omega) (by omega) (by omega)).mono ?_
    rintro e w1 ⟨rfl, hn1⟩
    have z1 : w0.heap.size ≤ w1.heap.size := hn1.size
    have N1 : New w w1 := N0.trans hn1
    have bA_1 := heap_new hn1 bA
    clear bA bA_c0 bA_c1 bA_c2 bA_c3
    have bA_1_c0 := cell_of_heap bA_1 0
    have bA_1_c1 := cell_of_heap bA_1 1
    have bA_1_c2 := cell_of_heap bA_1 2
    have bA_1_c3 := cell_of_heap bA_1 3
    have bB_1 := heap_new hn1 bB
    clear bB bB_c0 bB_c1 bB_c2 bB_c3
    have bB_1_c0 := cell_of_heap bB_1 0
    have bB_1_c1 := cell_of_heap bB_1 1
    have bB_1_c2 := cell_of_heap bB_1 2
    have bB_1_c3 := cell_of_heap bB_1 3
    clear hn1
    rw [szOf_lo (by omega)]
    go_wp2
    go_ret
    exact ⟨rfl, N1.toBelow⟩
set_option maxRecDepth 100000 in
theorem lifted (os : Os) (started : os.Started) (H : Type) (enc : TypeId × Value → H) :
    ReturnsInHanded {} Try.checked os 6 .any (Rows.fnExactMachineSameSpec.pre6 enc Try.prog Try.f6 Rows.fnExactMachineSameRow.domain false) (Rows.fnExactMachineSameSpec.post enc Try.prog Try.f6 false true false false) := by
  refine returnsInHanded_of_change (C := Try.checked) own started (by kernel_rfl) Try.func6
    (ChangeSpec.witness6 (enc := enc) (C := Try.checked) false ⟨#[], #[.agg #[.int .i64 0, .slice none 0 0, .slice none 0 0, .slice none 0 0], .agg #[.int .i64 0, .slice none 0 0, .slice none 0 0, .slice none 0 0]], []⟩ 8 (by kernel_rfl) (by kernel_rfl) (by kernel_rfl) (by kernel_rfl)) ?_
  intro W base args ds gs before hval0 hW hcnd _
  have hval : ∀ (j : Nat) t v, Try.f6.params[j]? = some t → args[j]? = some v → Value.okWide Try.prog W .any base t v := hval0
  have hW' := hW
  obtain ⟨p, q, hA0, hV, rfl, hfz, hnd⟩ := hW
  have hA : DataW.TrodAll enc Try.prog W 0 (fun _ => true) true Try.f6.params.toList args.toList ds p := hA0
  rw [Try.params6] at hA hval
  obtain ⟨v0, vs0, d0, ds0, p0, q0, hargs, rfl, rfl, h0, r0⟩ := trodAll_cons hA
  obtain ⟨v1, vs1, d1, ds1, p1, q1, rfl, rfl, rfl, h1, r1⟩ := trodAll_cons r0
  obtain ⟨rfl, rfl, rfl⟩ := trodAll_nil r1
  obtain rfl : args = #[v0, v1] := by cases args; simp_all
  obtain ⟨rfl, rfl⟩ := trodVars_none hV
  have kk0 := h0
  have lt0 : ∀ x ∈ p0, x.block < W.heap.size := by obtain ⟨m, hm⟩ := kk0; exact DataW.trod_lt m _ _ _ hm
  obtain ⟨pc0, mr0, ma0, mb0, yr0, ya0, yb0, rfl, rr0, ra0, rb0⟩ := Open.machineL (hval 0 52 v0 rfl rfl) h0
  have kk1 := h1
  have lt1 : ∀ x ∈ p1, x.block < W.heap.size := by obtain ⟨m, hm⟩ := kk1; exact DataW.trod_lt m _ _ _ hm
  obtain ⟨pc1, mr1, ma1, mb1, yr1, ya1, yb1, rfl, rr1, ra1, rb1⟩ := Open.machineL (hval 1 52 v1 rfl rfl) h1
  clear hA0 hval0
  refine (walk pc0 mr0 ma0 mb0 yr0 ya0 yb0 pc1 mr1 ma1 mb1 yr1 ya1 yb1 W rr0 ra0 rb0 rr1 ra1 rb1).mono fun e W' ⟨he, bel⟩ => ?_
  subst he
  exact ⟨_, rfl, _, _, _, [], _, [], hW', trodAll_mk1 (shut_bool Try.underlying4 _), (trodAll_cons_mk (Below.trod laidOut (by kernel_rfl) (of_decide_eq_true (by kernel_rfl)) kk0 bel lt0) (trodAll_cons_mk (Below.trod laidOut (by kernel_rfl) (of_decide_eq_true (by kernel_rfl)) kk1 bel lt1) trodAll_mk0)), rfl, bel.frame _, fun h => by cases h⟩
theorem over : Rows.fnExactMachineSameRow.holds Try.pinned (OpenSpec.ofChange Rows.fnExactMachineSameSpec) :=
  OpenClaim.holds_of_wide 6 Try.f6 rfl rfl rfl rfl rfl rfl rfl ⟨rfl, rfl, rfl, rfl, rfl⟩ rfl rfl rfl rfl rfl (by kernel_rfl) Try.func6 (by kernel_rfl)
    (of_decide_eq_true (by kernel_rfl)) (by unfold Func.isWrapper; first | (rw [if_pos (by decide +kernel)]; kernel_rfl) | (rw [if_neg (by decide +kernel)]; exact ⟨rfl, rfl⟩))
    (fun os started H enc _ => lifted os started H enc)
theorem proved : Rows.FnExactMachineSameSaid := over
#print axioms proved
end Go.Proofs.Ytiokjfgkheollaa.fnExactMachineSame
