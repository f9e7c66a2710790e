/- FnExactCompileExpr: for every input the law returns true, and the arguments read as they did. No conditions. -/
import Derived.Test.YtckikiaockkmbaaRows
import Derived.Test.YtckikiaockkmbaaTP2
import Derived.Test.YtckikiaockkmbaaTOpenT
import Derived.Test.YtckikiaockkmbaaTPgmF
import Derived.Test.YtckikiaockkmbaaTToE
import Derived.Test.YtckikiaockkmbaaTEqE
import Derived.Test.YtckikiaockkmbaaTPgmU
import Derived.Test.YtckikiaockkmbaaTMkU
import Derived.Test.YtckikiaockkmbaaTCmpK
import Derived.Test.YtckikiaockkmbaaTP1
import Derived.Deep.RegionHeld3
import Derived.Deep.DeepCutAuto
import Derived.WalkKit
import Derived.ProofKit
import Derived.OpenShut
import Derived.ShutString
import Derived.ChangeOld
import Derived.Below
namespace Go.Proofs.Ytckikiaockkmbaa.fnExactCompileExpr
open Go.ChangeShapes Go.WideShapes Go.ChangeAt Go.RowKit Kit
open Go.ChangeMaps (open_string shut_string)
set_option linter.unusedVariables false
theorem own : ownKnob Try.prog.godebug = none := by kernel_rfl
theorem laidOut : laidOutB Try.prog = true := by kernel_rfl
theorem eqE1 {w : World} {lo hi lo' hi' : Nat} {k u : Int} {s t : Value} {l : List Ex} (hs : KidsR w lo hi s l) (ht : KidsR w lo' hi' t l) (h1 : hi ≤ w.heap.size) (h2 : hi' ≤ w.heap.size) :
    Calls Try.prog 33 #[.agg #[.int .i64 k, .int .i64 u, s], .agg #[.int .i64 k, .int .i64 u, t]] w fun e w' => e = .returned (.bool true) ∧ New w w' :=
  (EqE.eqExpr w lo hi lo' hi' k u k u s t l l hs ht h1 h2).mono fun e w' ⟨h, k⟩ => ⟨by rw [h, Ex.same_refl], k⟩
set_option maxHeartbeats 16000000 in
set_option maxRecDepth 100000 in
theorem walk (ta0 : Value) (tb0 : Value) (tc0 : Value) (xa0 : List Int) (xb0 : List Int) (x0 : List St) (k1 : Int) (u1 : Int) (t1 : Value) (x1 : List Ex) (w : World) (sa0 : IntsR w 0 w.heap.size ta0 xa0) (sb0 : IntsR w 0 w.heap.size tb0 xb0) (s0 : StsR w 0 w.heap.size tc0 x0) (s1 : KidsR w 0 w.heap.size t1 x1) :
    Calls Try.prog 6 #[.agg #[ta0, tb0, tc0], .agg #[.int .i64 k1, .int .i64 u1, t1]] w fun e w' => e = .returned (.bool true) ∧ Below w.heap.size w w' := by
  by_cases q0 : (xa0.length + (xb0.length + St.sizes x0)) ≤ 1048576
  · by_cases q1 : (xa0.length + (xb0.length + St.sizes x0)) + (Ex.sizes x1) ≤ 1048576
    · go_enter Try.func6, Try.ntmps6
      go_wp2_with fail
      obtain ⟨bb, hb⟩ : ∃ bb, Val.exprB xa0 xb0 (.node k1 u1 x1) = bb := ⟨_, rfl⟩
      obtain ⟨Y, hY⟩ : ∃ Y, (if bb = true then CmpP.cex (.node k1 u1 x1) 0 else []) = Y := ⟨_, rfl⟩
      have hbh := Lib.hid hb
      have hYh := Lib.hid hY
      have hYl : Y.length ≤ 1048577 := by rw [← hY]; have := CmpP.cex_len (.node k1 u1 x1) 0; simp only [Ex.size] at this; split <;> simp <;> omega
      clear hb hY
      have N0 : New w ((w.alloc (.cells #[ta0, tb0, tc0] 46)).alloc (.cells #[.int .i64 k1, .int .i64 u1, t1] 49)) := (((Kp.refl _ _).alloc _).alloc _)
      have bA_0 : ((w.alloc (.cells #[ta0, tb0, tc0] 46)).alloc (.cells #[.int .i64 k1, .int .i64 u1, t1] 49)).heap[w.heap.size]? = some (.cells #[ta0, tb0, tc0] 46) := heap_old (alloc_heap _ _)
      have bB_0 : ((w.alloc (.cells #[ta0, tb0, tc0] 46)).alloc (.cells #[.int .i64 k1, .int .i64 u1, t1] 49)).heap[w.heap.size + 1]? = some (.cells #[.int .i64 k1, .int .i64 u1, t1] 49) := heap_at (by simp)
      have z0 : w.heap.size + 1 < ((w.alloc (.cells #[ta0, tb0, tc0] 46)).alloc (.cells #[.int .i64 k1, .int .i64 u1, t1] 49)).heap.size := by simp
      generalize ((w.alloc (.cells #[ta0, tb0, tc0] 46)).alloc (.cells #[.int .i64 k1, .int .i64 u1, t1] 49)) = w0 at *
      have cA0 := cell_of_heap bA_0 0
      have cA1 := cell_of_heap bA_0 1
      have cA2 := cell_of_heap bA_0 2
      have lA := heap_lt bA_0
      have cB0 := cell_of_heap bB_0 0
      have cB1 := cell_of_heap bB_0 1
      have cB2 := cell_of_heap bB_0 2
      have lB := heap_lt bB_0
      clear cA0 cA1 cA2 lA cB0 cB1 cB2 lB
      refine (PgmF.szProgram _ 0 w.heap.size _ _ _ _ _ _ (sa0.new (Nat.le_refl _) N0) (sb0.new (Nat.le_refl _) N0) (s0.new (Nat.le_refl _) N0) (1048576) (by omega) (by omega) (by omega)).mono ?_
      rintro e w1 ⟨rfl, hn1⟩
      have z1 : w0.heap.size ≤ w1.heap.size := hn1.size
      have bA_1 := (hn1.block _ (heap_lt bA_0) (fun f => f)).trans bA_0
      have bB_1 := (hn1.block _ (heap_lt bB_0) (fun f => f)).trans bB_0
      have N1 : New w w1 := N0.trans hn1
      clear bA_0 bB_0 N0 hn1
      rw [szOf_hi (by omega)]
      have cA0 := cell_of_heap bA_1 0
      have cA1 := cell_of_heap bA_1 1
      have cA2 := cell_of_heap bA_1 2
      have lA := heap_lt bA_1
      have cB0 := cell_of_heap bB_1 0
      have cB1 := cell_of_heap bB_1 1
      have cB2 := cell_of_heap bB_1 2
      have lB := heap_lt bB_1
      go_wp2_with fail
      clear cA0 cA1 cA2 lA cB0 cB1 cB2 lB
      refine (SzE.szExpr _ 0 w.heap.size _ _ _ _ (1048576 - ((xa0.length + (xb0.length + St.sizes x0) : Nat) : Int)) (s1.new (Nat.le_refl _) N1) (by omega) (by omega) (by omega)).mono ?_
      rintro e w2 ⟨rfl, hn2⟩
      have z2 : w1.heap.size ≤ w2.heap.size := hn2.size
      have bA_2 := (hn2.block _ (heap_lt bA_1) (fun f => f)).trans bA_1
      have bB_2 := (hn2.block _ (heap_lt bB_1) (fun f => f)).trans bB_1
      have N2 : New w w2 := N1.trans hn2
      clear bA_1 bB_1 N1 hn2
      rw [szOf_hi (by omega)]
      have cA0 := cell_of_heap bA_2 0
      have cA1 := cell_of_heap bA_2 1
      have cA2 := cell_of_heap bA_2 2
      have lA := heap_lt bA_2
      have cB0 := cell_of_heap bB_2 0
      have cB1 := cell_of_heap bB_2 1
      have cB2 := cell_of_heap bB_2 2
      have lB := heap_lt bB_2
      go_wp2_with fail
      clear cA0 cA1 cA2 lA cB0 cB1 cB2 lB
      skip
      have cA0 := cell_of_heap bA_2 0
      have cA1 := cell_of_heap bA_2 1
      have cA2 := cell_of_heap bA_2 2
      have lA := heap_lt bA_2
      have cB0 := cell_of_heap bB_2 0
      have cB1 := cell_of_heap bB_2 1
      have cB2 := cell_of_heap bB_2 2
      have lB := heap_lt bB_2
      refine wp_region_held_drew (S := fun w' => w'.cell? ⟨w.heap.size, 0, none⟩ = some (ta0) ∧ w'.cell? ⟨w.heap.size, 1, none⟩ = some (tb0) ∧ w'.cell? ⟨w.heap.size, 2, none⟩ = some (tc0) ∧ w'.cell? ⟨w.heap.size + 1, 0, none⟩ = some (.int .i64 k1) ∧ w'.cell? ⟨w.heap.size + 1, 1, none⟩ = some (.int .i64 u1) ∧ w'.cell? ⟨w.heap.size + 1, 2, none⟩ = some (t1)) (by kernel_rfl) ?_ (fun hHeld => ?_)
      · exact ⟨cA0, cA1, cA2, cB0, cB1, cB2⟩
      clear cA0 cA1 cA2 lA cB0 cB1 cB2 lB
      have hn3 : New w2 w2.drew := (Kp.refl _ _).drew
      generalize w2.drew = w3 at *
      have z3 : w2.heap.size ≤ w3.heap.size := hn3.size
      have bA_3 := (hn3.block _ (heap_lt bA_2) (fun f => f)).trans bA_2
      have bB_3 := (hn3.block _ (heap_lt bB_2) (fun f => f)).trans bB_2
      have N3 : New w w3 := N2.trans hn3
      clear bA_2 bB_2 N2 hn3
      have cA0 := cell_of_heap bA_3 0
      have cA1 := cell_of_heap bA_3 1
      have cA2 := cell_of_heap bA_3 2
      have lA := heap_lt bA_3
      have cB0 := cell_of_heap bB_3 0
      have cB1 := cell_of_heap bB_3 1
      have cB2 := cell_of_heap bB_3 2
      have lB := heap_lt bB_3
      refine wpAnyH_take (i := 0) (v := ?vbq0) rfl (by kernel_rfl) (by kernel_rfl) (by kernel_rfl) (fun _ _ _ h => h) (Or.inl ⟨by kernel_rfl, ?ybq0⟩) (by assumption) ?rbq0
      case ybq0 =>
        intro w hSw
        try dsimp only at hSw
        go_simp
        try with_reducible rfl
      try simp only [Act.put, List.getElem_toArray, List.getElem_cons_zero, List.setIfInBounds_toArray, List.set_cons_zero, List.set_cons_succ]
      refine wpAnyH_take (i := 2) (v := ?vbq2) rfl (by kernel_rfl) (by kernel_rfl) (by kernel_rfl) (fun _ _ _ h => h) (Or.inl ⟨by kernel_rfl, ?ybq2⟩) (by assumption) ?rbq2
      case ybq2 =>
        intro w hSw
        try dsimp only at hSw
        go_simp
        try with_reducible rfl
      try simp only [Act.put, List.getElem_toArray, List.getElem_cons_zero, List.getElem_cons_succ, List.setIfInBounds_toArray, List.set_cons_zero, List.set_cons_succ]
      refine wpAnyH_ready (rs := [1]) (by kernel_rfl) (by simp) ?_
      refine AllReadyH.cons rfl (fun K hK => ?_) AllReadyH.nil
      go_simp
      clear cA0 cA1 cA2 lA cB0 cB1 cB2 lB
      refine (PgmF.toProgram _ 0 w.heap.size _ _ _ _ _ _ (sa0.new (Nat.le_refl _) N3) (sb0.new (Nat.le_refl _) N3) (s0.new (Nat.le_refl _) N3) (by omega) (by omega) (by omega) (by omega)).mono ?_
      rintro e w4 ⟨vPa, vPb, vPc, rfl, hn4, hPa, hPb, hPc⟩
      have z4 : w3.heap.size ≤ w4.heap.size := hn4.size
      have bA_4 := (hn4.block _ (heap_lt bA_3) (fun f => f)).trans bA_3
      have bB_4 := (hn4.block _ (heap_lt bB_3) (fun f => f)).trans bB_3
      have N4 : New w w4 := N3.trans hn4
      clear bA_3 bB_3 N3 hn4
      obtain ⟨aPa, dPa, rfl, _⟩ := hPa.len
      have oPa_4 := Lib.hid hPa
      clear hPa
      obtain ⟨aPb, dPb, rfl, _⟩ := hPb.len
      have oPb_4 := Lib.hid hPb
      clear hPb
      obtain ⟨aPc, dPc, rfl, _⟩ := hPc.len
      have oPc_4 := Lib.hid hPc
      clear hPc
      have cA0 := cell_of_heap bA_4 0
      have cA1 := cell_of_heap bA_4 1
      have cA2 := cell_of_heap bA_4 2
      have lA := heap_lt bA_4
      have cB0 := cell_of_heap bB_4 0
      have cB1 := cell_of_heap bB_4 1
      have cB2 := cell_of_heap bB_4 2
      have lB := heap_lt bB_4
      refine hK.out _ _ ?_ (fun hHeld2 => ?_)
      · exact ⟨cA0, cA1, cA2, cB0, cB1, cB2⟩
      clear hK K hHeld
      have hHeld := hHeld2
      clear hHeld2
      try simp only [Act.put, List.getElem_toArray, List.getElem_cons_zero, List.getElem_cons_succ, List.setIfInBounds_toArray, List.set_cons_zero, List.set_cons_succ]
      refine wpAnyH_ready (rs := [3]) (by kernel_rfl) (by simp) ?_
      refine AllReadyH.cons rfl (fun K hK => ?_) AllReadyH.nil
      go_simp
      clear cA0 cA1 cA2 lA cB0 cB1 cB2 lB
      refine (ToE.toExpr _ 0 w.heap.size _ _ _ _ (by omega) (s1.new (Nat.le_refl _) N4) (by omega)).mono ?_
      rintro e w5 ⟨vQ, rfl, hn5, hQ⟩
      have z5 : w4.heap.size ≤ w5.heap.size := hn5.size
      have bA_5 := (hn5.block _ (heap_lt bA_4) (fun f => f)).trans bA_4
      have bB_5 := (hn5.block _ (heap_lt bB_4) (fun f => f)).trans bB_4
      have oPa_5 := Lib.hid (oPa_4.out.new (by omega) hn5)
      have oPb_5 := Lib.hid (oPb_4.out.new (by omega) hn5)
      have oPc_5 := Lib.hid (oPc_4.out.new (by omega) hn5)
      have N5 : New w w5 := N4.trans hn5
      clear bA_4 bB_4 oPa_4 oPb_4 oPc_4 N4 hn5
      obtain ⟨aQ, dQ, rfl, _⟩ := hQ.len
      have oQ_5 := Lib.hid hQ
      clear hQ
      have cA0 := cell_of_heap bA_5 0
      have cA1 := cell_of_heap bA_5 1
      have cA2 := cell_of_heap bA_5 2
      have lA := heap_lt bA_5
      have cB0 := cell_of_heap bB_5 0
      have cB1 := cell_of_heap bB_5 1
      have cB2 := cell_of_heap bB_5 2
      have lB := heap_lt bB_5
      refine hK.out _ _ ?_ (fun hHeld2 => ?_)
      · exact ⟨cA0, cA1, cA2, cB0, cB1, cB2⟩
      clear hK K hHeld
      have hHeld := hHeld2
      clear hHeld2
      try simp only [Act.put, List.getElem_toArray, List.getElem_cons_zero, List.getElem_cons_succ, List.setIfInBounds_toArray, List.set_cons_zero, List.set_cons_succ]
      refine wpAnyH_ready (rs := [4]) (by kernel_rfl) (by simp) ?_
      refine AllReadyH.cons rfl (fun K hK => ?_) AllReadyH.nil
      go_simp
      clear cA0 cA1 cA2 lA cB0 cB1 cB2 lB
      refine (CmpX.specX (xa := xa0) (xb := xb0) (k := k1) (v := u1) (ks := x1) oPa_5.out oPb_5.out ⟨_, _, _, rfl⟩ oQ_5.out (by omega) (by omega) (by omega)).mono ?_
      rintro e w6 ⟨uW, rfl, hn6, hW⟩
      have z6 : w5.heap.size ≤ w6.heap.size := hn6.size
      have bA_6 := (hn6.block _ (heap_lt bA_5) (fun f => f)).trans bA_5
      have bB_6 := (hn6.block _ (heap_lt bB_5) (fun f => f)).trans bB_5
      have oPa_6 := Lib.hid (oPa_5.out.new (by omega) hn6)
      have oPb_6 := Lib.hid (oPb_5.out.new (by omega) hn6)
      have oPc_6 := Lib.hid (oPc_5.out.new (by omega) hn6)
      have oQ_6 := Lib.hid (oQ_5.out.new (by omega) hn6)
      have N6 : New w w6 := N5.trans hn6
      clear bA_5 bB_5 oPa_5 oPb_5 oPc_5 oQ_5 N5 hn6
      rw [hbh.out]
      rw [hbh.out, hYh.out] at hW
      obtain ⟨aW, dW, rfl, _⟩ := hW.reads.len
      replace hW := hW.reads
      have oW_6 := Lib.hid hW
      clear hW
      have cA0 := cell_of_heap bA_6 0
      have cA1 := cell_of_heap bA_6 1
      have cA2 := cell_of_heap bA_6 2
      have lA := heap_lt bA_6
      have cB0 := cell_of_heap bB_6 0
      have cB1 := cell_of_heap bB_6 1
      have cB2 := cell_of_heap bB_6 2
      have lB := heap_lt bB_6
      refine hK.out _ _ ?_ (fun hHeld2 => ?_)
      · exact ⟨cA0, cA1, cA2, cB0, cB1, cB2⟩
      clear hK K hHeld
      have hHeld := hHeld2
      clear hHeld2
      try simp only [Act.put, List.getElem_toArray, List.getElem_cons_zero, List.getElem_cons_succ, List.setIfInBounds_toArray, List.set_cons_zero, List.set_cons_succ]
      refine wpAnyH_take (i := 5) (v := ?vbq5) rfl (by kernel_rfl) (by kernel_rfl) (by kernel_rfl) (fun _ _ _ h => h) (Or.inl ⟨by kernel_rfl, ?ybq5⟩) (by assumption) ?rbq5
      case ybq5 =>
        intro w hSw
        try dsimp only at hSw
        go_simp
        try with_reducible rfl
      try simp only [Act.put, List.getElem_toArray, List.getElem_cons_zero, List.getElem_cons_succ, List.setIfInBounds_toArray, List.set_cons_zero, List.set_cons_succ]
      refine wpAnyH_take (i := 6) (v := ?vbq6) rfl (by kernel_rfl) (by kernel_rfl) (by kernel_rfl) (fun _ _ _ h => h) (Or.inl ⟨by kernel_rfl, ?ybq6⟩) (by assumption) ?rbq6
      case ybq6 =>
        intro w hSw
        try dsimp only at hSw
        go_simp
        try with_reducible rfl
      try simp only [Act.put, List.getElem_toArray, List.getElem_cons_zero, List.getElem_cons_succ, List.setIfInBounds_toArray, List.set_cons_zero, List.set_cons_succ]
      refine wpAnyH_take (i := 7) (v := ?vbq7) rfl (by kernel_rfl) (by kernel_rfl) (by kernel_rfl) (fun _ _ _ h => h) (Or.inl ⟨by kernel_rfl, ?ybq7⟩) (by assumption) ?rbq7
      case ybq7 =>
        intro w hSw
        try dsimp only at hSw
        go_simp
        try with_reducible rfl
      try simp only [Act.put, List.getElem_toArray, List.getElem_cons_zero, List.getElem_cons_succ, List.setIfInBounds_toArray, List.set_cons_zero, List.set_cons_succ]
      refine wpAnyH_take (i := 8) (v := ?vbq8) rfl (by kernel_rfl) (by kernel_rfl) (by kernel_rfl) (fun _ _ _ h => h) (Or.inl ⟨by kernel_rfl, ?ybq8⟩) (by assumption) ?rbq8
      case ybq8 =>
        intro w hSw
        try dsimp only at hSw
        go_simp
        try with_reducible rfl
      try simp only [Act.put, List.getElem_toArray, List.getElem_cons_zero, List.getElem_cons_succ, List.setIfInBounds_toArray, List.set_cons_zero, List.set_cons_succ]
      refine wpAnyH_take (i := 9) (v := ?vbq9) rfl (by kernel_rfl) (by kernel_rfl) (by kernel_rfl) (fun _ _ _ h => h) (Or.inl ⟨by kernel_rfl, ?ybq9⟩) (by assumption) ?rbq9
      case ybq9 =>
        intro w hSw
        try dsimp only at hSw
        go_simp
        try with_reducible rfl
      try simp only [Act.put, List.getElem_toArray, List.getElem_cons_zero, List.getElem_cons_succ, List.setIfInBounds_toArray, List.set_cons_zero, List.set_cons_succ]
      refine wpAnyH_done (by kernel_rfl) ?_ _
      clear oPa_6
      clear oPb_6
      clear oPc_6
      clear oQ_6
      clear cA0 cA1 cA2 lA cB0 cB1 cB2 lB
      have cA0 := cell_of_heap bA_6 0
      have cA1 := cell_of_heap bA_6 1
      have cA2 := cell_of_heap bA_6 2
      have lA := heap_lt bA_6
      have cB0 := cell_of_heap bB_6 0
      have cB1 := cell_of_heap bB_6 1
      have cB2 := cell_of_heap bB_6 2
      have lB := heap_lt bB_6
      go_wp2_with fail
      clear cA0 cA1 cA2 lA cB0 cB1 cB2 lB
      refine (PgmU.toProgram _ 0 w.heap.size _ _ _ _ _ _ (sa0.new (Nat.le_refl _) N6) (sb0.new (Nat.le_refl _) N6) (s0.new (Nat.le_refl _) N6) (by omega) (by omega) (by omega) (by omega)).mono ?_
      rintro e w7 ⟨vXa, vXb, vXc, rfl, hn7, hXa, hXb, hXc, hsep⟩
      have z7 : w6.heap.size ≤ w7.heap.size := hn7.size
      have bA_7 := (hn7.block _ (heap_lt bA_6) (fun f => f)).trans bA_6
      have bB_7 := (hn7.block _ (heap_lt bB_6) (fun f => f)).trans bB_6
      have oW_7 := Lib.hid (oW_6.out.new (by omega) hn7)
      have N7 : New w w7 := N6.trans hn7
      clear bA_6 bB_6 oW_6 N6 hn7
      have hseph := Lib.hid hsep
      clear hsep
      obtain ⟨aXa, dXa, rfl, _⟩ := hXa.reads.len
      obtain ⟨aXb, dXb, rfl, _⟩ := hXb.reads.len
      obtain ⟨aXc, dXc, rfl, _⟩ := hXc.len
      have habX : Hid (∀ b, (Value.slice aXa xa0.length dXa).ownBlock = some b → b < w7.heap.size) := Lib.hid fun b hb => (hXa.lt b hb).2
      have hbbX : Hid (∀ b, (Value.slice aXb xb0.length dXb).ownBlock = some b → b < w7.heap.size) := Lib.hid fun b hb => (hXb.lt b hb).2
      have oXa_7 := Lib.hid hXa
      clear hXa
      have oXb_7 := Lib.hid hXb
      clear hXb
      have oXc_7 := Lib.hid hXc
      clear hXc
      have cA0 := cell_of_heap bA_7 0
      have cA1 := cell_of_heap bA_7 1
      have cA2 := cell_of_heap bA_7 2
      have lA := heap_lt bA_7
      have cB0 := cell_of_heap bB_7 0
      have cB1 := cell_of_heap bB_7 1
      have cB2 := cell_of_heap bB_7 2
      have lB := heap_lt bB_7
      have hn8 : New w7 (w7.alloc (.cells #[.slice aXa xa0.length dXa, .slice aXb xb0.length dXb, .slice aXc x0.length dXc] 37)) := (Kp.refl _ _).alloc _
      have y8 : w7.heap.size < (w7.alloc (.cells #[.slice aXa xa0.length dXa, .slice aXb xb0.length dXb, .slice aXc x0.length dXc] 37)).heap.size := DrawX.lt_alloc _ _
      have bX_8 := alloc_heap w7 (.cells #[.slice aXa xa0.length dXa, .slice aXb xb0.length dXb, .slice aXc x0.length dXc] 37)
      go_upto_region 10 with fail
      generalize hbX : w7.heap.size = bX at bX_8 y8 ⊢
      generalize (w7.alloc (.cells #[.slice aXa xa0.length dXa, .slice aXb xb0.length dXb, .slice aXc x0.length dXc] 37)) = w8 at *
      have z8 : w7.heap.size ≤ w8.heap.size := hn8.size
      have bA_8 := (hn8.block _ (heap_lt bA_7) (fun f => f)).trans bA_7
      have bB_8 := (hn8.block _ (heap_lt bB_7) (fun f => f)).trans bB_7
      have oW_8 := Lib.hid (oW_7.out.new (by omega) hn8)
      have oXa_8 := Lib.hid (oXa_7.out.new hn8)
      have oXb_8 := Lib.hid (oXb_7.out.new hn8)
      have oXc_8 := Lib.hid (oXc_7.out.new (by omega) hn8)
      have N8 : New w w8 := N7.trans hn8
      clear cA0 cA1 cA2 lA cB0 cB1 cB2 lB
      clear bA_7 bB_7 oW_7 oXa_7 oXb_7 oXc_7 N7 hn8
      have cA0 := cell_of_heap bA_8 0
      have cA1 := cell_of_heap bA_8 1
      have cA2 := cell_of_heap bA_8 2
      have lA := heap_lt bA_8
      have cB0 := cell_of_heap bB_8 0
      have cB1 := cell_of_heap bB_8 1
      have cB2 := cell_of_heap bB_8 2
      have lB := heap_lt bB_8
      have cX0 := cell_of_heap bX_8 0
      have cX1 := cell_of_heap bX_8 1
      have cX2 := cell_of_heap bX_8 2
      have lX := heap_lt bX_8
      go_wp2_with fail
      clear cA0 cA1 cA2 lA cB0 cB1 cB2 lB cX0 cX1 cX2 lX
      refine (ToEU.toExpr _ 0 w.heap.size _ _ _ _ (by omega) (s1.new (Nat.le_refl _) N8) (by omega)).mono ?_
      rintro e w9 ⟨vZ, rfl, hn9, hZ⟩
      have z9 : w8.heap.size ≤ w9.heap.size := hn9.size
      have bA_9 := (hn9.block _ (heap_lt bA_8) (fun f => f)).trans bA_8
      have bB_9 := (hn9.block _ (heap_lt bB_8) (fun f => f)).trans bB_8
      have bX_9 := (hn9.block _ (heap_lt bX_8) (fun f => f)).trans bX_8
      have oW_9 := Lib.hid (oW_8.out.new (by omega) hn9)
      have oXa_9 := Lib.hid (oXa_8.out.new hn9)
      have oXb_9 := Lib.hid (oXb_8.out.new hn9)
      have oXc_9 := Lib.hid (oXc_8.out.new (by omega) hn9)
      have N9 : New w w9 := N8.trans hn9
      clear bA_8 bB_8 bX_8 oW_8 oXa_8 oXb_8 oXc_8 N8 hn9
      obtain ⟨aZ, dZ, rfl, _⟩ := hZ.len
      have oZ_9 := Lib.hid hZ
      clear hZ
      have cA0 := cell_of_heap bA_9 0
      have cA1 := cell_of_heap bA_9 1
      have cA2 := cell_of_heap bA_9 2
      have lA := heap_lt bA_9
      have cB0 := cell_of_heap bB_9 0
      have cB1 := cell_of_heap bB_9 1
      have cB2 := cell_of_heap bB_9 2
      have lB := heap_lt bB_9
      have cX0 := cell_of_heap bX_9 0
      have cX1 := cell_of_heap bX_9 1
      have cX2 := cell_of_heap bX_9 2
      have lX := heap_lt bX_9
      have hn10 : New w9 (w9.alloc (.cells #[.int .i64 k1, .int .i64 u1, .slice aZ x1.length dZ] 58)) := (Kp.refl _ _).alloc _
      have y10 : w9.heap.size < (w9.alloc (.cells #[.int .i64 k1, .int .i64 u1, .slice aZ x1.length dZ] 58)).heap.size := DrawX.lt_alloc _ _
      have bZ_10 := alloc_heap w9 (.cells #[.int .i64 k1, .int .i64 u1, .slice aZ x1.length dZ] 58)
      go_upto_region 11 with fail
      generalize hbZ : w9.heap.size = bZ at bZ_10 y10 ⊢
      generalize (w9.alloc (.cells #[.int .i64 k1, .int .i64 u1, .slice aZ x1.length dZ] 58)) = w10 at *
      have z10 : w9.heap.size ≤ w10.heap.size := hn10.size
      have bA_10 := (hn10.block _ (heap_lt bA_9) (fun f => f)).trans bA_9
      have bB_10 := (hn10.block _ (heap_lt bB_9) (fun f => f)).trans bB_9
      have bX_10 := (hn10.block _ (heap_lt bX_9) (fun f => f)).trans bX_9
      have oW_10 := Lib.hid (oW_9.out.new (by omega) hn10)
      have oXa_10 := Lib.hid (oXa_9.out.new hn10)
      have oXb_10 := Lib.hid (oXb_9.out.new hn10)
      have oXc_10 := Lib.hid (oXc_9.out.new (by omega) hn10)
      have oZ_10 := Lib.hid (oZ_9.out.new (by omega) hn10)
      have N10 : New w w10 := N9.trans hn10
      clear cA0 cA1 cA2 lA cB0 cB1 cB2 lB cX0 cX1 cX2 lX
      clear bA_9 bB_9 bX_9 oW_9 oXa_9 oXb_9 oXc_9 oZ_9 N9 hn10
      have cA0 := cell_of_heap bA_10 0
      have cA1 := cell_of_heap bA_10 1
      have cA2 := cell_of_heap bA_10 2
      have lA := heap_lt bA_10
      have cB0 := cell_of_heap bB_10 0
      have cB1 := cell_of_heap bB_10 1
      have cB2 := cell_of_heap bB_10 2
      have lB := heap_lt bB_10
      have cX0 := cell_of_heap bX_10 0
      have cX1 := cell_of_heap bX_10 1
      have cX2 := cell_of_heap bX_10 2
      have lX := heap_lt bX_10
      have cZ0 := cell_of_heap bZ_10 0
      have cZ1 := cell_of_heap bZ_10 1
      have cZ2 := cell_of_heap bZ_10 2
      have lZ := heap_lt bZ_10
      go_wp2_with fail
      clear cA0 cA1 cA2 lA cB0 cB1 cB2 lB cX0 cX1 cX2 lX cZ0 cZ1 cZ2 lZ
      refine (CmpK.implX (xa := xa0) (xb := xb0) (k := k1) (v := u1) (ks := x1) (oXa_10.out.reads) (oXb_10.out.reads) ⟨_, _, _, rfl⟩ oZ_10.out.r (by omega) (by omega) (by omega)).mono ?_
      rintro e w11 ⟨uG, rfl, hn11, hG⟩
      have z11 : w10.heap.size ≤ w11.heap.size := hn11.size
      have bA_11 := (hn11.block _ (heap_lt bA_10) (fun f => f)).trans bA_10
      have bB_11 := (hn11.block _ (heap_lt bB_10) (fun f => f)).trans bB_10
      have bX_11 := (hn11.block _ (heap_lt bX_10) (fun f => f)).trans bX_10
      have bZ_11 := (hn11.block _ (heap_lt bZ_10) (fun f => f)).trans bZ_10
      have oW_11 := Lib.hid (oW_10.out.new (by omega) hn11)
      have oXa_11 := Lib.hid (oXa_10.out.new hn11)
      have oXb_11 := Lib.hid (oXb_10.out.new hn11)
      have oXc_11 := Lib.hid (oXc_10.out.new (by omega) hn11)
      have oZ_11 := Lib.hid (oZ_10.out.new (by omega) hn11)
      have N11 : New w w11 := N10.trans hn11
      clear bA_10 bB_10 bX_10 bZ_10 oW_10 oXa_10 oXb_10 oXc_10 oZ_10 N10 hn11
      rw [hbh.out]
      rw [hbh.out, hYh.out] at hG
      obtain ⟨aG, dG, rfl, _⟩ := hG.reads.len
      have oG_11 := Lib.hid hG
      clear hG
      have hne : (bb != bb) = false := by simp
      have hYn : (Y.length != Y.length) = false := by simp
      have cA0 := cell_of_heap bA_11 0
      have cA1 := cell_of_heap bA_11 1
      have cA2 := cell_of_heap bA_11 2
      have lA := heap_lt bA_11
      have cB0 := cell_of_heap bB_11 0
      have cB1 := cell_of_heap bB_11 1
      have cB2 := cell_of_heap bB_11 2
      have lB := heap_lt bB_11
      have cX0 := cell_of_heap bX_11 0
      have cX1 := cell_of_heap bX_11 1
      have cX2 := cell_of_heap bX_11 2
      have lX := heap_lt bX_11
      have cZ0 := cell_of_heap bZ_11 0
      have cZ1 := cell_of_heap bZ_11 1
      have cZ2 := cell_of_heap bZ_11 2
      have lZ := heap_lt bZ_11
      go_wp2_with fail
      clear cA0 cA1 cA2 lA cB0 cB1 cB2 lB cX0 cX1 cX2 lX cZ0 cZ1 cZ2 lZ
      refine (LawF.eqInstrS _ _ _ _ _ _ _ _ _ (oG_11.out.reads) oW_11.out (by omega) (by omega)).mono ?_
      rintro e w12 ⟨rfl, hn12⟩
      have z12 : w11.heap.size ≤ w12.heap.size := hn12.size
      have bA_12 := (hn12.block _ (heap_lt bA_11) (fun f => f)).trans bA_11
      have bB_12 := (hn12.block _ (heap_lt bB_11) (fun f => f)).trans bB_11
      have bX_12 := (hn12.block _ (heap_lt bX_11) (fun f => f)).trans bX_11
      have bZ_12 := (hn12.block _ (heap_lt bZ_11) (fun f => f)).trans bZ_11
      have oW_12 := Lib.hid (oW_11.out.new (by omega) hn12)
      have oXa_12 := Lib.hid (oXa_11.out.new hn12)
      have oXb_12 := Lib.hid (oXb_11.out.new hn12)
      have oXc_12 := Lib.hid (oXc_11.out.new (by omega) hn12)
      have oZ_12 := Lib.hid (oZ_11.out.new (by omega) hn12)
      have oG_12 := Lib.hid (oG_11.out.new hn12)
      have N12 : New w w12 := N11.trans hn12
      clear bA_11 bB_11 bX_11 bZ_11 oW_11 oXa_11 oXb_11 oXc_11 oZ_11 oG_11 N11 hn12
      rw [decide_eq_true rfl]
      have cA0 := cell_of_heap bA_12 0
      have cA1 := cell_of_heap bA_12 1
      have cA2 := cell_of_heap bA_12 2
      have lA := heap_lt bA_12
      have cB0 := cell_of_heap bB_12 0
      have cB1 := cell_of_heap bB_12 1
      have cB2 := cell_of_heap bB_12 2
      have lB := heap_lt bB_12
      have cX0 := cell_of_heap bX_12 0
      have cX1 := cell_of_heap bX_12 1
      have cX2 := cell_of_heap bX_12 2
      have lX := heap_lt bX_12
      have cZ0 := cell_of_heap bZ_12 0
      have cZ1 := cell_of_heap bZ_12 1
      have cZ2 := cell_of_heap bZ_12 2
      have lZ := heap_lt bZ_12
      go_upto_region 14 with fail
      clear cA0 cA1 cA2 lA cB0 cB1 cB2 lB cX0 cX1 cX2 lX cZ0 cZ1 cZ2 lZ
      have cA0 := cell_of_heap bA_12 0
      have cA1 := cell_of_heap bA_12 1
      have cA2 := cell_of_heap bA_12 2
      have lA := heap_lt bA_12
      have cB0 := cell_of_heap bB_12 0
      have cB1 := cell_of_heap bB_12 1
      have cB2 := cell_of_heap bB_12 2
      have lB := heap_lt bB_12
      have cX0 := cell_of_heap bX_12 0
      have cX1 := cell_of_heap bX_12 1
      have cX2 := cell_of_heap bX_12 2
      have lX := heap_lt bX_12
      have cZ0 := cell_of_heap bZ_12 0
      have cZ1 := cell_of_heap bZ_12 1
      have cZ2 := cell_of_heap bZ_12 2
      have lZ := heap_lt bZ_12
      refine wp_region_held_drew (S := fun w' => w'.cell? ⟨w.heap.size, 0, none⟩ = some (ta0) ∧ w'.cell? ⟨w.heap.size, 1, none⟩ = some (tb0) ∧ w'.cell? ⟨w.heap.size, 2, none⟩ = some (tc0) ∧ w'.cell? ⟨w.heap.size + 1, 0, none⟩ = some (.int .i64 k1) ∧ w'.cell? ⟨w.heap.size + 1, 1, none⟩ = some (.int .i64 u1) ∧ w'.cell? ⟨w.heap.size + 1, 2, none⟩ = some (t1) ∧ w'.cell? ⟨bX, 0, none⟩ = some (.slice aXa xa0.length dXa) ∧ w'.cell? ⟨bX, 1, none⟩ = some (.slice aXb xb0.length dXb) ∧ w'.cell? ⟨bX, 2, none⟩ = some (.slice aXc x0.length dXc) ∧ w'.cell? ⟨bZ, 0, none⟩ = some (.int .i64 k1) ∧ w'.cell? ⟨bZ, 1, none⟩ = some (.int .i64 u1) ∧ w'.cell? ⟨bZ, 2, none⟩ = some (.slice aZ x1.length dZ)) (by kernel_rfl) ?_ (fun hHeld => ?_)
      · exact ⟨cA0, cA1, cA2, cB0, cB1, cB2, cX0, cX1, cX2, cZ0, cZ1, cZ2⟩
      clear cA0 cA1 cA2 lA cB0 cB1 cB2 lB cX0 cX1 cX2 lX cZ0 cZ1 cZ2 lZ
      have hn13 : New w12 w12.drew := (Kp.refl _ _).drew
      generalize w12.drew = w13 at *
      have z13 : w12.heap.size ≤ w13.heap.size := hn13.size
      have bA_13 := (hn13.block _ (heap_lt bA_12) (fun f => f)).trans bA_12
      have bB_13 := (hn13.block _ (heap_lt bB_12) (fun f => f)).trans bB_12
      have bX_13 := (hn13.block _ (heap_lt bX_12) (fun f => f)).trans bX_12
      have bZ_13 := (hn13.block _ (heap_lt bZ_12) (fun f => f)).trans bZ_12
      have oW_13 := Lib.hid (oW_12.out.new (by omega) hn13)
      have oXa_13 := Lib.hid (oXa_12.out.new hn13)
      have oXb_13 := Lib.hid (oXb_12.out.new hn13)
      have oXc_13 := Lib.hid (oXc_12.out.new (by omega) hn13)
      have oZ_13 := Lib.hid (oZ_12.out.new (by omega) hn13)
      have oG_13 := Lib.hid (oG_12.out.new hn13)
      have N13 : New w w13 := N12.trans hn13
      clear bA_12 bB_12 bX_12 bZ_12 oW_12 oXa_12 oXb_12 oXc_12 oZ_12 oG_12 N12 hn13
      have cA0 := cell_of_heap bA_13 0
      have cA1 := cell_of_heap bA_13 1
      have cA2 := cell_of_heap bA_13 2
      have lA := heap_lt bA_13
      have cB0 := cell_of_heap bB_13 0
      have cB1 := cell_of_heap bB_13 1
      have cB2 := cell_of_heap bB_13 2
      have lB := heap_lt bB_13
      have cX0 := cell_of_heap bX_13 0
      have cX1 := cell_of_heap bX_13 1
      have cX2 := cell_of_heap bX_13 2
      have lX := heap_lt bX_13
      have cZ0 := cell_of_heap bZ_13 0
      have cZ1 := cell_of_heap bZ_13 1
      have cZ2 := cell_of_heap bZ_13 2
      have lZ := heap_lt bZ_13
      refine wpAnyH_take (i := 0) (v := ?vcq0) rfl (by kernel_rfl) (by kernel_rfl) (by kernel_rfl) (fun _ _ _ h => h) (Or.inl ⟨by kernel_rfl, ?ycq0⟩) (by assumption) ?rcq0
      case ycq0 =>
        intro w hSw
        try dsimp only at hSw
        go_simp
        try with_reducible rfl
      try simp only [Act.put, List.getElem_toArray, List.getElem_cons_zero, List.setIfInBounds_toArray, List.set_cons_zero, List.set_cons_succ]
      refine wpAnyH_take (i := 1) (v := ?vcq1) rfl (by kernel_rfl) (by kernel_rfl) (by kernel_rfl) (fun _ _ _ h => h) (Or.inl ⟨by kernel_rfl, ?ycq1⟩) (by assumption) ?rcq1
      case ycq1 =>
        intro w hSw
        try dsimp only at hSw
        go_simp
        try with_reducible rfl
      try simp only [Act.put, List.getElem_toArray, List.getElem_cons_zero, List.getElem_cons_succ, List.setIfInBounds_toArray, List.set_cons_zero, List.set_cons_succ]
      refine wpAnyH_ready (rs := [2]) (by kernel_rfl) (by simp) ?_
      refine AllReadyH.cons rfl (fun K hK => ?_) AllReadyH.nil
      go_simp
      clear cA0 cA1 cA2 lA cB0 cB1 cB2 lB cX0 cX1 cX2 lX cZ0 cZ1 cZ2 lZ
      refine (PgmF.toProgram _ 0 w.heap.size _ _ _ _ _ _ (sa0.new (Nat.le_refl _) N13) (sb0.new (Nat.le_refl _) N13) (s0.new (Nat.le_refl _) N13) (by omega) (by omega) (by omega) (by omega)).mono ?_
      rintro e w14 ⟨vCa, vCb, vCc, rfl, hn14, hCa, hCb, hCc⟩
      have z14 : w13.heap.size ≤ w14.heap.size := hn14.size
      have bA_14 := (hn14.block _ (heap_lt bA_13) (fun f => f)).trans bA_13
      have bB_14 := (hn14.block _ (heap_lt bB_13) (fun f => f)).trans bB_13
      have bX_14 := (hn14.block _ (heap_lt bX_13) (fun f => f)).trans bX_13
      have bZ_14 := (hn14.block _ (heap_lt bZ_13) (fun f => f)).trans bZ_13
      have oW_14 := Lib.hid (oW_13.out.new (by omega) hn14)
      have oXa_14 := Lib.hid (oXa_13.out.new hn14)
      have oXb_14 := Lib.hid (oXb_13.out.new hn14)
      have oXc_14 := Lib.hid (oXc_13.out.new (by omega) hn14)
      have oZ_14 := Lib.hid (oZ_13.out.new (by omega) hn14)
      have oG_14 := Lib.hid (oG_13.out.new hn14)
      have N14 : New w w14 := N13.trans hn14
      clear bA_13 bB_13 bX_13 bZ_13 oW_13 oXa_13 oXb_13 oXc_13 oZ_13 oG_13 N13 hn14
      obtain ⟨aCa, dCa, rfl, _⟩ := hCa.len
      have oCa_14 := Lib.hid hCa
      clear hCa
      obtain ⟨aCb, dCb, rfl, _⟩ := hCb.len
      have oCb_14 := Lib.hid hCb
      clear hCb
      obtain ⟨aCc, dCc, rfl, _⟩ := hCc.len
      have oCc_14 := Lib.hid hCc
      clear hCc
      have cA0 := cell_of_heap bA_14 0
      have cA1 := cell_of_heap bA_14 1
      have cA2 := cell_of_heap bA_14 2
      have lA := heap_lt bA_14
      have cB0 := cell_of_heap bB_14 0
      have cB1 := cell_of_heap bB_14 1
      have cB2 := cell_of_heap bB_14 2
      have lB := heap_lt bB_14
      have cX0 := cell_of_heap bX_14 0
      have cX1 := cell_of_heap bX_14 1
      have cX2 := cell_of_heap bX_14 2
      have lX := heap_lt bX_14
      have cZ0 := cell_of_heap bZ_14 0
      have cZ1 := cell_of_heap bZ_14 1
      have cZ2 := cell_of_heap bZ_14 2
      have lZ := heap_lt bZ_14
      refine hK.out _ _ ?_ (fun hHeld2 => ?_)
      · exact ⟨cA0, cA1, cA2, cB0, cB1, cB2, cX0, cX1, cX2, cZ0, cZ1, cZ2⟩
      clear hK K hHeld
      have hHeld := hHeld2
      clear hHeld2
      try simp only [Act.put, List.getElem_toArray, List.getElem_cons_zero, List.getElem_cons_succ, List.setIfInBounds_toArray, List.set_cons_zero, List.set_cons_succ]
      refine wpAnyH_ready (rs := [3]) (by kernel_rfl) (by simp) ?_
      refine AllReadyH.cons rfl (fun K hK => ?_) AllReadyH.nil
      go_simp
      clear cA0 cA1 cA2 lA cB0 cB1 cB2 lB cX0 cX1 cX2 lX cZ0 cZ1 cZ2 lZ
      refine (PgmF.eqProgram1 (oXa_14.out.reads) (oXb_14.out.reads) (oXc_14.out.r.mono (Nat.le_refl _) (by omega)) oCa_14.out oCb_14.out oCc_14.out (by omega) (by omega)).mono ?_
      rintro e w15 ⟨rfl, hn15⟩
      have z15 : w14.heap.size ≤ w15.heap.size := hn15.size
      have bA_15 := (hn15.block _ (heap_lt bA_14) (fun f => f)).trans bA_14
      have bB_15 := (hn15.block _ (heap_lt bB_14) (fun f => f)).trans bB_14
      have bX_15 := (hn15.block _ (heap_lt bX_14) (fun f => f)).trans bX_14
      have bZ_15 := (hn15.block _ (heap_lt bZ_14) (fun f => f)).trans bZ_14
      have oW_15 := Lib.hid (oW_14.out.new (by omega) hn15)
      have oXa_15 := Lib.hid (oXa_14.out.new hn15)
      have oXb_15 := Lib.hid (oXb_14.out.new hn15)
      have oXc_15 := Lib.hid (oXc_14.out.new (by omega) hn15)
      have oZ_15 := Lib.hid (oZ_14.out.new (by omega) hn15)
      have oG_15 := Lib.hid (oG_14.out.new hn15)
      have oCa_15 := Lib.hid (oCa_14.out.new (by omega) hn15)
      have oCb_15 := Lib.hid (oCb_14.out.new (by omega) hn15)
      have oCc_15 := Lib.hid (oCc_14.out.new (by omega) hn15)
      have N15 : New w w15 := N14.trans hn15
      clear bA_14 bB_14 bX_14 bZ_14 oW_14 oXa_14 oXb_14 oXc_14 oZ_14 oG_14 oCa_14 oCb_14 oCc_14 N14 hn15
      have cA0 := cell_of_heap bA_15 0
      have cA1 := cell_of_heap bA_15 1
      have cA2 := cell_of_heap bA_15 2
      have lA := heap_lt bA_15
      have cB0 := cell_of_heap bB_15 0
      have cB1 := cell_of_heap bB_15 1
      have cB2 := cell_of_heap bB_15 2
      have lB := heap_lt bB_15
      have cX0 := cell_of_heap bX_15 0
      have cX1 := cell_of_heap bX_15 1
      have cX2 := cell_of_heap bX_15 2
      have lX := heap_lt bX_15
      have cZ0 := cell_of_heap bZ_15 0
      have cZ1 := cell_of_heap bZ_15 1
      have cZ2 := cell_of_heap bZ_15 2
      have lZ := heap_lt bZ_15
      refine hK.out _ _ ?_ (fun hHeld2 => ?_)
      · exact ⟨cA0, cA1, cA2, cB0, cB1, cB2, cX0, cX1, cX2, cZ0, cZ1, cZ2⟩
      clear hK K hHeld
      have hHeld := hHeld2
      clear hHeld2
      try simp only [Act.put, List.getElem_toArray, List.getElem_cons_zero, List.getElem_cons_succ, List.setIfInBounds_toArray, List.set_cons_zero, List.set_cons_succ]
      refine wpAnyH_take (i := 4) (v := ?vcq4) rfl (by kernel_rfl) (by kernel_rfl) (by kernel_rfl) (fun _ _ _ h => h) (Or.inl ⟨by kernel_rfl, ?ycq4⟩) (by assumption) ?rcq4
      case ycq4 =>
        intro w hSw
        try dsimp only at hSw
        go_simp
        try with_reducible rfl
      try simp only [Act.put, List.getElem_toArray, List.getElem_cons_zero, List.getElem_cons_succ, List.setIfInBounds_toArray, List.set_cons_zero, List.set_cons_succ]
      refine wpAnyH_done (by kernel_rfl) ?_ _
      clear oCa_15
      clear oCb_15
      clear oCc_15
      clear cA0 cA1 cA2 lA cB0 cB1 cB2 lB cX0 cX1 cX2 lX cZ0 cZ1 cZ2 lZ
      have cA0 := cell_of_heap bA_15 0
      have cA1 := cell_of_heap bA_15 1
      have cA2 := cell_of_heap bA_15 2
      have lA := heap_lt bA_15
      have cB0 := cell_of_heap bB_15 0
      have cB1 := cell_of_heap bB_15 1
      have cB2 := cell_of_heap bB_15 2
      have lB := heap_lt bB_15
      have cX0 := cell_of_heap bX_15 0
      have cX1 := cell_of_heap bX_15 1
      have cX2 := cell_of_heap bX_15 2
      have lX := heap_lt bX_15
      have cZ0 := cell_of_heap bZ_15 0
      have cZ1 := cell_of_heap bZ_15 1
      have cZ2 := cell_of_heap bZ_15 2
      have lZ := heap_lt bZ_15
      go_upto_region 16 with fail
      clear cA0 cA1 cA2 lA cB0 cB1 cB2 lB cX0 cX1 cX2 lX cZ0 cZ1 cZ2 lZ
      have cA0 := cell_of_heap bA_15 0
      have cA1 := cell_of_heap bA_15 1
      have cA2 := cell_of_heap bA_15 2
      have lA := heap_lt bA_15
      have cB0 := cell_of_heap bB_15 0
      have cB1 := cell_of_heap bB_15 1
      have cB2 := cell_of_heap bB_15 2
      have lB := heap_lt bB_15
      have cX0 := cell_of_heap bX_15 0
      have cX1 := cell_of_heap bX_15 1
      have cX2 := cell_of_heap bX_15 2
      have lX := heap_lt bX_15
      have cZ0 := cell_of_heap bZ_15 0
      have cZ1 := cell_of_heap bZ_15 1
      have cZ2 := cell_of_heap bZ_15 2
      have lZ := heap_lt bZ_15
      refine wp_region_held_drew (S := fun w' => w'.cell? ⟨w.heap.size, 0, none⟩ = some (ta0) ∧ w'.cell? ⟨w.heap.size, 1, none⟩ = some (tb0) ∧ w'.cell? ⟨w.heap.size, 2, none⟩ = some (tc0) ∧ w'.cell? ⟨w.heap.size + 1, 0, none⟩ = some (.int .i64 k1) ∧ w'.cell? ⟨w.heap.size + 1, 1, none⟩ = some (.int .i64 u1) ∧ w'.cell? ⟨w.heap.size + 1, 2, none⟩ = some (t1) ∧ w'.cell? ⟨bX, 0, none⟩ = some (.slice aXa xa0.length dXa) ∧ w'.cell? ⟨bX, 1, none⟩ = some (.slice aXb xb0.length dXb) ∧ w'.cell? ⟨bX, 2, none⟩ = some (.slice aXc x0.length dXc) ∧ w'.cell? ⟨bZ, 0, none⟩ = some (.int .i64 k1) ∧ w'.cell? ⟨bZ, 1, none⟩ = some (.int .i64 u1) ∧ w'.cell? ⟨bZ, 2, none⟩ = some (.slice aZ x1.length dZ)) (by kernel_rfl) ?_ (fun hHeld => ?_)
      · exact ⟨cA0, cA1, cA2, cB0, cB1, cB2, cX0, cX1, cX2, cZ0, cZ1, cZ2⟩
      clear cA0 cA1 cA2 lA cB0 cB1 cB2 lB cX0 cX1 cX2 lX cZ0 cZ1 cZ2 lZ
      have hn16 : New w15 w15.drew := (Kp.refl _ _).drew
      generalize w15.drew = w16 at *
      have z16 : w15.heap.size ≤ w16.heap.size := hn16.size
      have bA_16 := (hn16.block _ (heap_lt bA_15) (fun f => f)).trans bA_15
      have bB_16 := (hn16.block _ (heap_lt bB_15) (fun f => f)).trans bB_15
      have bX_16 := (hn16.block _ (heap_lt bX_15) (fun f => f)).trans bX_15
      have bZ_16 := (hn16.block _ (heap_lt bZ_15) (fun f => f)).trans bZ_15
      have oW_16 := Lib.hid (oW_15.out.new (by omega) hn16)
      have oXa_16 := Lib.hid (oXa_15.out.new hn16)
      have oXb_16 := Lib.hid (oXb_15.out.new hn16)
      have oXc_16 := Lib.hid (oXc_15.out.new (by omega) hn16)
      have oZ_16 := Lib.hid (oZ_15.out.new (by omega) hn16)
      have oG_16 := Lib.hid (oG_15.out.new hn16)
      have N16 : New w w16 := N15.trans hn16
      clear bA_15 bB_15 bX_15 bZ_15 oW_15 oXa_15 oXb_15 oXc_15 oZ_15 oG_15 N15 hn16
      have cA0 := cell_of_heap bA_16 0
      have cA1 := cell_of_heap bA_16 1
      have cA2 := cell_of_heap bA_16 2
      have lA := heap_lt bA_16
      have cB0 := cell_of_heap bB_16 0
      have cB1 := cell_of_heap bB_16 1
      have cB2 := cell_of_heap bB_16 2
      have lB := heap_lt bB_16
      have cX0 := cell_of_heap bX_16 0
      have cX1 := cell_of_heap bX_16 1
      have cX2 := cell_of_heap bX_16 2
      have lX := heap_lt bX_16
      have cZ0 := cell_of_heap bZ_16 0
      have cZ1 := cell_of_heap bZ_16 1
      have cZ2 := cell_of_heap bZ_16 2
      have lZ := heap_lt bZ_16
      refine wpAnyH_take (i := 0) (v := ?vdq0) rfl (by kernel_rfl) (by kernel_rfl) (by kernel_rfl) (fun _ _ _ h => h) (Or.inl ⟨by kernel_rfl, ?ydq0⟩) (by assumption) ?rdq0
      case ydq0 =>
        intro w hSw
        try dsimp only at hSw
        go_simp
        try with_reducible rfl
      try simp only [Act.put, List.getElem_toArray, List.getElem_cons_zero, List.setIfInBounds_toArray, List.set_cons_zero, List.set_cons_succ]
      refine wpAnyH_take (i := 1) (v := ?vdq1) rfl (by kernel_rfl) (by kernel_rfl) (by kernel_rfl) (fun _ _ _ h => h) (Or.inl ⟨by kernel_rfl, ?ydq1⟩) (by assumption) ?rdq1
      case ydq1 =>
        intro w hSw
        try dsimp only at hSw
        go_simp
        try with_reducible rfl
      try simp only [Act.put, List.getElem_toArray, List.getElem_cons_zero, List.getElem_cons_succ, List.setIfInBounds_toArray, List.set_cons_zero, List.set_cons_succ]
      refine wpAnyH_ready (rs := [2]) (by kernel_rfl) (by simp) ?_
      refine AllReadyH.cons rfl (fun K hK => ?_) AllReadyH.nil
      go_simp
      clear cA0 cA1 cA2 lA cB0 cB1 cB2 lB cX0 cX1 cX2 lX cZ0 cZ1 cZ2 lZ
      refine (ToE.toExpr _ 0 w.heap.size _ _ _ _ (by omega) (s1.new (Nat.le_refl _) N16) (by omega)).mono ?_
      rintro e w17 ⟨vD, rfl, hn17, hD⟩
      have z17 : w16.heap.size ≤ w17.heap.size := hn17.size
      have bA_17 := (hn17.block _ (heap_lt bA_16) (fun f => f)).trans bA_16
      have bB_17 := (hn17.block _ (heap_lt bB_16) (fun f => f)).trans bB_16
      have bX_17 := (hn17.block _ (heap_lt bX_16) (fun f => f)).trans bX_16
      have bZ_17 := (hn17.block _ (heap_lt bZ_16) (fun f => f)).trans bZ_16
      have oW_17 := Lib.hid (oW_16.out.new (by omega) hn17)
      have oXa_17 := Lib.hid (oXa_16.out.new hn17)
      have oXb_17 := Lib.hid (oXb_16.out.new hn17)
      have oXc_17 := Lib.hid (oXc_16.out.new (by omega) hn17)
      have oZ_17 := Lib.hid (oZ_16.out.new (by omega) hn17)
      have oG_17 := Lib.hid (oG_16.out.new hn17)
      have N17 : New w w17 := N16.trans hn17
      clear bA_16 bB_16 bX_16 bZ_16 oW_16 oXa_16 oXb_16 oXc_16 oZ_16 oG_16 N16 hn17
      obtain ⟨aD, dD, rfl, _⟩ := hD.len
      have oD_17 := Lib.hid hD
      clear hD
      have cA0 := cell_of_heap bA_17 0
      have cA1 := cell_of_heap bA_17 1
      have cA2 := cell_of_heap bA_17 2
      have lA := heap_lt bA_17
      have cB0 := cell_of_heap bB_17 0
      have cB1 := cell_of_heap bB_17 1
      have cB2 := cell_of_heap bB_17 2
      have lB := heap_lt bB_17
      have cX0 := cell_of_heap bX_17 0
      have cX1 := cell_of_heap bX_17 1
      have cX2 := cell_of_heap bX_17 2
      have lX := heap_lt bX_17
      have cZ0 := cell_of_heap bZ_17 0
      have cZ1 := cell_of_heap bZ_17 1
      have cZ2 := cell_of_heap bZ_17 2
      have lZ := heap_lt bZ_17
      refine hK.out _ _ ?_ (fun hHeld2 => ?_)
      · exact ⟨cA0, cA1, cA2, cB0, cB1, cB2, cX0, cX1, cX2, cZ0, cZ1, cZ2⟩
      clear hK K hHeld
      have hHeld := hHeld2
      clear hHeld2
      try simp only [Act.put, List.getElem_toArray, List.getElem_cons_zero, List.getElem_cons_succ, List.setIfInBounds_toArray, List.set_cons_zero, List.set_cons_succ]
      refine wpAnyH_ready (rs := [3]) (by kernel_rfl) (by simp) ?_
      refine AllReadyH.cons rfl (fun K hK => ?_) AllReadyH.nil
      go_simp
      clear cA0 cA1 cA2 lA cB0 cB1 cB2 lB cX0 cX1 cX2 lX cZ0 cZ1 cZ2 lZ
      refine (eqE1 oZ_17.out.r oD_17.out (by omega) (by omega)).mono ?_
      rintro e w18 ⟨rfl, hn18⟩
      have z18 : w17.heap.size ≤ w18.heap.size := hn18.size
      have bA_18 := (hn18.block _ (heap_lt bA_17) (fun f => f)).trans bA_17
      have bB_18 := (hn18.block _ (heap_lt bB_17) (fun f => f)).trans bB_17
      have bX_18 := (hn18.block _ (heap_lt bX_17) (fun f => f)).trans bX_17
      have bZ_18 := (hn18.block _ (heap_lt bZ_17) (fun f => f)).trans bZ_17
      have oW_18 := Lib.hid (oW_17.out.new (by omega) hn18)
      have oXa_18 := Lib.hid (oXa_17.out.new hn18)
      have oXb_18 := Lib.hid (oXb_17.out.new hn18)
      have oXc_18 := Lib.hid (oXc_17.out.new (by omega) hn18)
      have oZ_18 := Lib.hid (oZ_17.out.new (by omega) hn18)
      have oG_18 := Lib.hid (oG_17.out.new hn18)
      have oD_18 := Lib.hid (oD_17.out.new (by omega) hn18)
      have N18 : New w w18 := N17.trans hn18
      clear bA_17 bB_17 bX_17 bZ_17 oW_17 oXa_17 oXb_17 oXc_17 oZ_17 oG_17 oD_17 N17 hn18
      have cA0 := cell_of_heap bA_18 0
      have cA1 := cell_of_heap bA_18 1
      have cA2 := cell_of_heap bA_18 2
      have lA := heap_lt bA_18
      have cB0 := cell_of_heap bB_18 0
      have cB1 := cell_of_heap bB_18 1
      have cB2 := cell_of_heap bB_18 2
      have lB := heap_lt bB_18
      have cX0 := cell_of_heap bX_18 0
      have cX1 := cell_of_heap bX_18 1
      have cX2 := cell_of_heap bX_18 2
      have lX := heap_lt bX_18
      have cZ0 := cell_of_heap bZ_18 0
      have cZ1 := cell_of_heap bZ_18 1
      have cZ2 := cell_of_heap bZ_18 2
      have lZ := heap_lt bZ_18
      refine hK.out _ _ ?_ (fun hHeld2 => ?_)
      · exact ⟨cA0, cA1, cA2, cB0, cB1, cB2, cX0, cX1, cX2, cZ0, cZ1, cZ2⟩
      clear hK K hHeld
      have hHeld := hHeld2
      clear hHeld2
      try simp only [Act.put, List.getElem_toArray, List.getElem_cons_zero, List.getElem_cons_succ, List.setIfInBounds_toArray, List.set_cons_zero, List.set_cons_succ]
      refine wpAnyH_take (i := 4) (v := ?vdq4) rfl (by kernel_rfl) (by kernel_rfl) (by kernel_rfl) (fun _ _ _ h => h) (Or.inl ⟨by kernel_rfl, ?ydq4⟩) (by assumption) ?rdq4
      case ydq4 =>
        intro w hSw
        try dsimp only at hSw
        go_simp
        try with_reducible rfl
      try simp only [Act.put, List.getElem_toArray, List.getElem_cons_zero, List.getElem_cons_succ, List.setIfInBounds_toArray, List.set_cons_zero, List.set_cons_succ]
      refine wpAnyH_done (by kernel_rfl) ?_ _
      clear oD_18
      clear cA0 cA1 cA2 lA cB0 cB1 cB2 lB cX0 cX1 cX2 lX cZ0 cZ1 cZ2 lZ
      have cA0 := cell_of_heap bA_18 0
      have cA1 := cell_of_heap bA_18 1
      have cA2 := cell_of_heap bA_18 2
      have lA := heap_lt bA_18
      have cB0 := cell_of_heap bB_18 0
      have cB1 := cell_of_heap bB_18 1
      have cB2 := cell_of_heap bB_18 2
      have lB := heap_lt bB_18
      have cX0 := cell_of_heap bX_18 0
      have cX1 := cell_of_heap bX_18 1
      have cX2 := cell_of_heap bX_18 2
      have lX := heap_lt bX_18
      have cZ0 := cell_of_heap bZ_18 0
      have cZ1 := cell_of_heap bZ_18 1
      have cZ2 := cell_of_heap bZ_18 2
      have lZ := heap_lt bZ_18
      go_wp2_with fail
      clear cA0 cA1 cA2 lA cB0 cB1 cB2 lB cX0 cX1 cX2 lX cZ0 cZ1 cZ2 lZ
      have habd := Lib.hid (show ∀ b, (Value.slice aXa xa0.length dXa).ownBlock = some b → (Value.slice aXb xb0.length dXb).ownBlock ≠ some b from hseph.out)
      refine (MkU.markProgram (base := w6.heap.size) (hi := w7.heap.size) (k := 1) oXa_18.out oXb_18.out (oXc_18.out.k) habd.out habX.out hbbX.out (by omega) (by omega) (by omega) (by omega) (by omega) (by omega)).mono ?_
      rintro e w19 ⟨k2, rfl, hk20, hk21, hk19⟩
      clear oXa_18
      clear oXb_18
      clear oXc_18
      have z19 : w18.heap.size ≤ w19.heap.size := hk19.size
      have bA_19 := (hk19.block _ (heap_lt bA_18) (by omega)).trans bA_18
      have bB_19 := (hk19.block _ (heap_lt bB_18) (by omega)).trans bB_18
      have bX_19 := (hk19.block _ (heap_lt bX_18) (by omega)).trans bX_18
      have bZ_19 := (hk19.block _ (heap_lt bZ_18) (by omega)).trans bZ_18
      have oW_19 := Lib.hid (oW_18.out.kp hk19 (by omega) (fun b e => by omega))
      have oZ_19 := Lib.hid (oZ_18.out.kp hk19 (by omega) (fun b e => by omega))
      have oG_19 := Lib.hid (oG_18.out.kp hk19 (fun b hb e => by have h1 := oG_18.out.lt b hb; omega))
      have N19 : New w w19 := New.on N18 hk19 (fun i e => by omega)
      clear bA_18 bB_18 bX_18 bZ_18 oW_18 oZ_18 oG_18 N18 hk19
      have cA0 := cell_of_heap bA_19 0
      have cA1 := cell_of_heap bA_19 1
      have cA2 := cell_of_heap bA_19 2
      have lA := heap_lt bA_19
      have cB0 := cell_of_heap bB_19 0
      have cB1 := cell_of_heap bB_19 1
      have cB2 := cell_of_heap bB_19 2
      have lB := heap_lt bB_19
      have cX0 := cell_of_heap bX_19 0
      have cX1 := cell_of_heap bX_19 1
      have cX2 := cell_of_heap bX_19 2
      have lX := heap_lt bX_19
      have cZ0 := cell_of_heap bZ_19 0
      have cZ1 := cell_of_heap bZ_19 1
      have cZ2 := cell_of_heap bZ_19 2
      have lZ := heap_lt bZ_19
      go_wp2_with fail
      clear cA0 cA1 cA2 lA cB0 cB1 cB2 lB cX0 cX1 cX2 lX cZ0 cZ1 cZ2 lZ
      refine (MkU.markExpr (lo := w8.heap.size) (hi := w9.heap.size) (k := k2) (oZ_19.out.k) (by omega) (by omega) (by omega) (by omega)).mono ?_
      rintro e w20 ⟨k3, rfl, hk30, hk31, hk20, -⟩
      clear oZ_19
      have z20 : w19.heap.size ≤ w20.heap.size := hk20.size
      have bA_20 := (hk20.block _ (heap_lt bA_19) (by omega)).trans bA_19
      have bB_20 := (hk20.block _ (heap_lt bB_19) (by omega)).trans bB_19
      have bX_20 := (hk20.block _ (heap_lt bX_19) (by omega)).trans bX_19
      have bZ_20 := (hk20.block _ (heap_lt bZ_19) (by omega)).trans bZ_19
      have oW_20 := Lib.hid (oW_19.out.kp hk20 (by omega) (fun b e => by omega))
      have oG_20 := Lib.hid (oG_19.out.kp hk20 (fun b hb e => by have h1 := oG_19.out.lt b hb; omega))
      have N20 : New w w20 := New.on N19 hk20 (fun i e => by omega)
      clear bA_19 bB_19 bX_19 bZ_19 oW_19 oG_19 N19 hk20
      have hk3n : (0 : Int) ≤ k3 := by omega
      clear bX_20
      clear bZ_20
      have cA0 := cell_of_heap bA_20 0
      have cA1 := cell_of_heap bA_20 1
      have cA2 := cell_of_heap bA_20 2
      have lA := heap_lt bA_20
      have cB0 := cell_of_heap bB_20 0
      have cB1 := cell_of_heap bB_20 1
      have cB2 := cell_of_heap bB_20 2
      have lB := heap_lt bB_20
      go_wp2_with fail
      clear cA0 cA1 cA2 lA cB0 cB1 cB2 lB
      refine (LawF.eqInstrS _ _ _ _ _ _ _ _ _ (oG_20.out.reads) oW_20.out (by omega) (by omega)).mono ?_
      rintro e w21 ⟨rfl, hn21⟩
      have z21 : w20.heap.size ≤ w21.heap.size := hn21.size
      have bA_21 := (hn21.block _ (heap_lt bA_20) (fun f => f)).trans bA_20
      have bB_21 := (hn21.block _ (heap_lt bB_20) (fun f => f)).trans bB_20
      have oW_21 := Lib.hid (oW_20.out.new (by omega) hn21)
      have oG_21 := Lib.hid (oG_20.out.new hn21)
      have N21 : New w w21 := N20.trans hn21
      clear bA_20 bB_20 oW_20 oG_20 N20 hn21
      rw [decide_eq_true rfl]
      have cA0 := cell_of_heap bA_21 0
      have cA1 := cell_of_heap bA_21 1
      have cA2 := cell_of_heap bA_21 2
      have lA := heap_lt bA_21
      have cB0 := cell_of_heap bB_21 0
      have cB1 := cell_of_heap bB_21 1
      have cB2 := cell_of_heap bB_21 2
      have lB := heap_lt bB_21
      go_upto_region 24 with fail
      clear cA0 cA1 cA2 lA cB0 cB1 cB2 lB
      have cA0 := cell_of_heap bA_21 0
      have cA1 := cell_of_heap bA_21 1
      have cA2 := cell_of_heap bA_21 2
      have lA := heap_lt bA_21
      have cB0 := cell_of_heap bB_21 0
      have cB1 := cell_of_heap bB_21 1
      have cB2 := cell_of_heap bB_21 2
      have lB := heap_lt bB_21
      go_wp2_with fail
      clear cA0 cA1 cA2 lA cB0 cB1 cB2 lB
      have hG1 := Lib.hid oG_21.out.lt
      refine (LawF.markInstrS _ _ _ Y 1 oG_21.out (by omega) (by omega) (by omega)).mono ?_
      rintro e w22 ⟨rfl, hk22, hG2⟩
      have hkk : Kp (fun b => w10.heap.size ≤ b) w21 w22 := hk22.mono fun b _ e => (hG1.out b e).1
      clear hk22
      have hk22 := hkk
      clear hkk
      clear oG_21
      have z22 : w21.heap.size ≤ w22.heap.size := hk22.size
      have bA_22 := (hk22.block _ (heap_lt bA_21) (by omega)).trans bA_21
      have bB_22 := (hk22.block _ (heap_lt bB_21) (by omega)).trans bB_21
      have oW_22 := Lib.hid (oW_21.out.kp hk22 (by omega) (fun b e => by omega))
      have N22 : New w w22 := New.on N21 hk22 (fun i e => by omega)
      clear bA_21 bB_21 oW_21 N21 hk22
      have oG_22 := Lib.hid hG2
      clear hG2
      have cA0 := cell_of_heap bA_22 0
      have cA1 := cell_of_heap bA_22 1
      have cA2 := cell_of_heap bA_22 2
      have lA := heap_lt bA_22
      have cB0 := cell_of_heap bB_22 0
      have cB1 := cell_of_heap bB_22 1
      have cB2 := cell_of_heap bB_22 2
      have lB := heap_lt bB_22
      go_wp2_with fail
      clear cA0 cA1 cA2 lA cB0 cB1 cB2 lB
      refine (LawF.heldInstrS _ _ _ _ Y.length 1 oG_22.out.reads (by omega) (by omega) (by omega)).mono ?_
      rintro e w' ⟨rfl, rfl⟩
      have cA0 := cell_of_heap bA_22 0
      have cA1 := cell_of_heap bA_22 1
      have cA2 := cell_of_heap bA_22 2
      have lA := heap_lt bA_22
      have cB0 := cell_of_heap bB_22 0
      have cB1 := cell_of_heap bB_22 1
      have cB2 := cell_of_heap bB_22 2
      have lB := heap_lt bB_22
      have hYp : (0 : Int) ≤ 1 + 5 * (Y.length : Int) := by omega
      go_upto_region 31 with fail
      clear cA0 cA1 cA2 lA cB0 cB1 cB2 lB
      have cA0 := cell_of_heap bA_22 0
      have cA1 := cell_of_heap bA_22 1
      have cA2 := cell_of_heap bA_22 2
      have lA := heap_lt bA_22
      have cB0 := cell_of_heap bB_22 0
      have cB1 := cell_of_heap bB_22 1
      have cB2 := cell_of_heap bB_22 2
      have lB := heap_lt bB_22
      refine wp_region_held_drew (S := fun w' => w'.cell? ⟨w.heap.size, 0, none⟩ = some (ta0) ∧ w'.cell? ⟨w.heap.size, 1, none⟩ = some (tb0) ∧ w'.cell? ⟨w.heap.size, 2, none⟩ = some (tc0) ∧ w'.cell? ⟨w.heap.size + 1, 0, none⟩ = some (.int .i64 k1) ∧ w'.cell? ⟨w.heap.size + 1, 1, none⟩ = some (.int .i64 u1) ∧ w'.cell? ⟨w.heap.size + 1, 2, none⟩ = some (t1)) (by kernel_rfl) ?_ (fun hHeld => ?_)
      · exact ⟨cA0, cA1, cA2, cB0, cB1, cB2⟩
      clear cA0 cA1 cA2 lA cB0 cB1 cB2 lB
      have hn23 : New w22 w22.drew := (Kp.refl _ _).drew
      generalize w22.drew = w23 at *
      have z23 : w22.heap.size ≤ w23.heap.size := hn23.size
      have bA_23 := (hn23.block _ (heap_lt bA_22) (fun f => f)).trans bA_22
      have bB_23 := (hn23.block _ (heap_lt bB_22) (fun f => f)).trans bB_22
      have oW_23 := Lib.hid (oW_22.out.new (by omega) hn23)
      have oG_23 := Lib.hid (oG_22.out.new hn23)
      have N23 : New w w23 := N22.trans hn23
      clear bA_22 bB_22 oW_22 oG_22 N22 hn23
      have cA0 := cell_of_heap bA_23 0
      have cA1 := cell_of_heap bA_23 1
      have cA2 := cell_of_heap bA_23 2
      have lA := heap_lt bA_23
      have cB0 := cell_of_heap bB_23 0
      have cB1 := cell_of_heap bB_23 1
      have cB2 := cell_of_heap bB_23 2
      have lB := heap_lt bB_23
      refine wpAnyH_take (i := 0) (v := ?veq0) rfl (by kernel_rfl) (by kernel_rfl) (by kernel_rfl) (fun _ _ _ h => h) (Or.inl ⟨by kernel_rfl, ?yeq0⟩) (by assumption) ?req0
      case yeq0 =>
        intro w hSw
        try dsimp only at hSw
        go_simp
        try with_reducible rfl
      try simp only [Act.put, List.getElem_toArray, List.getElem_cons_zero, List.setIfInBounds_toArray, List.set_cons_zero, List.set_cons_succ]
      refine wpAnyH_take (i := 2) (v := ?veq2) rfl (by kernel_rfl) (by kernel_rfl) (by kernel_rfl) (fun _ _ _ h => h) (Or.inl ⟨by kernel_rfl, ?yeq2⟩) (by assumption) ?req2
      case yeq2 =>
        intro w hSw
        try dsimp only at hSw
        go_simp
        try with_reducible rfl
      try simp only [Act.put, List.getElem_toArray, List.getElem_cons_zero, List.getElem_cons_succ, List.setIfInBounds_toArray, List.set_cons_zero, List.set_cons_succ]
      refine wpAnyH_ready (rs := [1]) (by kernel_rfl) (by simp) ?_
      refine AllReadyH.cons rfl (fun K hK => ?_) AllReadyH.nil
      go_simp
      clear cA0 cA1 cA2 lA cB0 cB1 cB2 lB
      refine (PgmF.toProgram _ 0 w.heap.size _ _ _ _ _ _ (sa0.new (Nat.le_refl _) N23) (sb0.new (Nat.le_refl _) N23) (s0.new (Nat.le_refl _) N23) (by omega) (by omega) (by omega) (by omega)).mono ?_
      rintro e w24 ⟨vEa, vEb, vEc, rfl, hn24, hEa, hEb, hEc⟩
      have z24 : w23.heap.size ≤ w24.heap.size := hn24.size
      have bA_24 := (hn24.block _ (heap_lt bA_23) (fun f => f)).trans bA_23
      have bB_24 := (hn24.block _ (heap_lt bB_23) (fun f => f)).trans bB_23
      have oW_24 := Lib.hid (oW_23.out.new (by omega) hn24)
      have oG_24 := Lib.hid (oG_23.out.new hn24)
      have N24 : New w w24 := N23.trans hn24
      clear bA_23 bB_23 oW_23 oG_23 N23 hn24
      obtain ⟨aEa, dEa, rfl, _⟩ := hEa.len
      have oEa_24 := Lib.hid hEa
      clear hEa
      obtain ⟨aEb, dEb, rfl, _⟩ := hEb.len
      have oEb_24 := Lib.hid hEb
      clear hEb
      obtain ⟨aEc, dEc, rfl, _⟩ := hEc.len
      have oEc_24 := Lib.hid hEc
      clear hEc
      have cA0 := cell_of_heap bA_24 0
      have cA1 := cell_of_heap bA_24 1
      have cA2 := cell_of_heap bA_24 2
      have lA := heap_lt bA_24
      have cB0 := cell_of_heap bB_24 0
      have cB1 := cell_of_heap bB_24 1
      have cB2 := cell_of_heap bB_24 2
      have lB := heap_lt bB_24
      refine hK.out _ _ ?_ (fun hHeld2 => ?_)
      · exact ⟨cA0, cA1, cA2, cB0, cB1, cB2⟩
      clear hK K hHeld
      have hHeld := hHeld2
      clear hHeld2
      try simp only [Act.put, List.getElem_toArray, List.getElem_cons_zero, List.getElem_cons_succ, List.setIfInBounds_toArray, List.set_cons_zero, List.set_cons_succ]
      refine wpAnyH_ready (rs := [3]) (by kernel_rfl) (by simp) ?_
      refine AllReadyH.cons rfl (fun K hK => ?_) AllReadyH.nil
      go_simp
      clear cA0 cA1 cA2 lA cB0 cB1 cB2 lB
      refine (ToE.toExpr _ 0 w.heap.size _ _ _ _ (by omega) (s1.new (Nat.le_refl _) N24) (by omega)).mono ?_
      rintro e w25 ⟨vF, rfl, hn25, hF⟩
      have z25 : w24.heap.size ≤ w25.heap.size := hn25.size
      have bA_25 := (hn25.block _ (heap_lt bA_24) (fun f => f)).trans bA_24
      have bB_25 := (hn25.block _ (heap_lt bB_24) (fun f => f)).trans bB_24
      have oW_25 := Lib.hid (oW_24.out.new (by omega) hn25)
      have oG_25 := Lib.hid (oG_24.out.new hn25)
      have oEa_25 := Lib.hid (oEa_24.out.new (by omega) hn25)
      have oEb_25 := Lib.hid (oEb_24.out.new (by omega) hn25)
      have oEc_25 := Lib.hid (oEc_24.out.new (by omega) hn25)
      have N25 : New w w25 := N24.trans hn25
      clear bA_24 bB_24 oW_24 oG_24 oEa_24 oEb_24 oEc_24 N24 hn25
      obtain ⟨aF, dF, rfl, _⟩ := hF.len
      have oF_25 := Lib.hid hF
      clear hF
      have cA0 := cell_of_heap bA_25 0
      have cA1 := cell_of_heap bA_25 1
      have cA2 := cell_of_heap bA_25 2
      have lA := heap_lt bA_25
      have cB0 := cell_of_heap bB_25 0
      have cB1 := cell_of_heap bB_25 1
      have cB2 := cell_of_heap bB_25 2
      have lB := heap_lt bB_25
      refine hK.out _ _ ?_ (fun hHeld2 => ?_)
      · exact ⟨cA0, cA1, cA2, cB0, cB1, cB2⟩
      clear hK K hHeld
      have hHeld := hHeld2
      clear hHeld2
      try simp only [Act.put, List.getElem_toArray, List.getElem_cons_zero, List.getElem_cons_succ, List.setIfInBounds_toArray, List.set_cons_zero, List.set_cons_succ]
      refine wpAnyH_ready (rs := [4]) (by kernel_rfl) (by simp) ?_
      refine AllReadyH.cons rfl (fun K hK => ?_) AllReadyH.nil
      go_simp
      clear cA0 cA1 cA2 lA cB0 cB1 cB2 lB
      refine (CmpK.implX (xa := xa0) (xb := xb0) (k := k1) (v := u1) (ks := x1) oEa_25.out oEb_25.out ⟨_, _, _, rfl⟩ oF_25.out (by omega) (by omega) (by omega)).mono ?_
      rintro e w26 ⟨uH, rfl, hn26, hH⟩
      have z26 : w25.heap.size ≤ w26.heap.size := hn26.size
      have bA_26 := (hn26.block _ (heap_lt bA_25) (fun f => f)).trans bA_25
      have bB_26 := (hn26.block _ (heap_lt bB_25) (fun f => f)).trans bB_25
      have oW_26 := Lib.hid (oW_25.out.new (by omega) hn26)
      have oG_26 := Lib.hid (oG_25.out.new hn26)
      have oEa_26 := Lib.hid (oEa_25.out.new (by omega) hn26)
      have oEb_26 := Lib.hid (oEb_25.out.new (by omega) hn26)
      have oEc_26 := Lib.hid (oEc_25.out.new (by omega) hn26)
      have oF_26 := Lib.hid (oF_25.out.new (by omega) hn26)
      have N26 : New w w26 := N25.trans hn26
      clear bA_25 bB_25 oW_25 oG_25 oEa_25 oEb_25 oEc_25 oF_25 N25 hn26
      rw [hbh.out]
      rw [hbh.out, hYh.out] at hH
      obtain ⟨aH, dH, rfl, _⟩ := hH.reads.len
      have oH_26 := Lib.hid hH
      clear hH
      have cA0 := cell_of_heap bA_26 0
      have cA1 := cell_of_heap bA_26 1
      have cA2 := cell_of_heap bA_26 2
      have lA := heap_lt bA_26
      have cB0 := cell_of_heap bB_26 0
      have cB1 := cell_of_heap bB_26 1
      have cB2 := cell_of_heap bB_26 2
      have lB := heap_lt bB_26
      refine hK.out _ _ ?_ (fun hHeld2 => ?_)
      · exact ⟨cA0, cA1, cA2, cB0, cB1, cB2⟩
      clear hK K hHeld
      have hHeld := hHeld2
      clear hHeld2
      try simp only [Act.put, List.getElem_toArray, List.getElem_cons_zero, List.getElem_cons_succ, List.setIfInBounds_toArray, List.set_cons_zero, List.set_cons_succ]
      refine wpAnyH_take (i := 5) (v := ?veq5) rfl (by kernel_rfl) (by kernel_rfl) (by kernel_rfl) (fun _ _ _ h => h) (Or.inl ⟨by kernel_rfl, ?yeq5⟩) (by assumption) ?req5
      case yeq5 =>
        intro w hSw
        try dsimp only at hSw
        go_simp
        try with_reducible rfl
      try simp only [Act.put, List.getElem_toArray, List.getElem_cons_zero, List.getElem_cons_succ, List.setIfInBounds_toArray, List.set_cons_zero, List.set_cons_succ]
      refine wpAnyH_take (i := 6) (v := ?veq6) rfl (by kernel_rfl) (by kernel_rfl) (by kernel_rfl) (fun _ _ _ h => h) (Or.inl ⟨by kernel_rfl, ?yeq6⟩) (by assumption) ?req6
      case yeq6 =>
        intro w hSw
        try dsimp only at hSw
        go_simp
        try with_reducible rfl
      try simp only [Act.put, List.getElem_toArray, List.getElem_cons_zero, List.getElem_cons_succ, List.setIfInBounds_toArray, List.set_cons_zero, List.set_cons_succ]
      refine wpAnyH_take (i := 7) (v := ?veq7) rfl (by kernel_rfl) (by kernel_rfl) (by kernel_rfl) (fun _ _ _ h => h) (Or.inl ⟨by kernel_rfl, ?yeq7⟩) (by assumption) ?req7
      case yeq7 =>
        intro w hSw
        try dsimp only at hSw
        go_simp
        try with_reducible rfl
      try simp only [Act.put, List.getElem_toArray, List.getElem_cons_zero, List.getElem_cons_succ, List.setIfInBounds_toArray, List.set_cons_zero, List.set_cons_succ]
      refine wpAnyH_take (i := 8) (v := ?veq8) rfl (by kernel_rfl) (by kernel_rfl) (by kernel_rfl) (fun _ _ _ h => h) (Or.inl ⟨by kernel_rfl, ?yeq8⟩) (by assumption) ?req8
      case yeq8 =>
        intro w hSw
        try dsimp only at hSw
        go_simp
        try with_reducible rfl
      try simp only [Act.put, List.getElem_toArray, List.getElem_cons_zero, List.getElem_cons_succ, List.setIfInBounds_toArray, List.set_cons_zero, List.set_cons_succ]
      refine wpAnyH_take (i := 9) (v := ?veq9) rfl (by kernel_rfl) (by kernel_rfl) (by kernel_rfl) (fun _ _ _ h => h) (Or.inl ⟨by kernel_rfl, ?yeq9⟩) (by assumption) ?req9
      case yeq9 =>
        intro w hSw
        try dsimp only at hSw
        go_simp
        try with_reducible rfl
      try simp only [Act.put, List.getElem_toArray, List.getElem_cons_zero, List.getElem_cons_succ, List.setIfInBounds_toArray, List.set_cons_zero, List.set_cons_succ]
      refine wpAnyH_done (by kernel_rfl) ?_ _
      clear oEa_26
      clear oEb_26
      clear oEc_26
      clear oF_26
      clear cA0 cA1 cA2 lA cB0 cB1 cB2 lB
      have cA0 := cell_of_heap bA_26 0
      have cA1 := cell_of_heap bA_26 1
      have cA2 := cell_of_heap bA_26 2
      have lA := heap_lt bA_26
      have cB0 := cell_of_heap bB_26 0
      have cB1 := cell_of_heap bB_26 1
      have cB2 := cell_of_heap bB_26 2
      have lB := heap_lt bB_26
      go_wp2_with fail
      clear cA0 cA1 cA2 lA cB0 cB1 cB2 lB
      refine (LawF.eqInstrS _ _ _ _ _ _ _ _ _ (oH_26.out.reads) oW_26.out (by omega) (by omega)).mono ?_
      rintro e w27 ⟨rfl, hn27⟩
      have z27 : w26.heap.size ≤ w27.heap.size := hn27.size
      have bA_27 := (hn27.block _ (heap_lt bA_26) (fun f => f)).trans bA_26
      have bB_27 := (hn27.block _ (heap_lt bB_26) (fun f => f)).trans bB_26
      have oW_27 := Lib.hid (oW_26.out.new (by omega) hn27)
      have oG_27 := Lib.hid (oG_26.out.new hn27)
      have oH_27 := Lib.hid (oH_26.out.new hn27)
      have N27 : New w w27 := N26.trans hn27
      clear bA_26 bB_26 oW_26 oG_26 oH_26 N26 hn27
      rw [decide_eq_true rfl]
      have cA0 := cell_of_heap bA_27 0
      have cA1 := cell_of_heap bA_27 1
      have cA2 := cell_of_heap bA_27 2
      have lA := heap_lt bA_27
      have cB0 := cell_of_heap bB_27 0
      have cB1 := cell_of_heap bB_27 1
      have cB2 := cell_of_heap bB_27 2
      have lB := heap_lt bB_27
      go_wp2_with fail
      clear cA0 cA1 cA2 lA cB0 cB1 cB2 lB
      refine (LawF.heldInstrS _ _ _ _ Y.length 1 oG_27.out.reads (by omega) (by omega) (by omega)).mono ?_
      rintro e w' ⟨rfl, rfl⟩
      have cA0 := cell_of_heap bA_27 0
      have cA1 := cell_of_heap bA_27 1
      have cA2 := cell_of_heap bA_27 2
      have lA := heap_lt bA_27
      have cB0 := cell_of_heap bB_27 0
      have cB1 := cell_of_heap bB_27 1
      have cB2 := cell_of_heap bB_27 2
      have lB := heap_lt bB_27
      go_wp2
      go_ret
      exact ⟨rfl, N27.toBelow⟩
    · go_enter Try.func6, Try.ntmps6
      go_wp2_with fail
      have N0 : New w ((w.alloc (.cells #[ta0, tb0, tc0] 46)).alloc (.cells #[.int .i64 k1, .int .i64 u1, t1] 49)) := (((Kp.refl _ _).alloc _).alloc _)
      have bA0_0 : ((w.alloc (.cells #[ta0, tb0, tc0] 46)).alloc (.cells #[.int .i64 k1, .int .i64 u1, t1] 49)).heap[w.heap.size]? = some (.cells #[ta0, tb0, tc0] 46) := heap_old (alloc_heap _ _)
      have bA1_0 : ((w.alloc (.cells #[ta0, tb0, tc0] 46)).alloc (.cells #[.int .i64 k1, .int .i64 u1, t1] 49)).heap[w.heap.size + 1]? = some (.cells #[.int .i64 k1, .int .i64 u1, t1] 49) := heap_at (by simp)
      have z0 : w.heap.size + 1 < ((w.alloc (.cells #[ta0, tb0, tc0] 46)).alloc (.cells #[.int .i64 k1, .int .i64 u1, t1] 49)).heap.size := by simp
      generalize ((w.alloc (.cells #[ta0, tb0, tc0] 46)).alloc (.cells #[.int .i64 k1, .int .i64 u1, t1] 49)) = w0 at *
      have bA0_0_c0 := cell_of_heap bA0_0 0
      have bA0_0_c1 := cell_of_heap bA0_0 1
      have bA0_0_c2 := cell_of_heap bA0_0 2
      have bA1_0_c0 := cell_of_heap bA1_0 0
      have bA1_0_c1 := cell_of_heap bA1_0 1
      have bA1_0_c2 := cell_of_heap bA1_0 2
      refine (PgmF.szProgram _ 0 w.heap.size _ _ _ _ _ _ (sa0.new (Nat.le_refl _) N0) (sb0.new (Nat.le_refl _) N0) (s0.new (Nat.le_refl _) N0) (1048576) (by omega) (by omega) (by omega)).mono ?_
      rintro e w1 ⟨rfl, hn1⟩
      have z1 : w0.heap.size ≤ w1.heap.size := hn1.size
      have N1 : New w w1 := N0.trans hn1
      have bA0_1 := heap_new hn1 bA0_0
      have bA1_1 := heap_new hn1 bA1_0
      clear bA0_0_c0 bA0_0_c1 bA0_0_c2 bA1_0_c0 bA1_0_c1 bA1_0_c2
      clear bA0_0 bA1_0 hn1
      rw [szOf_hi (by omega)]
      have bA0_1_c0 := cell_of_heap bA0_1 0
      have bA0_1_c1 := cell_of_heap bA0_1 1
      have bA0_1_c2 := cell_of_heap bA0_1 2
      have bA1_1_c0 := cell_of_heap bA1_1 0
      have bA1_1_c1 := cell_of_heap bA1_1 1
      have bA1_1_c2 := cell_of_heap bA1_1 2
      go_wp2_with fail
      refine (SzE.szExpr _ 0 w.heap.size _ _ _ _ (1048576 - ((xa0.length + (xb0.length + St.sizes x0)) : Nat)) (s1.new (Nat.le_refl _) N1) (by omega) (by omega) (by omega)).mono ?_
      rintro e w2 ⟨rfl, hn2⟩
      have z2 : w1.heap.size ≤ w2.heap.size := hn2.size
      have N2 : New w w2 := N1.trans hn2
      have bA0_2 := heap_new hn2 bA0_1
      have bA1_2 := heap_new hn2 bA1_1
      clear bA0_1_c0 bA0_1_c1 bA0_1_c2 bA1_1_c0 bA1_1_c1 bA1_1_c2
      clear bA0_1 bA1_1 hn2
      rw [szOf_lo (by omega)]
      have bA0_2_c0 := cell_of_heap bA0_2 0
      have bA0_2_c1 := cell_of_heap bA0_2 1
      have bA0_2_c2 := cell_of_heap bA0_2 2
      have bA1_2_c0 := cell_of_heap bA1_2 0
      have bA1_2_c1 := cell_of_heap bA1_2 1
      have bA1_2_c2 := cell_of_heap bA1_2 2
      go_wp2
      go_ret
      exact ⟨rfl, N2.toBelow⟩
  · go_enter Try.func6, Try.ntmps6
    go_wp2_with fail
    have N0 : New w ((w.alloc (.cells #[ta0, tb0, tc0] 46)).alloc (.cells #[.int .i64 k1, .int .i64 u1, t1] 49)) := (((Kp.refl _ _).alloc _).alloc _)
    have bA0_0 : ((w.alloc (.cells #[ta0, tb0, tc0] 46)).alloc (.cells #[.int .i64 k1, .int .i64 u1, t1] 49)).heap[w.heap.size]? = some (.cells #[ta0, tb0, tc0] 46) := heap_old (alloc_heap _ _)
    have bA1_0 : ((w.alloc (.cells #[ta0, tb0, tc0] 46)).alloc (.cells #[.int .i64 k1, .int .i64 u1, t1] 49)).heap[w.heap.size + 1]? = some (.cells #[.int .i64 k1, .int .i64 u1, t1] 49) := heap_at (by simp)
    have z0 : w.heap.size + 1 < ((w.alloc (.cells #[ta0, tb0, tc0] 46)).alloc (.cells #[.int .i64 k1, .int .i64 u1, t1] 49)).heap.size := by simp
    generalize ((w.alloc (.cells #[ta0, tb0, tc0] 46)).alloc (.cells #[.int .i64 k1, .int .i64 u1, t1] 49)) = w0 at *
    have bA0_0_c0 := cell_of_heap bA0_0 0
    have bA0_0_c1 := cell_of_heap bA0_0 1
    have bA0_0_c2 := cell_of_heap bA0_0 2
    have bA1_0_c0 := cell_of_heap bA1_0 0
    have bA1_0_c1 := cell_of_heap bA1_0 1
    have bA1_0_c2 := cell_of_heap bA1_0 2
    refine (PgmF.szProgram _ 0 w.heap.size _ _ _ _ _ _ (sa0.new (Nat.le_refl _) N0) (sb0.new (Nat.le_refl _) N0) (s0.new (Nat.le_refl _) N0) (1048576) (by omega) (by omega) (by omega)).mono ?_
    rintro e w1 ⟨rfl, hn1⟩
    have z1 : w0.heap.size ≤ w1.heap.size := hn1.size
    have N1 : New w w1 := N0.trans hn1
    have bA0_1 := heap_new hn1 bA0_0
    have bA1_1 := heap_new hn1 bA1_0
    clear bA0_0_c0 bA0_0_c1 bA0_0_c2 bA1_0_c0 bA1_0_c1 bA1_0_c2
    clear bA0_0 bA1_0 hn1
    rw [szOf_lo (by omega)]
    have bA0_1_c0 := cell_of_heap bA0_1 0
    have bA0_1_c1 := cell_of_heap bA0_1 1
    have bA0_1_c2 := cell_of_heap bA0_1 2
    have bA1_1_c0 := cell_of_heap bA1_1 0
    have bA1_1_c1 := cell_of_heap bA1_1 1
    have bA1_1_c2 := cell_of_heap bA1_1 2
    go_wp2
    go_ret
    exact ⟨rfl, N1.toBelow⟩
set_option maxRecDepth 100000 in
theorem lifted (os : Os) (started : os.Started) (H : Type) (enc : TypeId × Value → H) :
    ReturnsInHanded {} Try.checked os 6 .any (Rows.fnExactCompileExprSpec.pre6 enc Try.prog Try.f6 Rows.fnExactCompileExprRow.domain false) (Rows.fnExactCompileExprSpec.post enc Try.prog Try.f6 false true false false) := by
  refine returnsInHanded_of_change (C := Try.checked) own started (by kernel_rfl) Try.func6
    (ChangeSpec.witness6 (enc := enc) (C := Try.checked) false ⟨#[], #[.agg #[.slice none 0 0, .slice none 0 0, .slice none 0 0], .agg #[.int .i64 0, .int .i64 0, .slice none 0 0]], []⟩ 8 (by kernel_rfl) (by kernel_rfl) (by kernel_rfl) (by kernel_rfl)) ?_
  intro W base args ds gs before hval0 hW hcnd _
  have hval : ∀ (j : Nat) t v, Try.f6.params[j]? = some t → args[j]? = some v → Value.okWide Try.prog W .any base t v := hval0
  have hW' := hW
  obtain ⟨p, q, hA0, hV, rfl, hfz, hnd⟩ := hW
  have hA : DataW.TrodAll enc Try.prog W 0 (fun _ => true) true Try.f6.params.toList args.toList ds p := hA0
  rw [Try.params6] at hA hval
  obtain ⟨v0, vs0, d0, ds0, p0, q0, hargs, rfl, rfl, h0, r0⟩ := trodAll_cons hA
  obtain ⟨v1, vs1, d1, ds1, p1, q1, rfl, rfl, rfl, h1, r1⟩ := trodAll_cons r0
  obtain ⟨rfl, rfl, rfl⟩ := trodAll_nil r1
  obtain rfl : args = #[v0, v1] := by cases args; simp_all
  obtain ⟨rfl, rfl⟩ := trodVars_none hV
  have kk0 := h0
  have lt0 : ∀ x ∈ p0, x.block < W.heap.size := by obtain ⟨m, hm⟩ := kk0; exact DataW.trod_lt m _ _ _ hm
  obtain ⟨ta0, tb0, tc0, xa0, xb0, x0, rfl, sa0, sb0, s0⟩ := Open.programL (hval 0 46 v0 rfl rfl) h0
  have kk1 := h1
  have lt1 : ∀ x ∈ p1, x.block < W.heap.size := by obtain ⟨m, hm⟩ := kk1; exact DataW.trod_lt m _ _ _ hm
  obtain ⟨k1, u1, t1, x1, rfl, s1⟩ := Open.exprL (hval 1 49 v1 rfl rfl) h1
  clear hA0 hval0
  refine (walk ta0 tb0 tc0 xa0 xb0 x0 k1 u1 t1 x1 W sa0 sb0 s0 s1).mono fun e W' ⟨he, bel⟩ => ?_
  subst he
  exact ⟨_, rfl, _, _, _, [], _, [], hW', trodAll_mk1 (shut_bool Try.underlying4 _), (trodAll_cons_mk (Below.trod laidOut (by kernel_rfl) (of_decide_eq_true (by kernel_rfl)) kk0 bel lt0) (trodAll_cons_mk (Below.trod laidOut (by kernel_rfl) (of_decide_eq_true (by kernel_rfl)) kk1 bel lt1) trodAll_mk0)), rfl, bel.frame _, fun h => by cases h⟩
theorem over : Rows.fnExactCompileExprRow.holds Try.pinned (OpenSpec.ofChange Rows.fnExactCompileExprSpec) :=
  OpenClaim.holds_of_wide 6 Try.f6 rfl rfl rfl rfl rfl rfl rfl ⟨rfl, rfl, rfl, rfl, rfl⟩ rfl rfl rfl rfl rfl (by kernel_rfl) Try.func6 (by kernel_rfl)
    (of_decide_eq_true (by kernel_rfl)) (by unfold Func.isWrapper; first | (rw [if_pos (by decide +kernel)]; kernel_rfl) | (rw [if_neg (by decide +kernel)]; exact ⟨rfl, rfl⟩))
    (fun os started H enc _ => lifted os started H enc)
theorem proved : Rows.FnExactCompileExprSaid := over
#print axioms proved
end Go.Proofs.Ytckikiaockkmbaa.fnExactCompileExpr
