/- FnExactProgramWrites: for every input the law returns true, and the arguments read as they did. No conditions. -/
import Derived.Test.YtckikiaockkmbaaRows
import Derived.Test.YtckikiaockkmbaaMany
import Derived.Test.YtckikiaockkmbaaOpenT
import Derived.Test.YtckikiaockkmbaaPgmF
import Derived.Test.YtckikiaockkmbaaPgmU
import Derived.Test.YtckikiaockkmbaaMkU
import Derived.Test.YtckikiaockkmbaaBoolU
import Derived.Test.YtckikiaockkmbaaWrI
import Derived.Test.YtckikiaockkmbaaShort
import Derived.Deep.RegionHeld3
import Derived.Deep.DeepCutAuto
import Derived.WalkKit
import Derived.ProofKit
import Derived.OpenShut
import Derived.ShutString
import Derived.ChangeOld
import Derived.Below
namespace Go.Proofs.Ytckikiaockkmbaa.fnExactProgramWrites
open Go.ChangeShapes Go.WideShapes Go.ChangeAt Go.RowKit Kit
open Go.ChangeMaps (open_string shut_string)
set_option linter.unusedVariables false
theorem own : ownKnob Try.prog.godebug = none := by kernel_rfl
theorem laidOut : laidOutB Try.prog = true := by kernel_rfl
set_option maxHeartbeats 16000000 in
set_option maxRecDepth 100000 in
theorem walk (ta0 : Value) (tb0 : Value) (tc0 : Value) (xa0 : List Int) (xb0 : List Int) (x0 : List St) (w : World) (sa0 : IntsR w 0 w.heap.size ta0 xa0) (sb0 : IntsR w 0 w.heap.size tb0 xb0) (s0 : StsR w 0 w.heap.size tc0 x0) :
    Calls Try.prog 10 #[.agg #[ta0, tb0, tc0]] w fun e w' => e = .returned (.bool true) ∧ Below w.heap.size w w' := by
  by_cases q0 : (xa0.length + (xb0.length + St.sizes x0)) ≤ 1048576
  · go_enter Try.func10, Try.ntmps10
    go_wp2_with fail
    obtain ⟨YV, hYV⟩ : ∃ Y, (WrC.wrB xa0 xb0 x0).1 = Y := ⟨_, rfl⟩
    obtain ⟨YU, hYU⟩ : ∃ Y, (WrC.wrB xa0 xb0 x0).2 = Y := ⟨_, rfl⟩
    have hwl : YV.length ≤ xa0.length ∧ YU.length ≤ xb0.length := by
      rw [← hYV, ← hYU]
      cases hp : Val.progB xa0 xb0 x0
      · simp [WrC.wrB, hp]
      · have := WrI.wrB_len hp; omega
    have hYVh := Lib.hid hYV
    have hYUh := Lib.hid hYU
    clear hYV hYU
    have N0 : New w (w.alloc (.cells #[ta0, tb0, tc0] 46)) := ((Kp.refl _ _).alloc _)
    have bA_0 : (w.alloc (.cells #[ta0, tb0, tc0] 46)).heap[w.heap.size]? = some (.cells #[ta0, tb0, tc0] 46) := alloc_heap _ _
    have z0 : w.heap.size < (w.alloc (.cells #[ta0, tb0, tc0] 46)).heap.size := by simp
    generalize (w.alloc (.cells #[ta0, tb0, tc0] 46)) = w0 at *
    have cA0 := cell_of_heap bA_0 0
    have cA1 := cell_of_heap bA_0 1
    have cA2 := cell_of_heap bA_0 2
    have lA := heap_lt bA_0
    clear cA0 cA1 cA2 lA
    refine (PgmF.szProgram _ 0 w.heap.size _ _ _ _ _ _ (sa0.new (Nat.le_refl _) N0) (sb0.new (Nat.le_refl _) N0) (s0.new (Nat.le_refl _) N0) (1048576) (by omega) (by omega) (by omega)).mono ?_
    rintro e w1 ⟨rfl, hn1⟩
    have z1 : w0.heap.size ≤ w1.heap.size := hn1.size
    have bA_1 := (hn1.block _ (heap_lt bA_0) (fun f => f)).trans bA_0
    have N1 : New w w1 := N0.trans hn1
    clear bA_0 N0 hn1
    rw [szOf_hi (by omega)]
    have cA0 := cell_of_heap bA_1 0
    have cA1 := cell_of_heap bA_1 1
    have cA2 := cell_of_heap bA_1 2
    have lA := heap_lt bA_1
    go_wp2_with fail
    clear cA0 cA1 cA2 lA
    refine (PgmF.toProgram _ 0 w.heap.size _ _ _ _ _ _ (sa0.new (Nat.le_refl _) N1) (sb0.new (Nat.le_refl _) N1) (s0.new (Nat.le_refl _) N1) (by omega) (by omega) (by omega) (by omega)).mono ?_
    rintro e w2 ⟨vPa, vPb, vPc, rfl, hn2, hPa, hPb, hPc⟩
    have z2 : w1.heap.size ≤ w2.heap.size := hn2.size
    have bA_2 := (hn2.block _ (heap_lt bA_1) (fun f => f)).trans bA_1
    have N2 : New w w2 := N1.trans hn2
    clear bA_1 N1 hn2
    obtain ⟨aPa, dPa, rfl, _⟩ := hPa.len
    have oPa_2 := Lib.hid hPa
    clear hPa
    obtain ⟨aPb, dPb, rfl, _⟩ := hPb.len
    have oPb_2 := Lib.hid hPb
    clear hPb
    obtain ⟨aPc, dPc, rfl, _⟩ := hPc.len
    have oPc_2 := Lib.hid hPc
    clear hPc
    have cA0 := cell_of_heap bA_2 0
    have cA1 := cell_of_heap bA_2 1
    have cA2 := cell_of_heap bA_2 2
    have lA := heap_lt bA_2
    go_wp2_with fail
    clear cA0 cA1 cA2 lA
    refine (WrI.specW (xa := xa0) (xb := xb0) (l := x0) oPa_2.out oPb_2.out oPc_2.out (by omega) (by omega)).mono ?_
    rintro e w3 ⟨vWV, vWU, rfl, hn3, hWV, hWU, -⟩
    have z3 : w2.heap.size ≤ w3.heap.size := hn3.size
    have bA_3 := (hn3.block _ (heap_lt bA_2) (fun f => f)).trans bA_2
    have oPa_3 := Lib.hid (oPa_2.out.new (by omega) hn3)
    have oPb_3 := Lib.hid (oPb_2.out.new (by omega) hn3)
    have oPc_3 := Lib.hid (oPc_2.out.new (by omega) hn3)
    have N3 : New w w3 := N2.trans hn3
    clear bA_2 oPa_2 oPb_2 oPc_2 N2 hn3
    rw [hYVh.out] at hWV
    obtain ⟨aWV, dWV, rfl, _⟩ := hWV.reads.len
    rw [hYUh.out] at hWU
    obtain ⟨aWU, dWU, rfl, _⟩ := hWU.reads.len
    replace hWV := hWV.reads
    have oWV_3 := Lib.hid hWV
    clear hWV
    replace hWU := hWU.reads
    have oWU_3 := Lib.hid hWU
    clear hWU
    clear oPa_3
    clear oPb_3
    clear oPc_3
    have cA0 := cell_of_heap bA_3 0
    have cA1 := cell_of_heap bA_3 1
    have cA2 := cell_of_heap bA_3 2
    have lA := heap_lt bA_3
    go_wp2_with fail
    clear cA0 cA1 cA2 lA
    refine (PgmU.toProgram _ 0 w.heap.size _ _ _ _ _ _ (sa0.new (Nat.le_refl _) N3) (sb0.new (Nat.le_refl _) N3) (s0.new (Nat.le_refl _) N3) (by omega) (by omega) (by omega) (by omega)).mono ?_
    rintro e w4 ⟨vXa, vXb, vXc, rfl, hn4, hXa, hXb, hXc, hsep⟩
    have z4 : w3.heap.size ≤ w4.heap.size := hn4.size
    have bA_4 := (hn4.block _ (heap_lt bA_3) (fun f => f)).trans bA_3
    have oWV_4 := Lib.hid (oWV_3.out.new (by omega) hn4)
    have oWU_4 := Lib.hid (oWU_3.out.new (by omega) hn4)
    have N4 : New w w4 := N3.trans hn4
    clear bA_3 oWV_3 oWU_3 N3 hn4
    have hseph := Lib.hid hsep
    clear hsep
    obtain ⟨aXa, dXa, rfl, _⟩ := hXa.reads.len
    obtain ⟨aXb, dXb, rfl, _⟩ := hXb.reads.len
    obtain ⟨aXc, dXc, rfl, _⟩ := hXc.len
    have habX : Hid (∀ b, (Value.slice aXa xa0.length dXa).ownBlock = some b → b < w4.heap.size) := Lib.hid fun b hb => (hXa.lt b hb).2
    have hbbX : Hid (∀ b, (Value.slice aXb xb0.length dXb).ownBlock = some b → b < w4.heap.size) := Lib.hid fun b hb => (hXb.lt b hb).2
    have oXa_4 := Lib.hid hXa
    clear hXa
    have oXb_4 := Lib.hid hXb
    clear hXb
    have oXc_4 := Lib.hid hXc
    clear hXc
    have cA0 := cell_of_heap bA_4 0
    have cA1 := cell_of_heap bA_4 1
    have cA2 := cell_of_heap bA_4 2
    have lA := heap_lt bA_4
    have hn5 : New w4 (w4.alloc (.cells #[.slice aXa xa0.length dXa, .slice aXb xb0.length dXb, .slice aXc x0.length dXc] 37)) := (Kp.refl _ _).alloc _
    have y5 : w4.heap.size < (w4.alloc (.cells #[.slice aXa xa0.length dXa, .slice aXb xb0.length dXb, .slice aXc x0.length dXc] 37)).heap.size := by simp
    have bX_5 := alloc_heap w4 (.cells #[.slice aXa xa0.length dXa, .slice aXb xb0.length dXb, .slice aXc x0.length dXc] 37)
    go_upto_region 7 with fail
    generalize hbX : w4.heap.size = bX at bX_5 y5 ⊢
    generalize (w4.alloc (.cells #[.slice aXa xa0.length dXa, .slice aXb xb0.length dXb, .slice aXc x0.length dXc] 37)) = w5 at *
    have z5 : w4.heap.size ≤ w5.heap.size := hn5.size
    have bA_5 := (hn5.block _ (heap_lt bA_4) (fun f => f)).trans bA_4
    have oWV_5 := Lib.hid (oWV_4.out.new (by omega) hn5)
    have oWU_5 := Lib.hid (oWU_4.out.new (by omega) hn5)
    have oXa_5 := Lib.hid (oXa_4.out.new hn5)
    have oXb_5 := Lib.hid (oXb_4.out.new hn5)
    have oXc_5 := Lib.hid (oXc_4.out.new (by omega) hn5)
    have N5 : New w w5 := N4.trans hn5
    clear cA0 cA1 cA2 lA
    clear bA_4 oWV_4 oWU_4 oXa_4 oXb_4 oXc_4 N4 hn5
    have cA0 := cell_of_heap bA_5 0
    have cA1 := cell_of_heap bA_5 1
    have cA2 := cell_of_heap bA_5 2
    have lA := heap_lt bA_5
    have cX0 := cell_of_heap bX_5 0
    have cX1 := cell_of_heap bX_5 1
    have cX2 := cell_of_heap bX_5 2
    have lX := heap_lt bX_5
    go_wp2_with fail
    clear cA0 cA1 cA2 lA cX0 cX1 cX2 lX
    refine (WrI.implW (xa := xa0) (xb := xb0) (l := x0) (oXa_5.out.reads) (oXb_5.out.reads) (oXc_5.out.r.mono (Nat.le_refl _) (by omega)) (by omega)).mono ?_
    rintro e w6 ⟨vGV, vGU, rfl, hn6, hGV, hGU, hGs⟩
    have z6 : w5.heap.size ≤ w6.heap.size := hn6.size
    have bA_6 := (hn6.block _ (heap_lt bA_5) (fun f => f)).trans bA_5
    have bX_6 := (hn6.block _ (heap_lt bX_5) (fun f => f)).trans bX_5
    have oWV_6 := Lib.hid (oWV_5.out.new (by omega) hn6)
    have oWU_6 := Lib.hid (oWU_5.out.new (by omega) hn6)
    have oXa_6 := Lib.hid (oXa_5.out.new hn6)
    have oXb_6 := Lib.hid (oXb_5.out.new hn6)
    have oXc_6 := Lib.hid (oXc_5.out.new (by omega) hn6)
    have N6 : New w w6 := N5.trans hn6
    clear bA_5 bX_5 oWV_5 oWU_5 oXa_5 oXb_5 oXc_5 N5 hn6
    have hGsh := Lib.hid hGs
    clear hGs
    rw [hYVh.out] at hGV
    obtain ⟨aGV, dGV, rfl, _⟩ := hGV.reads.len
    rw [hYUh.out] at hGU
    obtain ⟨aGU, dGU, rfl, _⟩ := hGU.reads.len
    have oGV_6 := Lib.hid hGV
    clear hGV
    have oGU_6 := Lib.hid hGU
    clear hGU
    have cA0 := cell_of_heap bA_6 0
    have cA1 := cell_of_heap bA_6 1
    have cA2 := cell_of_heap bA_6 2
    have lA := heap_lt bA_6
    have cX0 := cell_of_heap bX_6 0
    have cX1 := cell_of_heap bX_6 1
    have cX2 := cell_of_heap bX_6 2
    have lX := heap_lt bX_6
    go_wp2_with fail
    clear cA0 cA1 cA2 lA cX0 cX1 cX2 lX
    refine (BoolU.eqBoolS _ _ _ _ _ _ _ _ (oGV_6.out.reads) oWV_6.out).mono ?_
    rintro e w7 ⟨rfl, hn7⟩
    have z7 : w6.heap.size ≤ w7.heap.size := hn7.size
    have bA_7 := (hn7.block _ (heap_lt bA_6) (fun f => f)).trans bA_6
    have bX_7 := (hn7.block _ (heap_lt bX_6) (fun f => f)).trans bX_6
    have oWV_7 := Lib.hid (oWV_6.out.new (by omega) hn7)
    have oWU_7 := Lib.hid (oWU_6.out.new (by omega) hn7)
    have oXa_7 := Lib.hid (oXa_6.out.new hn7)
    have oXb_7 := Lib.hid (oXb_6.out.new hn7)
    have oXc_7 := Lib.hid (oXc_6.out.new (by omega) hn7)
    have oGV_7 := Lib.hid (oGV_6.out.new hn7)
    have oGU_7 := Lib.hid (oGU_6.out.new hn7)
    have N7 : New w w7 := N6.trans hn7
    clear bA_6 bX_6 oWV_6 oWU_6 oXa_6 oXb_6 oXc_6 oGV_6 oGU_6 N6 hn7
    have cA0 := cell_of_heap bA_7 0
    have cA1 := cell_of_heap bA_7 1
    have cA2 := cell_of_heap bA_7 2
    have lA := heap_lt bA_7
    have cX0 := cell_of_heap bX_7 0
    have cX1 := cell_of_heap bX_7 1
    have cX2 := cell_of_heap bX_7 2
    have lX := heap_lt bX_7
    go_wp2_with fail
    clear cA0 cA1 cA2 lA cX0 cX1 cX2 lX
    refine (BoolU.eqBoolS _ _ _ _ _ _ _ _ (oGU_7.out.reads) oWU_7.out).mono ?_
    rintro e w8 ⟨rfl, hn8⟩
    have z8 : w7.heap.size ≤ w8.heap.size := hn8.size
    have bA_8 := (hn8.block _ (heap_lt bA_7) (fun f => f)).trans bA_7
    have bX_8 := (hn8.block _ (heap_lt bX_7) (fun f => f)).trans bX_7
    have oWV_8 := Lib.hid (oWV_7.out.new (by omega) hn8)
    have oWU_8 := Lib.hid (oWU_7.out.new (by omega) hn8)
    have oXa_8 := Lib.hid (oXa_7.out.new hn8)
    have oXb_8 := Lib.hid (oXb_7.out.new hn8)
    have oXc_8 := Lib.hid (oXc_7.out.new (by omega) hn8)
    have oGV_8 := Lib.hid (oGV_7.out.new hn8)
    have oGU_8 := Lib.hid (oGU_7.out.new hn8)
    have N8 : New w w8 := N7.trans hn8
    clear bA_7 bX_7 oWV_7 oWU_7 oXa_7 oXb_7 oXc_7 oGV_7 oGU_7 N7 hn8
    have cA0 := cell_of_heap bA_8 0
    have cA1 := cell_of_heap bA_8 1
    have cA2 := cell_of_heap bA_8 2
    have lA := heap_lt bA_8
    have cX0 := cell_of_heap bX_8 0
    have cX1 := cell_of_heap bX_8 1
    have cX2 := cell_of_heap bX_8 2
    have lX := heap_lt bX_8
    go_upto_region 10 with fail
    clear cA0 cA1 cA2 lA cX0 cX1 cX2 lX
    have cA0 := cell_of_heap bA_8 0
    have cA1 := cell_of_heap bA_8 1
    have cA2 := cell_of_heap bA_8 2
    have lA := heap_lt bA_8
    have cX0 := cell_of_heap bX_8 0
    have cX1 := cell_of_heap bX_8 1
    have cX2 := cell_of_heap bX_8 2
    have lX := heap_lt bX_8
    refine wp_region_held_drew (S := fun w' => w'.cell? ⟨w.heap.size, 0, none⟩ = some (ta0) ∧ w'.cell? ⟨w.heap.size, 1, none⟩ = some (tb0) ∧ w'.cell? ⟨w.heap.size, 2, none⟩ = some (tc0) ∧ w'.cell? ⟨bX, 0, none⟩ = some (.slice aXa xa0.length dXa) ∧ w'.cell? ⟨bX, 1, none⟩ = some (.slice aXb xb0.length dXb) ∧ w'.cell? ⟨bX, 2, none⟩ = some (.slice aXc x0.length dXc)) (by kernel_rfl) ?_ (fun hHeld => ?_)
    · exact ⟨cA0, cA1, cA2, cX0, cX1, cX2⟩
    clear cA0 cA1 cA2 lA cX0 cX1 cX2 lX
    have hn9 : New w8 w8.drew := (Kp.refl _ _).drew
    generalize w8.drew = w9 at *
    have z9 : w8.heap.size ≤ w9.heap.size := hn9.size
    have bA_9 := (hn9.block _ (heap_lt bA_8) (fun f => f)).trans bA_8
    have bX_9 := (hn9.block _ (heap_lt bX_8) (fun f => f)).trans bX_8
    have oWV_9 := Lib.hid (oWV_8.out.new (by omega) hn9)
    have oWU_9 := Lib.hid (oWU_8.out.new (by omega) hn9)
    have oXa_9 := Lib.hid (oXa_8.out.new hn9)
    have oXb_9 := Lib.hid (oXb_8.out.new hn9)
    have oXc_9 := Lib.hid (oXc_8.out.new (by omega) hn9)
    have oGV_9 := Lib.hid (oGV_8.out.new hn9)
    have oGU_9 := Lib.hid (oGU_8.out.new hn9)
    have N9 : New w w9 := N8.trans hn9
    clear bA_8 bX_8 oWV_8 oWU_8 oXa_8 oXb_8 oXc_8 oGV_8 oGU_8 N8 hn9
    have cA0 := cell_of_heap bA_9 0
    have cA1 := cell_of_heap bA_9 1
    have cA2 := cell_of_heap bA_9 2
    have lA := heap_lt bA_9
    have cX0 := cell_of_heap bX_9 0
    have cX1 := cell_of_heap bX_9 1
    have cX2 := cell_of_heap bX_9 2
    have lX := heap_lt bX_9
    refine wpAnyH_take (i := 0) (v := ?vbq0) rfl (by kernel_rfl) (by kernel_rfl) (by kernel_rfl) (fun _ _ _ h => h) (Or.inl ⟨by kernel_rfl, ?ybq0⟩) (by assumption) ?rbq0
    case ybq0 =>
      intro w hSw
      try dsimp only at hSw
      go_simp
      try with_reducible rfl
    try simp only [Act.put, List.getElem_toArray, List.getElem_cons_zero, List.setIfInBounds_toArray, List.set_cons_zero, List.set_cons_succ]
    refine wpAnyH_take (i := 1) (v := ?vbq1) rfl (by kernel_rfl) (by kernel_rfl) (by kernel_rfl) (fun _ _ _ h => h) (Or.inl ⟨by kernel_rfl, ?ybq1⟩) (by assumption) ?rbq1
    case ybq1 =>
      intro w hSw
      try dsimp only at hSw
      go_simp
      try with_reducible rfl
    try simp only [Act.put, List.getElem_toArray, List.getElem_cons_zero, List.getElem_cons_succ, List.setIfInBounds_toArray, List.set_cons_zero, List.set_cons_succ]
    refine wpAnyH_ready (rs := [2]) (by kernel_rfl) (by simp) ?_
    refine AllReadyH.cons rfl (fun K hK => ?_) AllReadyH.nil
    go_simp
    clear cA0 cA1 cA2 lA cX0 cX1 cX2 lX
    refine (PgmF.toProgram _ 0 w.heap.size _ _ _ _ _ _ (sa0.new (Nat.le_refl _) N9) (sb0.new (Nat.le_refl _) N9) (s0.new (Nat.le_refl _) N9) (by omega) (by omega) (by omega) (by omega)).mono ?_
    rintro e w10 ⟨vCa, vCb, vCc, rfl, hn10, hCa, hCb, hCc⟩
    have z10 : w9.heap.size ≤ w10.heap.size := hn10.size
    have bA_10 := (hn10.block _ (heap_lt bA_9) (fun f => f)).trans bA_9
    have bX_10 := (hn10.block _ (heap_lt bX_9) (fun f => f)).trans bX_9
    have oWV_10 := Lib.hid (oWV_9.out.new (by omega) hn10)
    have oWU_10 := Lib.hid (oWU_9.out.new (by omega) hn10)
    have oXa_10 := Lib.hid (oXa_9.out.new hn10)
    have oXb_10 := Lib.hid (oXb_9.out.new hn10)
    have oXc_10 := Lib.hid (oXc_9.out.new (by omega) hn10)
    have oGV_10 := Lib.hid (oGV_9.out.new hn10)
    have oGU_10 := Lib.hid (oGU_9.out.new hn10)
    have N10 : New w w10 := N9.trans hn10
    clear bA_9 bX_9 oWV_9 oWU_9 oXa_9 oXb_9 oXc_9 oGV_9 oGU_9 N9 hn10
    obtain ⟨aCa, dCa, rfl, _⟩ := hCa.len
    have oCa_10 := Lib.hid hCa
    clear hCa
    obtain ⟨aCb, dCb, rfl, _⟩ := hCb.len
    have oCb_10 := Lib.hid hCb
    clear hCb
    obtain ⟨aCc, dCc, rfl, _⟩ := hCc.len
    have oCc_10 := Lib.hid hCc
    clear hCc
    have cA0 := cell_of_heap bA_10 0
    have cA1 := cell_of_heap bA_10 1
    have cA2 := cell_of_heap bA_10 2
    have lA := heap_lt bA_10
    have cX0 := cell_of_heap bX_10 0
    have cX1 := cell_of_heap bX_10 1
    have cX2 := cell_of_heap bX_10 2
    have lX := heap_lt bX_10
    refine hK.out _ _ ?_ (fun hHeld2 => ?_)
    · exact ⟨cA0, cA1, cA2, cX0, cX1, cX2⟩
    clear hK K hHeld
    have hHeld := hHeld2
    clear hHeld2
    try simp only [Act.put, List.getElem_toArray, List.getElem_cons_zero, List.getElem_cons_succ, List.setIfInBounds_toArray, List.set_cons_zero, List.set_cons_succ]
    refine wpAnyH_ready (rs := [3]) (by kernel_rfl) (by simp) ?_
    refine AllReadyH.cons rfl (fun K hK => ?_) AllReadyH.nil
    go_simp
    clear cA0 cA1 cA2 lA cX0 cX1 cX2 lX
    refine (PgmF.eqProgram1 (oXa_10.out.reads) (oXb_10.out.reads) (oXc_10.out.r.mono (Nat.le_refl _) (by omega)) oCa_10.out oCb_10.out oCc_10.out (by omega) (by omega)).mono ?_
    rintro e w11 ⟨rfl, hn11⟩
    have z11 : w10.heap.size ≤ w11.heap.size := hn11.size
    have bA_11 := (hn11.block _ (heap_lt bA_10) (fun f => f)).trans bA_10
    have bX_11 := (hn11.block _ (heap_lt bX_10) (fun f => f)).trans bX_10
    have oWV_11 := Lib.hid (oWV_10.out.new (by omega) hn11)
    have oWU_11 := Lib.hid (oWU_10.out.new (by omega) hn11)
    have oXa_11 := Lib.hid (oXa_10.out.new hn11)
    have oXb_11 := Lib.hid (oXb_10.out.new hn11)
    have oXc_11 := Lib.hid (oXc_10.out.new (by omega) hn11)
    have oGV_11 := Lib.hid (oGV_10.out.new hn11)
    have oGU_11 := Lib.hid (oGU_10.out.new hn11)
    have oCa_11 := Lib.hid (oCa_10.out.new (by omega) hn11)
    have oCb_11 := Lib.hid (oCb_10.out.new (by omega) hn11)
    have oCc_11 := Lib.hid (oCc_10.out.new (by omega) hn11)
    have N11 : New w w11 := N10.trans hn11
    clear bA_10 bX_10 oWV_10 oWU_10 oXa_10 oXb_10 oXc_10 oGV_10 oGU_10 oCa_10 oCb_10 oCc_10 N10 hn11
    have cA0 := cell_of_heap bA_11 0
    have cA1 := cell_of_heap bA_11 1
    have cA2 := cell_of_heap bA_11 2
    have lA := heap_lt bA_11
    have cX0 := cell_of_heap bX_11 0
    have cX1 := cell_of_heap bX_11 1
    have cX2 := cell_of_heap bX_11 2
    have lX := heap_lt bX_11
    refine hK.out _ _ ?_ (fun hHeld2 => ?_)
    · exact ⟨cA0, cA1, cA2, cX0, cX1, cX2⟩
    clear hK K hHeld
    have hHeld := hHeld2
    clear hHeld2
    try simp only [Act.put, List.getElem_toArray, List.getElem_cons_zero, List.getElem_cons_succ, List.setIfInBounds_toArray, List.set_cons_zero, List.set_cons_succ]
    refine wpAnyH_take (i := 4) (v := ?vbq4) rfl (by kernel_rfl) (by kernel_rfl) (by kernel_rfl) (fun _ _ _ h => h) (Or.inl ⟨by kernel_rfl, ?ybq4⟩) (by assumption) ?rbq4
    case ybq4 =>
      intro w hSw
      try dsimp only at hSw
      go_simp
      try with_reducible rfl
    try simp only [Act.put, List.getElem_toArray, List.getElem_cons_zero, List.getElem_cons_succ, List.setIfInBounds_toArray, List.set_cons_zero, List.set_cons_succ]
    refine wpAnyH_done (by kernel_rfl) ?_ _
    clear oCa_11
    clear oCb_11
    clear oCc_11
    clear cA0 cA1 cA2 lA cX0 cX1 cX2 lX
    have cA0 := cell_of_heap bA_11 0
    have cA1 := cell_of_heap bA_11 1
    have cA2 := cell_of_heap bA_11 2
    have lA := heap_lt bA_11
    have cX0 := cell_of_heap bX_11 0
    have cX1 := cell_of_heap bX_11 1
    have cX2 := cell_of_heap bX_11 2
    have lX := heap_lt bX_11
    go_wp2_with fail
    clear cA0 cA1 cA2 lA cX0 cX1 cX2 lX
    refine (MkU.markProgram (base := w3.heap.size) (hi := w4.heap.size) (k := 1) oXa_11.out oXb_11.out (oXc_11.out.k) hseph.out habX.out hbbX.out (by omega) (by omega) (by omega) (by omega) (by omega) (by omega)).mono ?_
    rintro e w12 ⟨k2, rfl, hk20, hk21, hk12⟩
    clear oXa_11
    clear oXb_11
    clear oXc_11
    have z12 : w11.heap.size ≤ w12.heap.size := hk12.size
    have bA_12 := (hk12.block _ (heap_lt bA_11) (by omega)).trans bA_11
    have bX_12 := (hk12.block _ (heap_lt bX_11) (by omega)).trans bX_11
    have oWV_12 := Lib.hid (oWV_11.out.kp hk12 (by omega) (fun b e => by omega))
    have oWU_12 := Lib.hid (oWU_11.out.kp hk12 (by omega) (fun b e => by omega))
    have oGV_12 := Lib.hid (oGV_11.out.kp hk12 (fun b hb e => by have h1 := oGV_11.out.lt b hb; omega))
    have oGU_12 := Lib.hid (oGU_11.out.kp hk12 (fun b hb e => by have h1 := oGU_11.out.lt b hb; omega))
    have N12 : New w w12 := New.on N11 hk12 (fun i e => by omega)
    clear bA_11 bX_11 oWV_11 oWU_11 oGV_11 oGU_11 N11 hk12
    clear bX_12
    have hk2n : (0 : Int) ≤ k2 := by omega
    have cA0 := cell_of_heap bA_12 0
    have cA1 := cell_of_heap bA_12 1
    have cA2 := cell_of_heap bA_12 2
    have lA := heap_lt bA_12
    go_wp2_with fail
    clear cA0 cA1 cA2 lA
    refine (BoolU.eqBoolS _ _ _ _ _ _ _ _ (oGV_12.out.reads) oWV_12.out).mono ?_
    rintro e w13 ⟨rfl, hn13⟩
    have z13 : w12.heap.size ≤ w13.heap.size := hn13.size
    have bA_13 := (hn13.block _ (heap_lt bA_12) (fun f => f)).trans bA_12
    have oWV_13 := Lib.hid (oWV_12.out.new (by omega) hn13)
    have oWU_13 := Lib.hid (oWU_12.out.new (by omega) hn13)
    have oGV_13 := Lib.hid (oGV_12.out.new hn13)
    have oGU_13 := Lib.hid (oGU_12.out.new hn13)
    have N13 : New w w13 := N12.trans hn13
    clear bA_12 oWV_12 oWU_12 oGV_12 oGU_12 N12 hn13
    have cA0 := cell_of_heap bA_13 0
    have cA1 := cell_of_heap bA_13 1
    have cA2 := cell_of_heap bA_13 2
    have lA := heap_lt bA_13
    go_wp2_with fail
    clear cA0 cA1 cA2 lA
    refine (BoolU.eqBoolS _ _ _ _ _ _ _ _ (oGU_13.out.reads) oWU_13.out).mono ?_
    rintro e w14 ⟨rfl, hn14⟩
    have z14 : w13.heap.size ≤ w14.heap.size := hn14.size
    have bA_14 := (hn14.block _ (heap_lt bA_13) (fun f => f)).trans bA_13
    have oWV_14 := Lib.hid (oWV_13.out.new (by omega) hn14)
    have oWU_14 := Lib.hid (oWU_13.out.new (by omega) hn14)
    have oGV_14 := Lib.hid (oGV_13.out.new hn14)
    have oGU_14 := Lib.hid (oGU_13.out.new hn14)
    have N14 : New w w14 := N13.trans hn14
    clear bA_13 oWV_13 oWU_13 oGV_13 oGU_13 N13 hn14
    have cA0 := cell_of_heap bA_14 0
    have cA1 := cell_of_heap bA_14 1
    have cA2 := cell_of_heap bA_14 2
    have lA := heap_lt bA_14
    go_wp2_with fail
    clear cA0 cA1 cA2 lA
    have hGltV := Lib.hid oGV_14.out.lt
    refine (BoolU.markBoolS _ _ _ YV 1 oGV_14.out (by omega) (by omega) (by omega)).mono ?_
    rintro e w15 ⟨rfl, hk15, hMV⟩
    have hkk : Kp (fun b => w5.heap.size ≤ b ∧ (Value.slice aGV YV.length dGV).ownBlock = some b) w14 w15 := hk15.mono fun b _ e => ⟨(hGltV.out b e).1, e⟩
    have oth := oGU_14.out.kp hkk (fun b hb e => hGsh.out _ _ e.2 hb rfl)
    clear hk15
    have hk15 := hkk
    clear hkk oGV_14 oGU_14
    have z15 : w14.heap.size ≤ w15.heap.size := hk15.size
    have bA_15 := (hk15.block _ (heap_lt bA_14) (by omega)).trans bA_14
    have oWV_15 := Lib.hid (oWV_14.out.kp hk15 (by omega) (fun b e => by omega))
    have oWU_15 := Lib.hid (oWU_14.out.kp hk15 (by omega) (fun b e => by omega))
    have N15 : New w w15 := New.on N14 hk15 (fun i e => by omega)
    clear bA_14 oWV_14 oWU_14 N14 hk15
    have oGV_15 := Lib.hid hMV
    clear hMV
    have oGU_15 := Lib.hid oth
    clear oth
    have cA0 := cell_of_heap bA_15 0
    have cA1 := cell_of_heap bA_15 1
    have cA2 := cell_of_heap bA_15 2
    have lA := heap_lt bA_15
    go_wp2_with fail
    clear cA0 cA1 cA2 lA
    have hGltU := Lib.hid oGU_15.out.lt
    refine (BoolU.markBoolS _ _ _ YU (1 + (YV.length : Int)) oGU_15.out (by omega) (by omega) (by omega)).mono ?_
    rintro e w16 ⟨rfl, hk16, hMU⟩
    have hkk : Kp (fun b => w5.heap.size ≤ b ∧ (Value.slice aGU YU.length dGU).ownBlock = some b) w15 w16 := hk16.mono fun b _ e => ⟨(hGltU.out b e).1, e⟩
    have oth := oGV_15.out.kp hkk (fun b hb e => hGsh.out _ _ hb e.2 rfl)
    clear hk16
    have hk16 := hkk
    clear hkk oGU_15 oGV_15
    have z16 : w15.heap.size ≤ w16.heap.size := hk16.size
    have bA_16 := (hk16.block _ (heap_lt bA_15) (by omega)).trans bA_15
    have oWV_16 := Lib.hid (oWV_15.out.kp hk16 (by omega) (fun b e => by omega))
    have oWU_16 := Lib.hid (oWU_15.out.kp hk16 (by omega) (fun b e => by omega))
    have N16 : New w w16 := New.on N15 hk16 (fun i e => by omega)
    clear bA_15 oWV_15 oWU_15 N15 hk16
    have oGU_16 := Lib.hid hMU
    clear hMU
    have oGV_16 := Lib.hid oth
    clear oth
    have cA0 := cell_of_heap bA_16 0
    have cA1 := cell_of_heap bA_16 1
    have cA2 := cell_of_heap bA_16 2
    have lA := heap_lt bA_16
    go_wp2_with fail
    clear cA0 cA1 cA2 lA
    have hp1 : (0 : Int) ≤ 1 + (YV.length : Int) := by omega
    have hp2 : (0 : Int) ≤ 1 + (YV.length : Int) + (YU.length : Int) := by omega
    refine (BoolU.heldBoolS _ _ _ _ YV.length 1 oGV_16.out.reads (by omega) (by omega) (by omega)).mono ?_
    rintro e w' ⟨rfl, rfl⟩
    have cA0 := cell_of_heap bA_16 0
    have cA1 := cell_of_heap bA_16 1
    have cA2 := cell_of_heap bA_16 2
    have lA := heap_lt bA_16
    go_wp2_with fail
    clear cA0 cA1 cA2 lA
    refine (BoolU.heldBoolS _ _ _ _ YU.length (1 + (YV.length : Int)) oGU_16.out.reads (by omega) (by omega) (by omega)).mono ?_
    rintro e w' ⟨rfl, rfl⟩
    have cA0 := cell_of_heap bA_16 0
    have cA1 := cell_of_heap bA_16 1
    have cA2 := cell_of_heap bA_16 2
    have lA := heap_lt bA_16
    go_wp2_with fail
    clear cA0 cA1 cA2 lA
    refine (PgmF.toProgram _ 0 w.heap.size _ _ _ _ _ _ (sa0.new (Nat.le_refl _) N16) (sb0.new (Nat.le_refl _) N16) (s0.new (Nat.le_refl _) N16) (by omega) (by omega) (by omega) (by omega)).mono ?_
    rintro e w17 ⟨vEa, vEb, vEc, rfl, hn17, hEa, hEb, hEc⟩
    have z17 : w16.heap.size ≤ w17.heap.size := hn17.size
    have bA_17 := (hn17.block _ (heap_lt bA_16) (fun f => f)).trans bA_16
    have oWV_17 := Lib.hid (oWV_16.out.new (by omega) hn17)
    have oWU_17 := Lib.hid (oWU_16.out.new (by omega) hn17)
    have oGU_17 := Lib.hid (oGU_16.out.new hn17)
    have oGV_17 := Lib.hid (oGV_16.out.new hn17)
    have N17 : New w w17 := N16.trans hn17
    clear bA_16 oWV_16 oWU_16 oGU_16 oGV_16 N16 hn17
    obtain ⟨aEa, dEa, rfl, _⟩ := hEa.len
    have oEa_17 := Lib.hid hEa
    clear hEa
    obtain ⟨aEb, dEb, rfl, _⟩ := hEb.len
    have oEb_17 := Lib.hid hEb
    clear hEb
    obtain ⟨aEc, dEc, rfl, _⟩ := hEc.len
    have oEc_17 := Lib.hid hEc
    clear hEc
    have cA0 := cell_of_heap bA_17 0
    have cA1 := cell_of_heap bA_17 1
    have cA2 := cell_of_heap bA_17 2
    have lA := heap_lt bA_17
    go_wp2_with fail
    clear cA0 cA1 cA2 lA
    refine (WrI.implW (xa := xa0) (xb := xb0) (l := x0) oEa_17.out oEb_17.out oEc_17.out (by omega)).mono ?_
    rintro e w18 ⟨vHV, vHU, rfl, hn18, hHV, hHU, -⟩
    have z18 : w17.heap.size ≤ w18.heap.size := hn18.size
    have bA_18 := (hn18.block _ (heap_lt bA_17) (fun f => f)).trans bA_17
    have oWV_18 := Lib.hid (oWV_17.out.new (by omega) hn18)
    have oWU_18 := Lib.hid (oWU_17.out.new (by omega) hn18)
    have oGU_18 := Lib.hid (oGU_17.out.new hn18)
    have oGV_18 := Lib.hid (oGV_17.out.new hn18)
    have oEa_18 := Lib.hid (oEa_17.out.new (by omega) hn18)
    have oEb_18 := Lib.hid (oEb_17.out.new (by omega) hn18)
    have oEc_18 := Lib.hid (oEc_17.out.new (by omega) hn18)
    have N18 : New w w18 := N17.trans hn18
    clear bA_17 oWV_17 oWU_17 oGU_17 oGV_17 oEa_17 oEb_17 oEc_17 N17 hn18
    rw [hYVh.out] at hHV
    obtain ⟨aHV, dHV, rfl, _⟩ := hHV.reads.len
    rw [hYUh.out] at hHU
    obtain ⟨aHU, dHU, rfl, _⟩ := hHU.reads.len
    have oHV_18 := Lib.hid hHV
    clear hHV
    have oHU_18 := Lib.hid hHU
    clear hHU
    clear oEa_18
    clear oEb_18
    clear oEc_18
    have cA0 := cell_of_heap bA_18 0
    have cA1 := cell_of_heap bA_18 1
    have cA2 := cell_of_heap bA_18 2
    have lA := heap_lt bA_18
    go_wp2_with fail
    clear cA0 cA1 cA2 lA
    refine (BoolU.eqBoolS _ _ _ _ _ _ _ _ (oHV_18.out.reads) oWV_18.out).mono ?_
    rintro e w19 ⟨rfl, hn19⟩
    have z19 : w18.heap.size ≤ w19.heap.size := hn19.size
    have bA_19 := (hn19.block _ (heap_lt bA_18) (fun f => f)).trans bA_18
    have oWV_19 := Lib.hid (oWV_18.out.new (by omega) hn19)
    have oWU_19 := Lib.hid (oWU_18.out.new (by omega) hn19)
    have oGU_19 := Lib.hid (oGU_18.out.new hn19)
    have oGV_19 := Lib.hid (oGV_18.out.new hn19)
    have oHV_19 := Lib.hid (oHV_18.out.new hn19)
    have oHU_19 := Lib.hid (oHU_18.out.new hn19)
    have N19 : New w w19 := N18.trans hn19
    clear bA_18 oWV_18 oWU_18 oGU_18 oGV_18 oHV_18 oHU_18 N18 hn19
    have cA0 := cell_of_heap bA_19 0
    have cA1 := cell_of_heap bA_19 1
    have cA2 := cell_of_heap bA_19 2
    have lA := heap_lt bA_19
    go_wp2_with fail
    clear cA0 cA1 cA2 lA
    refine (BoolU.eqBoolS _ _ _ _ _ _ _ _ (oHU_19.out.reads) oWU_19.out).mono ?_
    rintro e w20 ⟨rfl, hn20⟩
    have z20 : w19.heap.size ≤ w20.heap.size := hn20.size
    have bA_20 := (hn20.block _ (heap_lt bA_19) (fun f => f)).trans bA_19
    have oWV_20 := Lib.hid (oWV_19.out.new (by omega) hn20)
    have oWU_20 := Lib.hid (oWU_19.out.new (by omega) hn20)
    have oGU_20 := Lib.hid (oGU_19.out.new hn20)
    have oGV_20 := Lib.hid (oGV_19.out.new hn20)
    have oHV_20 := Lib.hid (oHV_19.out.new hn20)
    have oHU_20 := Lib.hid (oHU_19.out.new hn20)
    have N20 : New w w20 := N19.trans hn20
    clear bA_19 oWV_19 oWU_19 oGU_19 oGV_19 oHV_19 oHU_19 N19 hn20
    have cA0 := cell_of_heap bA_20 0
    have cA1 := cell_of_heap bA_20 1
    have cA2 := cell_of_heap bA_20 2
    have lA := heap_lt bA_20
    go_wp2_with fail
    clear cA0 cA1 cA2 lA
    refine (BoolU.heldBoolS _ _ _ _ YV.length 1 oGV_20.out.reads (by omega) (by omega) (by omega)).mono ?_
    rintro e w' ⟨rfl, rfl⟩
    have cA0 := cell_of_heap bA_20 0
    have cA1 := cell_of_heap bA_20 1
    have cA2 := cell_of_heap bA_20 2
    have lA := heap_lt bA_20
    go_wp2_with fail
    clear cA0 cA1 cA2 lA
    refine (BoolU.heldBoolS _ _ _ _ YU.length (1 + (YV.length : Int)) oGU_20.out.reads (by omega) (by omega) (by omega)).mono ?_
    rintro e w' ⟨rfl, rfl⟩
    have cA0 := cell_of_heap bA_20 0
    have cA1 := cell_of_heap bA_20 1
    have cA2 := cell_of_heap bA_20 2
    have lA := heap_lt bA_20
    go_wp2
    go_ret
    exact ⟨rfl, N20.toBelow⟩
  · go_enter Try.func10, Try.ntmps10
    go_wp2_with fail
    have N0 : New w (w.alloc (.cells #[ta0, tb0, tc0] 46)) := ((Kp.refl _ _).alloc _)
    have bA0_0 : (w.alloc (.cells #[ta0, tb0, tc0] 46)).heap[w.heap.size]? = some (.cells #[ta0, tb0, tc0] 46) := alloc_heap _ _
    have z0 : w.heap.size < (w.alloc (.cells #[ta0, tb0, tc0] 46)).heap.size := by simp
    generalize (w.alloc (.cells #[ta0, tb0, tc0] 46)) = w0 at *
    have bA0_0_c0 := cell_of_heap bA0_0 0
    have bA0_0_c1 := cell_of_heap bA0_0 1
    have bA0_0_c2 := cell_of_heap bA0_0 2
    refine (PgmF.szProgram _ 0 w.heap.size _ _ _ _ _ _ (sa0.new (Nat.le_refl _) N0) (sb0.new (Nat.le_refl _) N0) (s0.new (Nat.le_refl _) N0) (1048576) (by omega) (by omega) (by omega)).mono ?_
    rintro e w1 ⟨rfl, hn1⟩
    have z1 : w0.heap.size ≤ w1.heap.size := hn1.size
    have N1 : New w w1 := N0.trans hn1
    have bA0_1 := heap_new hn1 bA0_0
    clear bA0_0_c0 bA0_0_c1 bA0_0_c2
    clear bA0_0 hn1
    rw [szOf_lo (by omega)]
    have bA0_1_c0 := cell_of_heap bA0_1 0
    have bA0_1_c1 := cell_of_heap bA0_1 1
    have bA0_1_c2 := cell_of_heap bA0_1 2
    go_wp2
    go_ret
    exact ⟨rfl, N1.toBelow⟩
set_option maxRecDepth 100000 in
theorem lifted (os : Os) (started : os.Started) (H : Type) (enc : TypeId × Value → H) :
    ReturnsInHanded {} Try.checked os 10 .any (Rows.fnExactProgramWritesSpec.pre6 enc Try.prog Try.f10 Rows.fnExactProgramWritesRow.domain false) (Rows.fnExactProgramWritesSpec.post enc Try.prog Try.f10 false true false false) := by
  refine returnsInHanded_of_change (C := Try.checked) own started (by kernel_rfl) Try.func10
    (ChangeSpec.witness6 (enc := enc) (C := Try.checked) false ⟨#[], #[.agg #[.slice none 0 0, .slice none 0 0, .slice none 0 0]], []⟩ 8 (by kernel_rfl) (by kernel_rfl) (by kernel_rfl) (by kernel_rfl)) ?_
  intro W base args ds gs before hval0 hW hcnd _
  have hval : ∀ (j : Nat) t v, Try.f10.params[j]? = some t → args[j]? = some v → Value.okWide Try.prog W .any base t v := hval0
  have hW' := hW
  obtain ⟨p, q, hA0, hV, rfl, hfz, hnd⟩ := hW
  have hA : DataW.TrodAll enc Try.prog W 0 (fun _ => true) true Try.f10.params.toList args.toList ds p := hA0
  rw [Try.params10] at hA hval
  obtain ⟨v0, vs0, d0, ds0, p0, q0, hargs, rfl, rfl, h0, r0⟩ := trodAll_cons hA
  obtain ⟨rfl, rfl, rfl⟩ := trodAll_nil r0
  obtain rfl : args = #[v0] := by cases args; simp_all
  obtain ⟨rfl, rfl⟩ := trodVars_none hV
  have kk0 := h0
  have lt0 : ∀ x ∈ p0, x.block < W.heap.size := by obtain ⟨m, hm⟩ := kk0; exact DataW.trod_lt m _ _ _ hm
  obtain ⟨ta0, tb0, tc0, xa0, xb0, x0, rfl, sa0, sb0, s0⟩ := Open.programL (hval 0 46 v0 rfl rfl) h0
  clear hA0 hval0
  refine (walk ta0 tb0 tc0 xa0 xb0 x0 W sa0 sb0 s0).mono fun e W' ⟨he, bel⟩ => ?_
  subst he
  exact ⟨_, rfl, _, _, _, [], _, [], hW', trodAll_mk1 (shut_bool Try.underlying4 _), (trodAll_cons_mk (Below.trod laidOut (by kernel_rfl) (of_decide_eq_true (by kernel_rfl)) kk0 bel lt0) trodAll_mk0), rfl, bel.frame _, fun h => by cases h⟩
theorem over : Rows.fnExactProgramWritesRow.holds Try.pinned (OpenSpec.ofChange Rows.fnExactProgramWritesSpec) :=
  OpenClaim.holds_of_wide 10 Try.f10 rfl rfl rfl rfl rfl rfl rfl ⟨rfl, rfl, rfl, rfl, rfl⟩ rfl rfl rfl rfl rfl (by kernel_rfl) Try.func10 (by kernel_rfl)
    (of_decide_eq_true (by kernel_rfl)) (by unfold Func.isWrapper; first | (rw [if_pos (by decide +kernel)]; kernel_rfl) | (rw [if_neg (by decide +kernel)]; exact ⟨rfl, rfl⟩))
    (fun os started H enc _ => lifted os started H enc)
theorem proved : Rows.FnExactProgramWritesSaid := over
#print axioms proved
end Go.Proofs.Ytckikiaockkmbaa.fnExactProgramWrites
