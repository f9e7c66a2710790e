/- FnExactStartMachine: for every input the law returns true, and the arguments read as they did. No conditions. -/
import Derived.Test.YtljokgoghphgdaaRows
import Derived.Test.YtljokgoghphgdaaMany
import Derived.Test.YtljokgoghphgdaaOpenT
import Derived.Test.YtljokgoghphgdaaToO
import Derived.Test.YtljokgoghphgdaaRec
import Derived.Test.YtljokgoghphgdaaTail
import Derived.Test.YtljokgoghphgdaaCodeF
import Derived.Test.YtljokgoghphgdaaMemF
import Derived.Test.YtljokgoghphgdaaStartC
import Derived.Deep.RegionHeld3
import Derived.Deep.DeepCutAuto
import Derived.WalkKit
import Derived.ProofKit
import Derived.OpenShut
import Derived.ShutString
import Derived.ChangeOld
import Derived.Below
namespace Go.Proofs.Ytljokgoghphgdaa.fnExactStartMachine
open Go.ChangeShapes Go.WideShapes Go.ChangeAt Go.RowKit Kit
open Go.ChangeMaps (open_string shut_string)
set_option linter.unusedVariables false
theorem own : ownKnob Try.prog.godebug = none := by kernel_rfl
theorem laidOut : laidOutB Try.prog = true := by kernel_rfl
theorem zb2 {w w' : World} {b : Nat} (h : b < w.heap.size) (e : w'.heap.size = w.heap.size) : b < w'.heap.size := by omega
set_option maxHeartbeats 16000000 in
set_option maxRecDepth 100000 in
theorem walk (ta0 : Value) (tb0 : Value) (tc0 : Value) (xa0 : List Int) (xb0 : List Int) (x0 : List Ins) (ma1 : Value) (mb1 : Value) (ya1 : List Int) (yb1 : List (List Int)) (w : World) (sa0 : IntsR w 0 w.heap.size ta0 xa0) (sb0 : IntsR w 0 w.heap.size tb0 xb0) (s0 : InssR w 0 w.heap.size tc0 x0) (ra1 : IntsR w 0 w.heap.size ma1 ya1) (rb1 : MatR w 0 w.heap.size mb1 yb1) :
    Calls Try.prog 11 #[.agg #[ta0, tb0, tc0], .agg #[ma1, mb1]] w fun e w' => e = .returned (.bool true) ∧ Below w.heap.size w w' := by
  obtain ⟨t, ht0⟩ : ∃ t, (Val.codeB xa0 xb0 x0 && Val.fitB xa0.length xb0.length ya1 yb1) = t := ⟨_, rfl⟩
  have ht := Lib.hid ht0
  clear ht0
  by_cases q0 : (xa0.length + xb0.length + x0.length) ≤ 1048576
  · by_cases q1 : (xa0.length + xb0.length + x0.length) + (ya1.length + msz yb1) ≤ 1048576
    · go_enter Try.func11, Try.ntmps11
      go_wp2_with fail
      have hrow := Lib.hid (show ∀ x ∈ yb1, x.length ≤ 1099511627776 from fun x hx => by obtain ⟨i, h, rfl⟩ := List.getElem_of_mem hx; have := msz_get yb1 i h; omega)
      have hl1 := msz_len yb1
      have tm1 := tot_msz yb1
      have g1 := Rec.pk_len t StartM.zeros
      have g2 := Rec.pk_len t ya1
      have g3 := Rec.pk_msz t yb1
      have g4 := tot_msz (Rec.pk t yb1)
      have g5 : StartM.zeros.length ≤ 14 := by simp [StartM.zeros]
      have N0 : New w ((w.alloc (.cells #[ta0, tb0, tc0] 57)).alloc (.cells #[ma1, mb1] 58)) := (((Kp.refl _ _).alloc _).alloc _)
      have bA0_0 : ((w.alloc (.cells #[ta0, tb0, tc0] 57)).alloc (.cells #[ma1, mb1] 58)).heap[w.heap.size]? = some (.cells #[ta0, tb0, tc0] 57) := heap_old (alloc_heap _ _)
      have bA1_0 : ((w.alloc (.cells #[ta0, tb0, tc0] 57)).alloc (.cells #[ma1, mb1] 58)).heap[w.heap.size + 1]? = some (.cells #[ma1, mb1] 58) := heap_at (by simp)
      have z0 : w.heap.size + 1 < ((w.alloc (.cells #[ta0, tb0, tc0] 57)).alloc (.cells #[ma1, mb1] 58)).heap.size := by simp
      generalize ((w.alloc (.cells #[ta0, tb0, tc0] 57)).alloc (.cells #[ma1, mb1] 58)) = w0 at *
      have bA0_0_c0 := cell_of_heap bA0_0 0
      have bA0_0_c1 := cell_of_heap bA0_0 1
      have bA0_0_c2 := cell_of_heap bA0_0 2
      have bA1_0_c0 := cell_of_heap bA1_0 0
      have bA1_0_c1 := cell_of_heap bA1_0 1
      refine (CodeF.szCode _ 0 w.heap.size _ _ _ _ _ _ (sa0.new (Nat.le_refl _) N0) (sb0.new (Nat.le_refl _) N0) (s0.new (Nat.le_refl _) N0) (1048576) (by omega) (by omega)).mono ?_
      rintro e w1 ⟨rfl, hn1⟩
      have z1 : w0.heap.size ≤ w1.heap.size := hn1.size
      have N1 : New w w1 := N0.trans hn1
      have bA0_1 := heap_new hn1 bA0_0
      have bA1_1 := heap_new hn1 bA1_0
      clear bA0_0_c0 bA0_0_c1 bA0_0_c2 bA1_0_c0 bA1_0_c1
      clear bA0_0 bA1_0 hn1
      rw [szOf_hi (by omega)]
      have bA0_1_c0 := cell_of_heap bA0_1 0
      have bA0_1_c1 := cell_of_heap bA0_1 1
      have bA0_1_c2 := cell_of_heap bA0_1 2
      have bA1_1_c0 := cell_of_heap bA1_1 0
      have bA1_1_c1 := cell_of_heap bA1_1 1
      go_wp2_with fail
      refine (MemF.szMemory _ 0 w.heap.size _ _ _ _ (ra1.new (Nat.le_refl _) N1) (rb1.new (Nat.le_refl _) N1) (1048576 - ((xa0.length + xb0.length + x0.length) : Nat)) (by omega) (by omega) (by omega)).mono ?_
      rintro e w2 ⟨rfl, hn2⟩
      have z2 : w1.heap.size ≤ w2.heap.size := hn2.size
      have N2 : New w w2 := N1.trans hn2
      have bA0_2 := heap_new hn2 bA0_1
      have bA1_2 := heap_new hn2 bA1_1
      clear bA0_1_c0 bA0_1_c1 bA0_1_c2 bA1_1_c0 bA1_1_c1
      clear bA0_1 bA1_1 hn2
      rw [szOf_hi (by omega)]
      have bA0_2_c0 := cell_of_heap bA0_2 0
      have bA0_2_c1 := cell_of_heap bA0_2 1
      have bA0_2_c2 := cell_of_heap bA0_2 2
      have bA1_2_c0 := cell_of_heap bA1_2 0
      have bA1_2_c1 := cell_of_heap bA1_2 1
      go_wp2_with fail
      go_cut [6, 7] (fun p6 p7 wx => ∃ b6 aWa dWa aWb dWb aWc dWc, p6 = .pointer (some ⟨b6, 0, none⟩) ∧ p7 = .bool t ∧ New w wx ∧ w2.heap.size ≤ wx.heap.size ∧ w.heap.size + 1 < b6 ∧ b6 < wx.heap.size ∧ wx.heap[b6]? = some (.cells #[.int .i64 0, .slice aWa (Rec.pk t StartM.zeros).length dWa, .slice aWb (Rec.pk t ya1).length dWb, .slice aWc (Rec.pk t yb1).length dWc] 31) ∧ Rec.MachR wx w.heap.size wx.heap.size (.slice aWa (Rec.pk t StartM.zeros).length dWa) (.slice aWb (Rec.pk t ya1).length dWb) (.slice aWc (Rec.pk t yb1).length dWc) (Rec.pk t StartM.zeros) (Rec.pk t ya1) (Rec.pk t yb1) ∧ wx.heap[w.heap.size]? = some (.cells #[ta0, tb0, tc0] 57) ∧ wx.heap[w.heap.size + 1]? = some (.cells #[ma1, mb1] 58))
      case first =>
        have hn3 : New w2 w2.drew := (Kp.refl _ _).drew
        have z3 : w2.heap.size ≤ w2.drew.heap.size := hn3.size
        have N3 : New w w2.drew := N2.trans hn3
        have bA0_3 := heap_new hn3 bA0_2
        have bA1_3 := heap_new hn3 bA1_2
        clear bA0_2_c0 bA0_2_c1 bA0_2_c2 bA1_2_c0 bA1_2_c1
        clear bA0_2 bA1_2 hn3
        have bA0_3_c0 := cell_of_heap bA0_3 0
        have bA0_3_c1 := cell_of_heap bA0_3 1
        have bA0_3_c2 := cell_of_heap bA0_3 2
        have bA1_3_c0 := cell_of_heap bA1_3 0
        have bA1_3_c1 := cell_of_heap bA1_3 1
        refine wp_region_tail (k := 9) (S := fun w' => w'.cell? ⟨w.heap.size, 0, none⟩ = some (ta0) ∧ w'.cell? ⟨w.heap.size, 1, none⟩ = some (tb0) ∧ w'.cell? ⟨w.heap.size, 2, none⟩ = some (tc0) ∧ w'.cell? ⟨w.heap.size + 1, 0, none⟩ = some (ma1) ∧ w'.cell? ⟨w.heap.size + 1, 1, none⟩ = some (mb1)) (by kernel_rfl) ?_ (fun hHeld => ?_)
        · exact ⟨bA0_3_c0, bA0_3_c1, bA0_3_c2, bA1_3_c0, bA1_3_c1⟩
        refine AnyK.take (i := 0) (v := ?vq1) rfl (by kernel_rfl) (by kernel_rfl) (by kernel_rfl) (by kernel_rfl) (fun _ _ _ h => h) (Or.inl ⟨by kernel_rfl, ?yq1⟩) (by assumption) ?rq1
        case yq1 =>
          intro w hSw
          try dsimp only at hSw
          go_simp
          try with_reducible rfl
        try simp only [Act.put, List.getElem_toArray, List.getElem_cons_zero, List.setIfInBounds_toArray, List.set_cons_zero, List.set_cons_succ]
        refine AnyK.take (i := 2) (v := ?vq2) rfl (by kernel_rfl) (by kernel_rfl) (by kernel_rfl) (by kernel_rfl) (fun _ _ _ h => h) (Or.inl ⟨by kernel_rfl, ?yq2⟩) (by assumption) ?rq2
        case yq2 =>
          intro w hSw
          try dsimp only at hSw
          go_simp
          try with_reducible rfl
        try simp only [Act.put, List.getElem_toArray, List.getElem_cons_zero, List.getElem_cons_succ, List.setIfInBounds_toArray, List.set_cons_zero, List.set_cons_succ]
        refine AnyK.two (i := 1) (j := 8) (by kernel_rfl) rfl rfl (fun K hK => ?_) (fun K hK => ?_)
        · go_simp
          refine (ToO.toCode _ 0 w.heap.size _ _ _ _ _ _ (sa0.new (Nat.le_refl _) N3) (sb0.new (Nat.le_refl _) N3) (s0.new (Nat.le_refl _) N3) (by omega) (by omega) (by omega) (by omega)).mono ?_
          rintro e w4 ⟨vP0a, vP0b, vP0c, rfl, hn4, qP0⟩
          have z4 : w2.drew.heap.size ≤ w4.heap.size := hn4.size
          have N4 : New w w4 := N3.trans hn4
          have bA0_4 := heap_new hn4 bA0_3
          have bA1_4 := heap_new hn4 bA1_3
          clear bA0_3_c0 bA0_3_c1 bA0_3_c2 bA1_3_c0 bA1_3_c1
          clear bA0_3 bA1_3 hn4
          have oP0_4 := qP0
          clear qP0
          have bA0_4_c0 := cell_of_heap bA0_4 0
          have bA0_4_c1 := cell_of_heap bA0_4 1
          have bA0_4_c2 := cell_of_heap bA0_4 2
          have bA1_4_c0 := cell_of_heap bA1_4 0
          have bA1_4_c1 := cell_of_heap bA1_4 1
          refine hK.out _ _ ?_ (fun hHeld2 => ?_)
          · exact ⟨bA0_4_c0, bA0_4_c1, bA0_4_c2, bA1_4_c0, bA1_4_c1⟩
          clear hK K hHeld
          have hHeld := hHeld2
          clear hHeld2
          try simp only [Act.put, List.getElem_toArray, List.getElem_cons_zero, List.getElem_cons_succ, List.setIfInBounds_toArray, List.set_cons_zero, List.set_cons_succ]
          refine AnyK.two (i := 3) (j := 8) (by kernel_rfl) rfl rfl (fun K hK => ?_) (fun K hK => ?_)
          · go_simp
            refine (ToO.toMemory _ 0 w.heap.size _ _ _ _ (ra1.new (Nat.le_refl _) N4) (rb1.new (Nat.le_refl _) N4) (by omega) (by omega) (by omega)).mono ?_
            rintro e w5 ⟨vP1a, vP1b, rfl, hn5, qP1⟩
            have z5 : w4.heap.size ≤ w5.heap.size := hn5.size
            have N5 : New w w5 := N4.trans hn5
            have bA0_5 := heap_new hn5 bA0_4
            have bA1_5 := heap_new hn5 bA1_4
            have oP0_5 := oP0_4.new (by omega) hn5
            clear bA0_4_c0 bA0_4_c1 bA0_4_c2 bA1_4_c0 bA1_4_c1
            clear bA0_4 bA1_4 oP0_4 hn5
            have oP1_5 := qP1
            clear qP1
            have bA0_5_c0 := cell_of_heap bA0_5 0
            have bA0_5_c1 := cell_of_heap bA0_5 1
            have bA0_5_c2 := cell_of_heap bA0_5 2
            have bA1_5_c0 := cell_of_heap bA1_5 0
            have bA1_5_c1 := cell_of_heap bA1_5 1
            refine hK.out _ _ ?_ (fun hHeld2 => ?_)
            · exact ⟨bA0_5_c0, bA0_5_c1, bA0_5_c2, bA1_5_c0, bA1_5_c1⟩
            clear hK K hHeld
            have hHeld := hHeld2
            clear hHeld2
            try simp only [Act.put, List.getElem_toArray, List.getElem_cons_zero, List.getElem_cons_succ, List.setIfInBounds_toArray, List.set_cons_zero, List.set_cons_succ]
            refine AnyK.two (i := 4) (j := 8) (by kernel_rfl) rfl rfl (fun K hK => ?_) (fun K hK => ?_)
            · go_simp
              refine (StartC.specS _ _ _ _ _ _ _ _ _ _ _ _ _ _ _ oP0_5.toR.1 oP0_5.toR.2.1 oP0_5.toR.2.2 (by omega) oP1_5.toR.1 oP1_5.toR.2 (by omega) (by omega) (by omega) hrow.out).mono ?_
              rintro e w6 ⟨vWa, vWb, vWc, rfl, hn6, qW⟩
              have z6 : w5.heap.size ≤ w6.heap.size := hn6.size
              have N6 : New w w6 := N5.trans hn6
              have bA0_6 := heap_new hn6 bA0_5
              have bA1_6 := heap_new hn6 bA1_5
              have oP0_6 := oP0_5.new (by omega) hn6
              have oP1_6 := oP1_5.new (by omega) hn6
              clear bA0_5_c0 bA0_5_c1 bA0_5_c2 bA1_5_c0 bA1_5_c1
              clear bA0_5 bA1_5 oP0_5 oP1_5 hn6
              rw [ht.out] at qW
              rw [ht.out]
              have oW_6 := qW
              clear qW
              obtain ⟨⟨aWa, dWa, eWa⟩, ⟨aWb, dWb, eWb⟩, aWc, dWc, eWc⟩ := oW_6.toR.lens
              subst eWa
              subst eWb
              subst eWc
              have bA0_6_c0 := cell_of_heap bA0_6 0
              have bA0_6_c1 := cell_of_heap bA0_6 1
              have bA0_6_c2 := cell_of_heap bA0_6 2
              have bA1_6_c0 := cell_of_heap bA1_6 0
              have bA1_6_c1 := cell_of_heap bA1_6 1
              refine hK.out _ _ ?_ (fun hHeld2 => ?_)
              · exact ⟨bA0_6_c0, bA0_6_c1, bA0_6_c2, bA1_6_c0, bA1_6_c1⟩
              clear hK K hHeld
              have hHeld := hHeld2
              clear hHeld2
              try simp only [Act.put, List.getElem_toArray, List.getElem_cons_zero, List.getElem_cons_succ, List.setIfInBounds_toArray, List.set_cons_zero, List.set_cons_succ]
              refine AnyK.takeW (i := 5) (v := ?vq3) rfl (by kernel_rfl) (by kernel_rfl) (by kernel_rfl) (by kernel_rfl) (fun _ _ _ h => h) (Or.inl ⟨by kernel_rfl, ?yq3⟩) (by assumption) ?rq3
              case yq3 =>
                intro w hSw
                try dsimp only at hSw
                go_simp
                try with_reducible rfl
              try simp only [Act.put, List.getElem_toArray, List.getElem_cons_zero, List.getElem_cons_succ, List.setIfInBounds_toArray, List.set_cons_zero, List.set_cons_succ]
              refine AnyK.takeW (i := 6) (v := ?vq4) rfl (by kernel_rfl) (by kernel_rfl) (by kernel_rfl) (by kernel_rfl) (fun _ _ _ h => h) (Or.inl ⟨by kernel_rfl, ?yq4⟩) (by assumption) ?rq4
              case yq4 =>
                intro w hSw
                try dsimp only at hSw
                go_simp
                try with_reducible rfl
              try simp only [Act.put, List.getElem_toArray, List.getElem_cons_zero, List.getElem_cons_succ, List.setIfInBounds_toArray, List.set_cons_zero, List.set_cons_succ]
              refine AnyK.takeW (i := 7) (v := ?vq5) rfl (by kernel_rfl) (by kernel_rfl) (by kernel_rfl) (by kernel_rfl) (fun _ _ _ h => h) (Or.inl ⟨by kernel_rfl, ?yq5⟩) (by assumption) ?rq5
              case yq5 =>
                intro w hSw
                try dsimp only at hSw
                go_simp
                try with_reducible rfl
              try simp only [Act.put, List.getElem_toArray, List.getElem_cons_zero, List.getElem_cons_succ, List.setIfInBounds_toArray, List.set_cons_zero, List.set_cons_succ]
              refine AnyK.step (i := 8) (by kernel_rfl) rfl (fun K hK => ?_)
              go_simp
              have hn7 : New w6 (w6.alloc (.cells #[.int .i64 0, .slice none 0 0, .slice none 0 0, .slice none 0 0] 31)) := (show New w6 (w6.alloc (.cells #[.int .i64 0, .slice none 0 0, .slice none 0 0, .slice none 0 0] 31)) from (Kp.refl _ _).alloc _)
              have z7 : w6.heap.size < (w6.alloc (.cells #[.int .i64 0, .slice none 0 0, .slice none 0 0, .slice none 0 0] 31)).heap.size := (show w6.heap.size < (w6.alloc (.cells #[.int .i64 0, .slice none 0 0, .slice none 0 0, .slice none 0 0] 31)).heap.size from Rec.lt_alloc _ _)
              have N7 := N6.trans hn7
              have bA0_7 := heap_new hn7 bA0_6
              have bA1_7 := heap_new hn7 bA1_6
              have oP0_7 := oP0_6.new (by omega) hn7
              have oP1_7 := oP1_6.new (by omega) hn7
              have oW_7 := oW_6.new (by omega) hn7
              have bZ_7 : (w6.alloc (.cells #[.int .i64 0, .slice none 0 0, .slice none 0 0, .slice none 0 0] 31)).heap[w6.heap.size]? = some (.cells #[.int .i64 0, .slice none 0 0, .slice none 0 0, .slice none 0 0] 31) := (show (w6.alloc (.cells #[.int .i64 0, .slice none 0 0, .slice none 0 0, .slice none 0 0] 31)).heap[w6.heap.size]? = _ from alloc_heap _ _)
              clear bA0_6_c0 bA0_6_c1 bA0_6_c2 bA1_6_c0 bA1_6_c1
              clear bA0_6 bA1_6 oP0_6 oP1_6 oW_6 hn7
              generalize (w6.alloc (.cells #[.int .i64 0, .slice none 0 0, .slice none 0 0, .slice none 0 0] 31)) = w7 at *
              have bA0_7_c0 := cell_of_heap bA0_7 0
              have bA0_7_c1 := cell_of_heap bA0_7 1
              have bA0_7_c2 := cell_of_heap bA0_7 2
              have bA1_7_c0 := cell_of_heap bA1_7 0
              have bA1_7_c1 := cell_of_heap bA1_7 1
              refine hK.out _ _ ?_ (fun hHeld2 => ?_)
              · exact ⟨bA0_7_c0, bA0_7_c1, bA0_7_c2, bA1_7_c0, bA1_7_c1⟩
              clear hK K hHeld
              have hHeld := hHeld2
              clear hHeld2
              try simp only [Act.put, List.getElem_toArray, List.getElem_cons_zero, List.getElem_cons_succ, List.setIfInBounds_toArray, List.set_cons_zero, List.set_cons_succ]
              refine AnyK.last (by kernel_rfl) ?_
              simp only [List.drop_succ_cons, List.drop_zero]
              clear hHeld
              have bZ_7_c0 := cell_of_heap bZ_7 0
              have bZ_7_c1 := cell_of_heap bZ_7 1
              have bZ_7_c2 := cell_of_heap bZ_7 2
              have bZ_7_c3 := cell_of_heap bZ_7 3
              have bZ_7_f := frozen_of_heap bZ_7
              go_wp2_with fail
              go_meet
              have hkz := setMany_kp (w6.heap.size) [.int .i64 0, .slice aWa (Rec.pk t StartM.zeros).length dWa, .slice aWb (Rec.pk t ya1).length dWb, .slice aWc (Rec.pk t yb1).length dWc] w7 0
              have zs := setMany_size (w6.heap.size) [.int .i64 0, .slice aWa (Rec.pk t StartM.zeros).length dWa, .slice aWb (Rec.pk t ya1).length dWb, .slice aWc (Rec.pk t yb1).length dWc] w7 0
              have hR := setMany_row [.int .i64 0, .slice aWa (Rec.pk t StartM.zeros).length dWa, .slice aWb (Rec.pk t ya1).length dWb, .slice aWc (Rec.pk t yb1).length dWc] bZ_7 rfl
              have zb := heap_lt bZ_7
              have hMO := (oW_7.toR.kp hkz (by omega) (fun x e => by omega)).mono (lo' := w.heap.size) (hi' := (setMany w7 (w6.heap.size) 0 [.int .i64 0, .slice aWa (Rec.pk t StartM.zeros).length dWa, .slice aWb (Rec.pk t ya1).length dWb, .slice aWc (Rec.pk t yb1).length dWc]).heap.size) (by omega) (by omega)
              have hpz : w2.heap.size ≤ (setMany w7 (w6.heap.size) 0 [.int .i64 0, .slice aWa (Rec.pk t StartM.zeros).length dWa, .slice aWb (Rec.pk t ya1).length dWb, .slice aWc (Rec.pk t yb1).length dWc]).heap.size := by omega
              exact ⟨w6.heap.size, _, _, _, _, _, _, rfl, rfl, New.one N7 hkz (by omega), hpz, by omega, zb2 zb zs, hR, hMO, setMany_other [.int .i64 0, .slice aWa (Rec.pk t StartM.zeros).length dWa, .slice aWb (Rec.pk t ya1).length dWb, .slice aWc (Rec.pk t yb1).length dWc] 0 bA0_7 (by omega), setMany_other [.int .i64 0, .slice aWa (Rec.pk t StartM.zeros).length dWa, .slice aWb (Rec.pk t ya1).length dWb, .slice aWc (Rec.pk t yb1).length dWc] 0 bA1_7 (by omega)⟩
            · go_simp
              have hn6 : New w5 (w5.alloc (.cells #[.int .i64 0, .slice none 0 0, .slice none 0 0, .slice none 0 0] 31)) := (show New w5 (w5.alloc (.cells #[.int .i64 0, .slice none 0 0, .slice none 0 0, .slice none 0 0] 31)) from (Kp.refl _ _).alloc _)
              have z6 : w5.heap.size < (w5.alloc (.cells #[.int .i64 0, .slice none 0 0, .slice none 0 0, .slice none 0 0] 31)).heap.size := (show w5.heap.size < (w5.alloc (.cells #[.int .i64 0, .slice none 0 0, .slice none 0 0, .slice none 0 0] 31)).heap.size from Rec.lt_alloc _ _)
              have N6 := N5.trans hn6
              have bA0_6 := heap_new hn6 bA0_5
              have bA1_6 := heap_new hn6 bA1_5
              have oP0_6 := oP0_5.new (by omega) hn6
              have oP1_6 := oP1_5.new (by omega) hn6
              have bZ_6 : (w5.alloc (.cells #[.int .i64 0, .slice none 0 0, .slice none 0 0, .slice none 0 0] 31)).heap[w5.heap.size]? = some (.cells #[.int .i64 0, .slice none 0 0, .slice none 0 0, .slice none 0 0] 31) := (show (w5.alloc (.cells #[.int .i64 0, .slice none 0 0, .slice none 0 0, .slice none 0 0] 31)).heap[w5.heap.size]? = _ from alloc_heap _ _)
              clear bA0_5_c0 bA0_5_c1 bA0_5_c2 bA1_5_c0 bA1_5_c1
              clear bA0_5 bA1_5 oP0_5 oP1_5 hn6
              generalize (w5.alloc (.cells #[.int .i64 0, .slice none 0 0, .slice none 0 0, .slice none 0 0] 31)) = w6 at *
              have bA0_6_c0 := cell_of_heap bA0_6 0
              have bA0_6_c1 := cell_of_heap bA0_6 1
              have bA0_6_c2 := cell_of_heap bA0_6 2
              have bA1_6_c0 := cell_of_heap bA1_6 0
              have bA1_6_c1 := cell_of_heap bA1_6 1
              refine hK.out _ _ ?_ (fun hHeld2 => ?_)
              · exact ⟨bA0_6_c0, bA0_6_c1, bA0_6_c2, bA1_6_c0, bA1_6_c1⟩
              clear hK K hHeld
              have hHeld := hHeld2
              clear hHeld2
              try simp only [Act.put, List.getElem_toArray, List.getElem_cons_zero, List.getElem_cons_succ, List.setIfInBounds_toArray, List.set_cons_zero, List.set_cons_succ]
              refine AnyK.step (i := 4) (by kernel_rfl) rfl (fun K hK => ?_)
              go_simp
              refine (StartC.specS _ _ _ _ _ _ _ _ _ _ _ _ _ _ _ oP0_6.toR.1 oP0_6.toR.2.1 oP0_6.toR.2.2 (by omega) oP1_6.toR.1 oP1_6.toR.2 (by omega) (by omega) (by omega) hrow.out).mono ?_
              rintro e w7 ⟨vWa, vWb, vWc, rfl, hn7, qW⟩
              have z7 : w6.heap.size ≤ w7.heap.size := hn7.size
              have N7 : New w w7 := N6.trans hn7
              have bA0_7 := heap_new hn7 bA0_6
              have bA1_7 := heap_new hn7 bA1_6
              have bZ_7 := heap_new hn7 bZ_6
              have oP0_7 := oP0_6.new (by omega) hn7
              have oP1_7 := oP1_6.new (by omega) hn7
              clear bA0_6_c0 bA0_6_c1 bA0_6_c2 bA1_6_c0 bA1_6_c1
              clear bA0_6 bA1_6 bZ_6 oP0_6 oP1_6 hn7
              rw [ht.out] at qW
              rw [ht.out]
              have oW_7 := qW
              clear qW
              obtain ⟨⟨aWa, dWa, eWa⟩, ⟨aWb, dWb, eWb⟩, aWc, dWc, eWc⟩ := oW_7.toR.lens
              subst eWa
              subst eWb
              subst eWc
              have bA0_7_c0 := cell_of_heap bA0_7 0
              have bA0_7_c1 := cell_of_heap bA0_7 1
              have bA0_7_c2 := cell_of_heap bA0_7 2
              have bA1_7_c0 := cell_of_heap bA1_7 0
              have bA1_7_c1 := cell_of_heap bA1_7 1
              refine hK.out _ _ ?_ (fun hHeld2 => ?_)
              · exact ⟨bA0_7_c0, bA0_7_c1, bA0_7_c2, bA1_7_c0, bA1_7_c1⟩
              clear hK K hHeld
              have hHeld := hHeld2
              clear hHeld2
              try simp only [Act.put, List.getElem_toArray, List.getElem_cons_zero, List.getElem_cons_succ, List.setIfInBounds_toArray, List.set_cons_zero, List.set_cons_succ]
              refine AnyK.takeW (i := 5) (v := ?vq6) rfl (by kernel_rfl) (by kernel_rfl) (by kernel_rfl) (by kernel_rfl) (fun _ _ _ h => h) (Or.inl ⟨by kernel_rfl, ?yq6⟩) (by assumption) ?rq6
              case yq6 =>
                intro w hSw
                try dsimp only at hSw
                go_simp
                try with_reducible rfl
              try simp only [Act.put, List.getElem_toArray, List.getElem_cons_zero, List.getElem_cons_succ, List.setIfInBounds_toArray, List.set_cons_zero, List.set_cons_succ]
              refine AnyK.takeW (i := 6) (v := ?vq7) rfl (by kernel_rfl) (by kernel_rfl) (by kernel_rfl) (by kernel_rfl) (fun _ _ _ h => h) (Or.inl ⟨by kernel_rfl, ?yq7⟩) (by assumption) ?rq7
              case yq7 =>
                intro w hSw
                try dsimp only at hSw
                go_simp
                try with_reducible rfl
              try simp only [Act.put, List.getElem_toArray, List.getElem_cons_zero, List.getElem_cons_succ, List.setIfInBounds_toArray, List.set_cons_zero, List.set_cons_succ]
              refine AnyK.takeW (i := 7) (v := ?vq8) rfl (by kernel_rfl) (by kernel_rfl) (by kernel_rfl) (by kernel_rfl) (fun _ _ _ h => h) (Or.inl ⟨by kernel_rfl, ?yq8⟩) (by assumption) ?rq8
              case yq8 =>
                intro w hSw
                try dsimp only at hSw
                go_simp
                try with_reducible rfl
              try simp only [Act.put, List.getElem_toArray, List.getElem_cons_zero, List.getElem_cons_succ, List.setIfInBounds_toArray, List.set_cons_zero, List.set_cons_succ]
              refine AnyK.last (by kernel_rfl) ?_
              simp only [List.drop_succ_cons, List.drop_zero]
              clear hHeld
              have bZ_7_c0 := cell_of_heap bZ_7 0
              have bZ_7_c1 := cell_of_heap bZ_7 1
              have bZ_7_c2 := cell_of_heap bZ_7 2
              have bZ_7_c3 := cell_of_heap bZ_7 3
              have bZ_7_f := frozen_of_heap bZ_7
              go_wp2_with fail
              go_meet
              have hkz := setMany_kp (w5.heap.size) [.int .i64 0, .slice aWa (Rec.pk t StartM.zeros).length dWa, .slice aWb (Rec.pk t ya1).length dWb, .slice aWc (Rec.pk t yb1).length dWc] w7 0
              have zs := setMany_size (w5.heap.size) [.int .i64 0, .slice aWa (Rec.pk t StartM.zeros).length dWa, .slice aWb (Rec.pk t ya1).length dWb, .slice aWc (Rec.pk t yb1).length dWc] w7 0
              have hR := setMany_row [.int .i64 0, .slice aWa (Rec.pk t StartM.zeros).length dWa, .slice aWb (Rec.pk t ya1).length dWb, .slice aWc (Rec.pk t yb1).length dWc] bZ_7 rfl
              have zb := heap_lt bZ_7
              have hMO := (oW_7.toR.kp hkz (by omega) (fun x e => by omega)).mono (lo' := w.heap.size) (hi' := (setMany w7 (w5.heap.size) 0 [.int .i64 0, .slice aWa (Rec.pk t StartM.zeros).length dWa, .slice aWb (Rec.pk t ya1).length dWb, .slice aWc (Rec.pk t yb1).length dWc]).heap.size) (by omega) (by omega)
              have hpz : w2.heap.size ≤ (setMany w7 (w5.heap.size) 0 [.int .i64 0, .slice aWa (Rec.pk t StartM.zeros).length dWa, .slice aWb (Rec.pk t ya1).length dWb, .slice aWc (Rec.pk t yb1).length dWc]).heap.size := by omega
              exact ⟨w5.heap.size, _, _, _, _, _, _, rfl, rfl, New.one N7 hkz (by omega), hpz, by omega, zb2 zb zs, hR, hMO, setMany_other [.int .i64 0, .slice aWa (Rec.pk t StartM.zeros).length dWa, .slice aWb (Rec.pk t ya1).length dWb, .slice aWc (Rec.pk t yb1).length dWc] 0 bA0_7 (by omega), setMany_other [.int .i64 0, .slice aWa (Rec.pk t StartM.zeros).length dWa, .slice aWb (Rec.pk t ya1).length dWb, .slice aWc (Rec.pk t yb1).length dWc] 0 bA1_7 (by omega)⟩
          · go_simp
            have hn5 : New w4 (w4.alloc (.cells #[.int .i64 0, .slice none 0 0, .slice none 0 0, .slice none 0 0] 31)) := (show New w4 (w4.alloc (.cells #[.int .i64 0, .slice none 0 0, .slice none 0 0, .slice none 0 0] 31)) from (Kp.refl _ _).alloc _)
            have z5 : w4.heap.size < (w4.alloc (.cells #[.int .i64 0, .slice none 0 0, .slice none 0 0, .slice none 0 0] 31)).heap.size := (show w4.heap.size < (w4.alloc (.cells #[.int .i64 0, .slice none 0 0, .slice none 0 0, .slice none 0 0] 31)).heap.size from Rec.lt_alloc _ _)
            have N5 := N4.trans hn5
            have bA0_5 := heap_new hn5 bA0_4
            have bA1_5 := heap_new hn5 bA1_4
            have oP0_5 := oP0_4.new (by omega) hn5
            have bZ_5 : (w4.alloc (.cells #[.int .i64 0, .slice none 0 0, .slice none 0 0, .slice none 0 0] 31)).heap[w4.heap.size]? = some (.cells #[.int .i64 0, .slice none 0 0, .slice none 0 0, .slice none 0 0] 31) := (show (w4.alloc (.cells #[.int .i64 0, .slice none 0 0, .slice none 0 0, .slice none 0 0] 31)).heap[w4.heap.size]? = _ from alloc_heap _ _)
            clear bA0_4_c0 bA0_4_c1 bA0_4_c2 bA1_4_c0 bA1_4_c1
            clear bA0_4 bA1_4 oP0_4 hn5
            generalize (w4.alloc (.cells #[.int .i64 0, .slice none 0 0, .slice none 0 0, .slice none 0 0] 31)) = w5 at *
            have bA0_5_c0 := cell_of_heap bA0_5 0
            have bA0_5_c1 := cell_of_heap bA0_5 1
            have bA0_5_c2 := cell_of_heap bA0_5 2
            have bA1_5_c0 := cell_of_heap bA1_5 0
            have bA1_5_c1 := cell_of_heap bA1_5 1
            refine hK.out _ _ ?_ (fun hHeld2 => ?_)
            · exact ⟨bA0_5_c0, bA0_5_c1, bA0_5_c2, bA1_5_c0, bA1_5_c1⟩
            clear hK K hHeld
            have hHeld := hHeld2
            clear hHeld2
            try simp only [Act.put, List.getElem_toArray, List.getElem_cons_zero, List.getElem_cons_succ, List.setIfInBounds_toArray, List.set_cons_zero, List.set_cons_succ]
            refine AnyK.step (i := 3) (by kernel_rfl) rfl (fun K hK => ?_)
            go_simp
            refine (ToO.toMemory _ 0 w.heap.size _ _ _ _ (ra1.new (Nat.le_refl _) N5) (rb1.new (Nat.le_refl _) N5) (by omega) (by omega) (by omega)).mono ?_
            rintro e w6 ⟨vP1a, vP1b, rfl, hn6, qP1⟩
            have z6 : w5.heap.size ≤ w6.heap.size := hn6.size
            have N6 : New w w6 := N5.trans hn6
            have bA0_6 := heap_new hn6 bA0_5
            have bA1_6 := heap_new hn6 bA1_5
            have bZ_6 := heap_new hn6 bZ_5
            have oP0_6 := oP0_5.new (by omega) hn6
            clear bA0_5_c0 bA0_5_c1 bA0_5_c2 bA1_5_c0 bA1_5_c1
            clear bA0_5 bA1_5 bZ_5 oP0_5 hn6
            have oP1_6 := qP1
            clear qP1
            have bA0_6_c0 := cell_of_heap bA0_6 0
            have bA0_6_c1 := cell_of_heap bA0_6 1
            have bA0_6_c2 := cell_of_heap bA0_6 2
            have bA1_6_c0 := cell_of_heap bA1_6 0
            have bA1_6_c1 := cell_of_heap bA1_6 1
            refine hK.out _ _ ?_ (fun hHeld2 => ?_)
            · exact ⟨bA0_6_c0, bA0_6_c1, bA0_6_c2, bA1_6_c0, bA1_6_c1⟩
            clear hK K hHeld
            have hHeld := hHeld2
            clear hHeld2
            try simp only [Act.put, List.getElem_toArray, List.getElem_cons_zero, List.getElem_cons_succ, List.setIfInBounds_toArray, List.set_cons_zero, List.set_cons_succ]
            refine AnyK.step (i := 4) (by kernel_rfl) rfl (fun K hK => ?_)
            go_simp
            refine (StartC.specS _ _ _ _ _ _ _ _ _ _ _ _ _ _ _ oP0_6.toR.1 oP0_6.toR.2.1 oP0_6.toR.2.2 (by omega) oP1_6.toR.1 oP1_6.toR.2 (by omega) (by omega) (by omega) hrow.out).mono ?_
            rintro e w7 ⟨vWa, vWb, vWc, rfl, hn7, qW⟩
            have z7 : w6.heap.size ≤ w7.heap.size := hn7.size
            have N7 : New w w7 := N6.trans hn7
            have bA0_7 := heap_new hn7 bA0_6
            have bA1_7 := heap_new hn7 bA1_6
            have bZ_7 := heap_new hn7 bZ_6
            have oP0_7 := oP0_6.new (by omega) hn7
            have oP1_7 := oP1_6.new (by omega) hn7
            clear bA0_6_c0 bA0_6_c1 bA0_6_c2 bA1_6_c0 bA1_6_c1
            clear bA0_6 bA1_6 bZ_6 oP0_6 oP1_6 hn7
            rw [ht.out] at qW
            rw [ht.out]
            have oW_7 := qW
            clear qW
            obtain ⟨⟨aWa, dWa, eWa⟩, ⟨aWb, dWb, eWb⟩, aWc, dWc, eWc⟩ := oW_7.toR.lens
            subst eWa
            subst eWb
            subst eWc
            have bA0_7_c0 := cell_of_heap bA0_7 0
            have bA0_7_c1 := cell_of_heap bA0_7 1
            have bA0_7_c2 := cell_of_heap bA0_7 2
            have bA1_7_c0 := cell_of_heap bA1_7 0
            have bA1_7_c1 := cell_of_heap bA1_7 1
            refine hK.out _ _ ?_ (fun hHeld2 => ?_)
            · exact ⟨bA0_7_c0, bA0_7_c1, bA0_7_c2, bA1_7_c0, bA1_7_c1⟩
            clear hK K hHeld
            have hHeld := hHeld2
            clear hHeld2
            try simp only [Act.put, List.getElem_toArray, List.getElem_cons_zero, List.getElem_cons_succ, List.setIfInBounds_toArray, List.set_cons_zero, List.set_cons_succ]
            refine AnyK.takeW (i := 5) (v := ?vq9) rfl (by kernel_rfl) (by kernel_rfl) (by kernel_rfl) (by kernel_rfl) (fun _ _ _ h => h) (Or.inl ⟨by kernel_rfl, ?yq9⟩) (by assumption) ?rq9
            case yq9 =>
              intro w hSw
              try dsimp only at hSw
              go_simp
              try with_reducible rfl
            try simp only [Act.put, List.getElem_toArray, List.getElem_cons_zero, List.getElem_cons_succ, List.setIfInBounds_toArray, List.set_cons_zero, List.set_cons_succ]
            refine AnyK.takeW (i := 6) (v := ?vq10) rfl (by kernel_rfl) (by kernel_rfl) (by kernel_rfl) (by kernel_rfl) (fun _ _ _ h => h) (Or.inl ⟨by kernel_rfl, ?yq10⟩) (by assumption) ?rq10
            case yq10 =>
              intro w hSw
              try dsimp only at hSw
              go_simp
              try with_reducible rfl
            try simp only [Act.put, List.getElem_toArray, List.getElem_cons_zero, List.getElem_cons_succ, List.setIfInBounds_toArray, List.set_cons_zero, List.set_cons_succ]
            refine AnyK.takeW (i := 7) (v := ?vq11) rfl (by kernel_rfl) (by kernel_rfl) (by kernel_rfl) (by kernel_rfl) (fun _ _ _ h => h) (Or.inl ⟨by kernel_rfl, ?yq11⟩) (by assumption) ?rq11
            case yq11 =>
              intro w hSw
              try dsimp only at hSw
              go_simp
              try with_reducible rfl
            try simp only [Act.put, List.getElem_toArray, List.getElem_cons_zero, List.getElem_cons_succ, List.setIfInBounds_toArray, List.set_cons_zero, List.set_cons_succ]
            refine AnyK.last (by kernel_rfl) ?_
            simp only [List.drop_succ_cons, List.drop_zero]
            clear hHeld
            have bZ_7_c0 := cell_of_heap bZ_7 0
            have bZ_7_c1 := cell_of_heap bZ_7 1
            have bZ_7_c2 := cell_of_heap bZ_7 2
            have bZ_7_c3 := cell_of_heap bZ_7 3
            have bZ_7_f := frozen_of_heap bZ_7
            go_wp2_with fail
            go_meet
            have hkz := setMany_kp (w4.heap.size) [.int .i64 0, .slice aWa (Rec.pk t StartM.zeros).length dWa, .slice aWb (Rec.pk t ya1).length dWb, .slice aWc (Rec.pk t yb1).length dWc] w7 0
            have zs := setMany_size (w4.heap.size) [.int .i64 0, .slice aWa (Rec.pk t StartM.zeros).length dWa, .slice aWb (Rec.pk t ya1).length dWb, .slice aWc (Rec.pk t yb1).length dWc] w7 0
            have hR := setMany_row [.int .i64 0, .slice aWa (Rec.pk t StartM.zeros).length dWa, .slice aWb (Rec.pk t ya1).length dWb, .slice aWc (Rec.pk t yb1).length dWc] bZ_7 rfl
            have zb := heap_lt bZ_7
            have hMO := (oW_7.toR.kp hkz (by omega) (fun x e => by omega)).mono (lo' := w.heap.size) (hi' := (setMany w7 (w4.heap.size) 0 [.int .i64 0, .slice aWa (Rec.pk t StartM.zeros).length dWa, .slice aWb (Rec.pk t ya1).length dWb, .slice aWc (Rec.pk t yb1).length dWc]).heap.size) (by omega) (by omega)
            have hpz : w2.heap.size ≤ (setMany w7 (w4.heap.size) 0 [.int .i64 0, .slice aWa (Rec.pk t StartM.zeros).length dWa, .slice aWb (Rec.pk t ya1).length dWb, .slice aWc (Rec.pk t yb1).length dWc]).heap.size := by omega
            exact ⟨w4.heap.size, _, _, _, _, _, _, rfl, rfl, New.one N7 hkz (by omega), hpz, by omega, zb2 zb zs, hR, hMO, setMany_other [.int .i64 0, .slice aWa (Rec.pk t StartM.zeros).length dWa, .slice aWb (Rec.pk t ya1).length dWb, .slice aWc (Rec.pk t yb1).length dWc] 0 bA0_7 (by omega), setMany_other [.int .i64 0, .slice aWa (Rec.pk t StartM.zeros).length dWa, .slice aWb (Rec.pk t ya1).length dWb, .slice aWc (Rec.pk t yb1).length dWc] 0 bA1_7 (by omega)⟩
        · go_simp
          have hn4 : New w2.drew (w2.alloc (.cells #[.int .i64 0, .slice none 0 0, .slice none 0 0, .slice none 0 0] 31)).drew := (show New w2.drew (w2.drew.alloc (.cells #[.int .i64 0, .slice none 0 0, .slice none 0 0, .slice none 0 0] 31)) from (Kp.refl _ _).alloc _)
          have z4 : w2.drew.heap.size < (w2.alloc (.cells #[.int .i64 0, .slice none 0 0, .slice none 0 0, .slice none 0 0] 31)).drew.heap.size := (show w2.drew.heap.size < (w2.drew.alloc (.cells #[.int .i64 0, .slice none 0 0, .slice none 0 0, .slice none 0 0] 31)).heap.size from Rec.lt_alloc _ _)
          have N4 := N3.trans hn4
          have bA0_4 := heap_new hn4 bA0_3
          have bA1_4 := heap_new hn4 bA1_3
          have bZ_4 : (w2.alloc (.cells #[.int .i64 0, .slice none 0 0, .slice none 0 0, .slice none 0 0] 31)).drew.heap[w2.heap.size]? = some (.cells #[.int .i64 0, .slice none 0 0, .slice none 0 0, .slice none 0 0] 31) := (show (w2.drew.alloc (.cells #[.int .i64 0, .slice none 0 0, .slice none 0 0, .slice none 0 0] 31)).heap[w2.drew.heap.size]? = _ from alloc_heap _ _)
          clear bA0_3_c0 bA0_3_c1 bA0_3_c2 bA1_3_c0 bA1_3_c1
          clear bA0_3 bA1_3 hn4
          generalize (w2.alloc (.cells #[.int .i64 0, .slice none 0 0, .slice none 0 0, .slice none 0 0] 31)).drew = w4 at *
          have bA0_4_c0 := cell_of_heap bA0_4 0
          have bA0_4_c1 := cell_of_heap bA0_4 1
          have bA0_4_c2 := cell_of_heap bA0_4 2
          have bA1_4_c0 := cell_of_heap bA1_4 0
          have bA1_4_c1 := cell_of_heap bA1_4 1
          refine hK.out _ _ ?_ (fun hHeld2 => ?_)
          · exact ⟨bA0_4_c0, bA0_4_c1, bA0_4_c2, bA1_4_c0, bA1_4_c1⟩
          clear hK K hHeld
          have hHeld := hHeld2
          clear hHeld2
          try simp only [Act.put, List.getElem_toArray, List.getElem_cons_zero, List.getElem_cons_succ, List.setIfInBounds_toArray, List.set_cons_zero, List.set_cons_succ]
          refine AnyK.step (i := 1) (by kernel_rfl) rfl (fun K hK => ?_)
          go_simp
          refine (ToO.toCode _ 0 w.heap.size _ _ _ _ _ _ (sa0.new (Nat.le_refl _) N4) (sb0.new (Nat.le_refl _) N4) (s0.new (Nat.le_refl _) N4) (by omega) (by omega) (by omega) (by omega)).mono ?_
          rintro e w5 ⟨vP0a, vP0b, vP0c, rfl, hn5, qP0⟩
          have z5 : w4.heap.size ≤ w5.heap.size := hn5.size
          have N5 : New w w5 := N4.trans hn5
          have bA0_5 := heap_new hn5 bA0_4
          have bA1_5 := heap_new hn5 bA1_4
          have bZ_5 := heap_new hn5 bZ_4
          clear bA0_4_c0 bA0_4_c1 bA0_4_c2 bA1_4_c0 bA1_4_c1
          clear bA0_4 bA1_4 bZ_4 hn5
          have oP0_5 := qP0
          clear qP0
          have bA0_5_c0 := cell_of_heap bA0_5 0
          have bA0_5_c1 := cell_of_heap bA0_5 1
          have bA0_5_c2 := cell_of_heap bA0_5 2
          have bA1_5_c0 := cell_of_heap bA1_5 0
          have bA1_5_c1 := cell_of_heap bA1_5 1
          refine hK.out _ _ ?_ (fun hHeld2 => ?_)
          · exact ⟨bA0_5_c0, bA0_5_c1, bA0_5_c2, bA1_5_c0, bA1_5_c1⟩
          clear hK K hHeld
          have hHeld := hHeld2
          clear hHeld2
          try simp only [Act.put, List.getElem_toArray, List.getElem_cons_zero, List.getElem_cons_succ, List.setIfInBounds_toArray, List.set_cons_zero, List.set_cons_succ]
          refine AnyK.step (i := 3) (by kernel_rfl) rfl (fun K hK => ?_)
          go_simp
          refine (ToO.toMemory _ 0 w.heap.size _ _ _ _ (ra1.new (Nat.le_refl _) N5) (rb1.new (Nat.le_refl _) N5) (by omega) (by omega) (by omega)).mono ?_
          rintro e w6 ⟨vP1a, vP1b, rfl, hn6, qP1⟩
          have z6 : w5.heap.size ≤ w6.heap.size := hn6.size
          have N6 : New w w6 := N5.trans hn6
          have bA0_6 := heap_new hn6 bA0_5
          have bA1_6 := heap_new hn6 bA1_5
          have bZ_6 := heap_new hn6 bZ_5
          have oP0_6 := oP0_5.new (by omega) hn6
          clear bA0_5_c0 bA0_5_c1 bA0_5_c2 bA1_5_c0 bA1_5_c1
          clear bA0_5 bA1_5 bZ_5 oP0_5 hn6
          have oP1_6 := qP1
          clear qP1
          have bA0_6_c0 := cell_of_heap bA0_6 0
          have bA0_6_c1 := cell_of_heap bA0_6 1
          have bA0_6_c2 := cell_of_heap bA0_6 2
          have bA1_6_c0 := cell_of_heap bA1_6 0
          have bA1_6_c1 := cell_of_heap bA1_6 1
          refine hK.out _ _ ?_ (fun hHeld2 => ?_)
          · exact ⟨bA0_6_c0, bA0_6_c1, bA0_6_c2, bA1_6_c0, bA1_6_c1⟩
          clear hK K hHeld
          have hHeld := hHeld2
          clear hHeld2
          try simp only [Act.put, List.getElem_toArray, List.getElem_cons_zero, List.getElem_cons_succ, List.setIfInBounds_toArray, List.set_cons_zero, List.set_cons_succ]
          refine AnyK.step (i := 4) (by kernel_rfl) rfl (fun K hK => ?_)
          go_simp
          refine (StartC.specS _ _ _ _ _ _ _ _ _ _ _ _ _ _ _ oP0_6.toR.1 oP0_6.toR.2.1 oP0_6.toR.2.2 (by omega) oP1_6.toR.1 oP1_6.toR.2 (by omega) (by omega) (by omega) hrow.out).mono ?_
          rintro e w7 ⟨vWa, vWb, vWc, rfl, hn7, qW⟩
          have z7 : w6.heap.size ≤ w7.heap.size := hn7.size
          have N7 : New w w7 := N6.trans hn7
          have bA0_7 := heap_new hn7 bA0_6
          have bA1_7 := heap_new hn7 bA1_6
          have bZ_7 := heap_new hn7 bZ_6
          have oP0_7 := oP0_6.new (by omega) hn7
          have oP1_7 := oP1_6.new (by omega) hn7
          clear bA0_6_c0 bA0_6_c1 bA0_6_c2 bA1_6_c0 bA1_6_c1
          clear bA0_6 bA1_6 bZ_6 oP0_6 oP1_6 hn7
          rw [ht.out] at qW
          rw [ht.out]
          have oW_7 := qW
          clear qW
          obtain ⟨⟨aWa, dWa, eWa⟩, ⟨aWb, dWb, eWb⟩, aWc, dWc, eWc⟩ := oW_7.toR.lens
          subst eWa
          subst eWb
          subst eWc
          have bA0_7_c0 := cell_of_heap bA0_7 0
          have bA0_7_c1 := cell_of_heap bA0_7 1
          have bA0_7_c2 := cell_of_heap bA0_7 2
          have bA1_7_c0 := cell_of_heap bA1_7 0
          have bA1_7_c1 := cell_of_heap bA1_7 1
          refine hK.out _ _ ?_ (fun hHeld2 => ?_)
          · exact ⟨bA0_7_c0, bA0_7_c1, bA0_7_c2, bA1_7_c0, bA1_7_c1⟩
          clear hK K hHeld
          have hHeld := hHeld2
          clear hHeld2
          try simp only [Act.put, List.getElem_toArray, List.getElem_cons_zero, List.getElem_cons_succ, List.setIfInBounds_toArray, List.set_cons_zero, List.set_cons_succ]
          refine AnyK.takeW (i := 5) (v := ?vq12) rfl (by kernel_rfl) (by kernel_rfl) (by kernel_rfl) (by kernel_rfl) (fun _ _ _ h => h) (Or.inl ⟨by kernel_rfl, ?yq12⟩) (by assumption) ?rq12
          case yq12 =>
            intro w hSw
            try dsimp only at hSw
            go_simp
            try with_reducible rfl
          try simp only [Act.put, List.getElem_toArray, List.getElem_cons_zero, List.getElem_cons_succ, List.setIfInBounds_toArray, List.set_cons_zero, List.set_cons_succ]
          refine AnyK.takeW (i := 6) (v := ?vq13) rfl (by kernel_rfl) (by kernel_rfl) (by kernel_rfl) (by kernel_rfl) (fun _ _ _ h => h) (Or.inl ⟨by kernel_rfl, ?yq13⟩) (by assumption) ?rq13
          case yq13 =>
            intro w hSw
            try dsimp only at hSw
            go_simp
            try with_reducible rfl
          try simp only [Act.put, List.getElem_toArray, List.getElem_cons_zero, List.getElem_cons_succ, List.setIfInBounds_toArray, List.set_cons_zero, List.set_cons_succ]
          refine AnyK.takeW (i := 7) (v := ?vq14) rfl (by kernel_rfl) (by kernel_rfl) (by kernel_rfl) (by kernel_rfl) (fun _ _ _ h => h) (Or.inl ⟨by kernel_rfl, ?yq14⟩) (by assumption) ?rq14
          case yq14 =>
            intro w hSw
            try dsimp only at hSw
            go_simp
            try with_reducible rfl
          try simp only [Act.put, List.getElem_toArray, List.getElem_cons_zero, List.getElem_cons_succ, List.setIfInBounds_toArray, List.set_cons_zero, List.set_cons_succ]
          refine AnyK.last (by kernel_rfl) ?_
          simp only [List.drop_succ_cons, List.drop_zero]
          clear hHeld
          have bZ_7_c0 := cell_of_heap bZ_7 0
          have bZ_7_c1 := cell_of_heap bZ_7 1
          have bZ_7_c2 := cell_of_heap bZ_7 2
          have bZ_7_c3 := cell_of_heap bZ_7 3
          have bZ_7_f := frozen_of_heap bZ_7
          go_wp2_with fail
          go_meet
          have hkz := setMany_kp (w2.heap.size) [.int .i64 0, .slice aWa (Rec.pk t StartM.zeros).length dWa, .slice aWb (Rec.pk t ya1).length dWb, .slice aWc (Rec.pk t yb1).length dWc] w7 0
          have zs := setMany_size (w2.heap.size) [.int .i64 0, .slice aWa (Rec.pk t StartM.zeros).length dWa, .slice aWb (Rec.pk t ya1).length dWb, .slice aWc (Rec.pk t yb1).length dWc] w7 0
          have hR := setMany_row [.int .i64 0, .slice aWa (Rec.pk t StartM.zeros).length dWa, .slice aWb (Rec.pk t ya1).length dWb, .slice aWc (Rec.pk t yb1).length dWc] bZ_7 rfl
          have zb := heap_lt bZ_7
          have hMO := (oW_7.toR.kp hkz (by omega) (fun x e => by omega)).mono (lo' := w.heap.size) (hi' := (setMany w7 (w2.heap.size) 0 [.int .i64 0, .slice aWa (Rec.pk t StartM.zeros).length dWa, .slice aWb (Rec.pk t ya1).length dWb, .slice aWc (Rec.pk t yb1).length dWc]).heap.size) (by omega) (by omega)
          have hpz : w2.heap.size ≤ (setMany w7 (w2.heap.size) 0 [.int .i64 0, .slice aWa (Rec.pk t StartM.zeros).length dWa, .slice aWb (Rec.pk t ya1).length dWb, .slice aWc (Rec.pk t yb1).length dWc]).heap.size := by omega
          exact ⟨w2.heap.size, _, _, _, _, _, _, rfl, rfl, New.one N7 hkz (by omega), hpz, by omega, zb2 zb zs, hR, hMO, setMany_other [.int .i64 0, .slice aWa (Rec.pk t StartM.zeros).length dWa, .slice aWb (Rec.pk t ya1).length dWb, .slice aWc (Rec.pk t yb1).length dWc] 0 bA0_7 (by omega), setMany_other [.int .i64 0, .slice aWa (Rec.pk t StartM.zeros).length dWa, .slice aWb (Rec.pk t ya1).length dWb, .slice aWc (Rec.pk t yb1).length dWc] 0 bA1_7 (by omega)⟩
      case rest =>
        clear bA0_2_c0 bA0_2_c1 bA0_2_c2 bA1_2_c0 bA1_2_c1
        clear bA0_2 bA1_2
        obtain ⟨bW, aWa, dWa, aWb, dWb, aWc, dWc, rfl, rfl, N22, hpW, hbW, zbW, bW_22, oW_22, bA0_22, bA1_22⟩ := hcut
        obtain ⟨wc8, hwc⟩ : ∃ x, x = wc := ⟨_, rfl⟩
        subst hwc
        have bA0_22_c0 := cell_of_heap bA0_22 0
        have bA0_22_c1 := cell_of_heap bA0_22 1
        have bA0_22_c2 := cell_of_heap bA0_22 2
        have bA1_22_c0 := cell_of_heap bA1_22 0
        have bA1_22_c1 := cell_of_heap bA1_22 1
        have bW_22_c0 := cell_of_heap bW_22 0
        have bW_22_c1 := cell_of_heap bW_22 1
        have bW_22_c2 := cell_of_heap bW_22 2
        have bW_22_c3 := cell_of_heap bW_22 3
        go_wp2_with fail
        refine (ToO.toCode _ 0 w.heap.size _ _ _ _ _ _ (sa0.new (Nat.le_refl _) N22) (sb0.new (Nat.le_refl _) N22) (s0.new (Nat.le_refl _) N22) (by omega) (by omega) (by omega) (by omega)).mono ?_
        rintro e w23 ⟨vX0a, vX0b, vX0c, rfl, hn23, qX0⟩
        have z23 : wc8.heap.size ≤ w23.heap.size := hn23.size
        have N23 : New w w23 := N22.trans hn23
        have bA0_23 := heap_new hn23 bA0_22
        have bA1_23 := heap_new hn23 bA1_22
        have bW_23 := heap_new hn23 bW_22
        have oW_23 := oW_22.new (by omega) hn23
        clear bA0_22_c0 bA0_22_c1 bA0_22_c2 bA1_22_c0 bA1_22_c1 bW_22_c0 bW_22_c1 bW_22_c2 bW_22_c3
        clear bA0_22 bA1_22 bW_22 oW_22 hn23
        have oX0_23 := qX0
        clear qX0
        obtain ⟨⟨aX0a, dX0a, eX0a⟩, ⟨aX0b, dX0b, eX0b⟩, aX0c, dX0c, eX0c⟩ := oX0_23.toR.lens
        subst eX0a
        subst eX0b
        subst eX0c
        have hn24 : New w23 (w23.alloc (.cells #[.slice aX0a xa0.length dX0a, .slice aX0b xb0.length dX0b, .slice aX0c x0.length dX0c] 26)) := (Kp.refl _ _).alloc _
        have z24 : w23.heap.size < (w23.alloc (.cells #[.slice aX0a xa0.length dX0a, .slice aX0b xb0.length dX0b, .slice aX0c x0.length dX0c] 26)).heap.size := by simp
        have N24 : New w (w23.alloc (.cells #[.slice aX0a xa0.length dX0a, .slice aX0b xb0.length dX0b, .slice aX0c x0.length dX0c] 26)) := N23.trans hn24
        have bA0_24 := heap_new hn24 bA0_23
        have bA1_24 := heap_new hn24 bA1_23
        have bW_24 := heap_new hn24 bW_23
        have oW_24 := oW_23.new (by omega) hn24
        have oX0_24 := oX0_23.new (by omega) hn24
        have bX0_24 : (w23.alloc (.cells #[.slice aX0a xa0.length dX0a, .slice aX0b xb0.length dX0b, .slice aX0c x0.length dX0c] 26)).heap[w23.heap.size]? = some (.cells #[.slice aX0a xa0.length dX0a, .slice aX0b xb0.length dX0b, .slice aX0c x0.length dX0c] 26) := alloc_heap _ _
        clear bA0_23 bA1_23 bW_23 oW_23 oX0_23 hn24
        have bA0_24_c0 := cell_of_heap bA0_24 0
        have bA0_24_c1 := cell_of_heap bA0_24 1
        have bA0_24_c2 := cell_of_heap bA0_24 2
        have bA1_24_c0 := cell_of_heap bA1_24 0
        have bA1_24_c1 := cell_of_heap bA1_24 1
        have bW_24_c0 := cell_of_heap bW_24 0
        have bW_24_c1 := cell_of_heap bW_24 1
        have bW_24_c2 := cell_of_heap bW_24 2
        have bW_24_c3 := cell_of_heap bW_24 3
        have bX0_24_c0 := cell_of_heap bX0_24 0
        have bX0_24_c1 := cell_of_heap bX0_24 1
        have bX0_24_c2 := cell_of_heap bX0_24 2
        go_wp2_with fail
        generalize (w23.alloc (.cells #[.slice aX0a xa0.length dX0a, .slice aX0b xb0.length dX0b, .slice aX0c x0.length dX0c] 26)) = w24 at *
        refine (ToO.toMemory _ 0 w.heap.size _ _ _ _ (ra1.new (Nat.le_refl _) N24) (rb1.new (Nat.le_refl _) N24) (by omega) (by omega) (by omega)).mono ?_
        rintro e w25 ⟨vX1a, vX1b, rfl, hn25, qX1⟩
        have z25 : w24.heap.size ≤ w25.heap.size := hn25.size
        have N25 : New w w25 := N24.trans hn25
        have bA0_25 := heap_new hn25 bA0_24
        have bA1_25 := heap_new hn25 bA1_24
        have bW_25 := heap_new hn25 bW_24
        have bX0_25 := heap_new hn25 bX0_24
        have oW_25 := oW_24.new (by omega) hn25
        have oX0_25 := oX0_24.new (by omega) hn25
        clear bA0_24_c0 bA0_24_c1 bA0_24_c2 bA1_24_c0 bA1_24_c1 bW_24_c0 bW_24_c1 bW_24_c2 bW_24_c3 bX0_24_c0 bX0_24_c1 bX0_24_c2
        clear bA0_24 bA1_24 bW_24 bX0_24 oW_24 oX0_24 hn25
        have oX1_25 := qX1
        clear qX1
        obtain ⟨⟨aX1a, dX1a, eX1a⟩, aX1b, dX1b, eX1b⟩ := oX1_25.toR.lens
        subst eX1a
        subst eX1b
        have hn26 : New w25 (w25.alloc (.cells #[.slice aX1a ya1.length dX1a, .slice aX1b yb1.length dX1b] 29)) := (Kp.refl _ _).alloc _
        have z26 : w25.heap.size < (w25.alloc (.cells #[.slice aX1a ya1.length dX1a, .slice aX1b yb1.length dX1b] 29)).heap.size := by simp
        have N26 : New w (w25.alloc (.cells #[.slice aX1a ya1.length dX1a, .slice aX1b yb1.length dX1b] 29)) := N25.trans hn26
        have bA0_26 := heap_new hn26 bA0_25
        have bA1_26 := heap_new hn26 bA1_25
        have bW_26 := heap_new hn26 bW_25
        have bX0_26 := heap_new hn26 bX0_25
        have oW_26 := oW_25.new (by omega) hn26
        have oX0_26 := oX0_25.new (by omega) hn26
        have oX1_26 := oX1_25.new (by omega) hn26
        have bX1_26 : (w25.alloc (.cells #[.slice aX1a ya1.length dX1a, .slice aX1b yb1.length dX1b] 29)).heap[w25.heap.size]? = some (.cells #[.slice aX1a ya1.length dX1a, .slice aX1b yb1.length dX1b] 29) := alloc_heap _ _
        clear bA0_25 bA1_25 bW_25 bX0_25 oW_25 oX0_25 oX1_25 hn26
        have bA0_26_c0 := cell_of_heap bA0_26 0
        have bA0_26_c1 := cell_of_heap bA0_26 1
        have bA0_26_c2 := cell_of_heap bA0_26 2
        have bA1_26_c0 := cell_of_heap bA1_26 0
        have bA1_26_c1 := cell_of_heap bA1_26 1
        have bW_26_c0 := cell_of_heap bW_26 0
        have bW_26_c1 := cell_of_heap bW_26 1
        have bW_26_c2 := cell_of_heap bW_26 2
        have bW_26_c3 := cell_of_heap bW_26 3
        have bX0_26_c0 := cell_of_heap bX0_26 0
        have bX0_26_c1 := cell_of_heap bX0_26 1
        have bX0_26_c2 := cell_of_heap bX0_26 2
        have bX1_26_c0 := cell_of_heap bX1_26 0
        have bX1_26_c1 := cell_of_heap bX1_26 1
        go_wp2_with fail
        generalize (w25.alloc (.cells #[.slice aX1a ya1.length dX1a, .slice aX1b yb1.length dX1b] 29)) = w26 at *
        refine (StartC.implS _ _ _ _ _ _ _ _ _ _ _ _ _ _ _ oX0_26.toR.1 oX0_26.toR.2.1 oX0_26.toR.2.2 (by omega) oX1_26 (by omega) (by omega) (by omega) hrow.out).mono ?_
        rintro e w27 ⟨vGa, vGb, vGc, rfl, hn27, qG⟩
        have z27 : w26.heap.size ≤ w27.heap.size := hn27.size
        have N27 : New w w27 := N26.trans hn27
        have bA0_27 := heap_new hn27 bA0_26
        have bA1_27 := heap_new hn27 bA1_26
        have bW_27 := heap_new hn27 bW_26
        have bX0_27 := heap_new hn27 bX0_26
        have bX1_27 := heap_new hn27 bX1_26
        have oW_27 := oW_26.new (by omega) hn27
        have oX0_27 := oX0_26.new (by omega) hn27
        have oX1_27 := oX1_26.new (by omega) hn27
        clear bA0_26_c0 bA0_26_c1 bA0_26_c2 bA1_26_c0 bA1_26_c1 bW_26_c0 bW_26_c1 bW_26_c2 bW_26_c3 bX0_26_c0 bX0_26_c1 bX0_26_c2 bX1_26_c0 bX1_26_c1
        clear bA0_26 bA1_26 bW_26 bX0_26 bX1_26 oW_26 oX0_26 oX1_26 hn27
        rw [ht.out] at qG
        rw [ht.out]
        have oG_27 := qG
        clear qG
        obtain ⟨⟨aGa, dGa, eGa⟩, ⟨aGb, dGb, eGb⟩, aGc, dGc, eGc⟩ := oG_27.toR.lens
        subst eGa
        subst eGb
        subst eGc
        have hn28 : New w27 (w27.alloc (.cells #[.int .i64 0, .slice aGa (Rec.pk t StartM.zeros).length dGa, .slice aGb (Rec.pk t ya1).length dGb, .slice aGc (Rec.pk t yb1).length dGc] 31)) := (Kp.refl _ _).alloc _
        have z28 : w27.heap.size < (w27.alloc (.cells #[.int .i64 0, .slice aGa (Rec.pk t StartM.zeros).length dGa, .slice aGb (Rec.pk t ya1).length dGb, .slice aGc (Rec.pk t yb1).length dGc] 31)).heap.size := by simp
        have N28 : New w (w27.alloc (.cells #[.int .i64 0, .slice aGa (Rec.pk t StartM.zeros).length dGa, .slice aGb (Rec.pk t ya1).length dGb, .slice aGc (Rec.pk t yb1).length dGc] 31)) := N27.trans hn28
        have bA0_28 := heap_new hn28 bA0_27
        have bA1_28 := heap_new hn28 bA1_27
        have bW_28 := heap_new hn28 bW_27
        have bX0_28 := heap_new hn28 bX0_27
        have bX1_28 := heap_new hn28 bX1_27
        have oW_28 := oW_27.new (by omega) hn28
        have oX0_28 := oX0_27.new (by omega) hn28
        have oX1_28 := oX1_27.new (by omega) hn28
        have oG_28 := oG_27.new (by omega) hn28
        have bG_28 : (w27.alloc (.cells #[.int .i64 0, .slice aGa (Rec.pk t StartM.zeros).length dGa, .slice aGb (Rec.pk t ya1).length dGb, .slice aGc (Rec.pk t yb1).length dGc] 31)).heap[w27.heap.size]? = some (.cells #[.int .i64 0, .slice aGa (Rec.pk t StartM.zeros).length dGa, .slice aGb (Rec.pk t ya1).length dGb, .slice aGc (Rec.pk t yb1).length dGc] 31) := alloc_heap _ _
        clear bA0_27 bA1_27 bW_27 bX0_27 bX1_27 oW_27 oX0_27 oX1_27 oG_27 hn28
        have bA0_28_c0 := cell_of_heap bA0_28 0
        have bA0_28_c1 := cell_of_heap bA0_28 1
        have bA0_28_c2 := cell_of_heap bA0_28 2
        have bA1_28_c0 := cell_of_heap bA1_28 0
        have bA1_28_c1 := cell_of_heap bA1_28 1
        have bW_28_c0 := cell_of_heap bW_28 0
        have bW_28_c1 := cell_of_heap bW_28 1
        have bW_28_c2 := cell_of_heap bW_28 2
        have bW_28_c3 := cell_of_heap bW_28 3
        have bX0_28_c0 := cell_of_heap bX0_28 0
        have bX0_28_c1 := cell_of_heap bX0_28 1
        have bX0_28_c2 := cell_of_heap bX0_28 2
        have bX1_28_c0 := cell_of_heap bX1_28 0
        have bX1_28_c1 := cell_of_heap bX1_28 1
        have bG_28_c0 := cell_of_heap bG_28 0
        have bG_28_c1 := cell_of_heap bG_28 1
        have bG_28_c2 := cell_of_heap bG_28 2
        have bG_28_c3 := cell_of_heap bG_28 3
        go_wp2_with fail
        generalize (w27.alloc (.cells #[.int .i64 0, .slice aGa (Rec.pk t StartM.zeros).length dGa, .slice aGb (Rec.pk t ya1).length dGb, .slice aGc (Rec.pk t yb1).length dGc] 31)) = w28 at *
        refine (Rec.eqMachine oG_28.toR oW_28 (by omega) (by omega)).mono ?_
        rintro e w29 ⟨rfl, hn29⟩
        have z29 : w28.heap.size ≤ w29.heap.size := hn29.size
        have N29 : New w w29 := N28.trans hn29
        have bA0_29 := heap_new hn29 bA0_28
        have bA1_29 := heap_new hn29 bA1_28
        have bW_29 := heap_new hn29 bW_28
        have bX0_29 := heap_new hn29 bX0_28
        have bX1_29 := heap_new hn29 bX1_28
        have bG_29 := heap_new hn29 bG_28
        have oW_29 := oW_28.new (by omega) hn29
        have oX0_29 := oX0_28.new (by omega) hn29
        have oX1_29 := oX1_28.new (by omega) hn29
        have oG_29 := oG_28.new (by omega) hn29
        clear bA0_28_c0 bA0_28_c1 bA0_28_c2 bA1_28_c0 bA1_28_c1 bW_28_c0 bW_28_c1 bW_28_c2 bW_28_c3 bX0_28_c0 bX0_28_c1 bX0_28_c2 bX1_28_c0 bX1_28_c1 bG_28_c0 bG_28_c1 bG_28_c2 bG_28_c3
        clear bA0_28 bA1_28 bW_28 bX0_28 bX1_28 bG_28 oW_28 oX0_28 oX1_28 oG_28 hn29
        have bA0_29_c0 := cell_of_heap bA0_29 0
        have bA0_29_c1 := cell_of_heap bA0_29 1
        have bA0_29_c2 := cell_of_heap bA0_29 2
        have bA1_29_c0 := cell_of_heap bA1_29 0
        have bA1_29_c1 := cell_of_heap bA1_29 1
        have bW_29_c0 := cell_of_heap bW_29 0
        have bW_29_c1 := cell_of_heap bW_29 1
        have bW_29_c2 := cell_of_heap bW_29 2
        have bW_29_c3 := cell_of_heap bW_29 3
        have bX0_29_c0 := cell_of_heap bX0_29 0
        have bX0_29_c1 := cell_of_heap bX0_29 1
        have bX0_29_c2 := cell_of_heap bX0_29 2
        have bX1_29_c0 := cell_of_heap bX1_29 0
        have bX1_29_c1 := cell_of_heap bX1_29 1
        have bG_29_c0 := cell_of_heap bG_29 0
        have bG_29_c1 := cell_of_heap bG_29 1
        have bG_29_c2 := cell_of_heap bG_29 2
        have bG_29_c3 := cell_of_heap bG_29 3
        go_wp2_with fail
        have hn30 : New w29 w29.drew := (Kp.refl _ _).drew
        have z30 : w29.heap.size ≤ w29.drew.heap.size := hn30.size
        have N30 : New w w29.drew := N29.trans hn30
        have bA0_30 := heap_new hn30 bA0_29
        have bA1_30 := heap_new hn30 bA1_29
        have bW_30 := heap_new hn30 bW_29
        have bX0_30 := heap_new hn30 bX0_29
        have bX1_30 := heap_new hn30 bX1_29
        have bG_30 := heap_new hn30 bG_29
        have oW_30 := oW_29.new (by omega) hn30
        have oX0_30 := oX0_29.new (by omega) hn30
        have oX1_30 := oX1_29.new (by omega) hn30
        have oG_30 := oG_29.new (by omega) hn30
        clear bA0_29_c0 bA0_29_c1 bA0_29_c2 bA1_29_c0 bA1_29_c1 bW_29_c0 bW_29_c1 bW_29_c2 bW_29_c3 bX0_29_c0 bX0_29_c1 bX0_29_c2 bX1_29_c0 bX1_29_c1 bG_29_c0 bG_29_c1 bG_29_c2 bG_29_c3
        clear bA0_29 bA1_29 bW_29 bX0_29 bX1_29 bG_29 oW_29 oX0_29 oX1_29 oG_29 hn30
        have bA0_30_c0 := cell_of_heap bA0_30 0
        have bA0_30_c1 := cell_of_heap bA0_30 1
        have bA0_30_c2 := cell_of_heap bA0_30 2
        have bA1_30_c0 := cell_of_heap bA1_30 0
        have bA1_30_c1 := cell_of_heap bA1_30 1
        have bW_30_c0 := cell_of_heap bW_30 0
        have bW_30_c1 := cell_of_heap bW_30 1
        have bW_30_c2 := cell_of_heap bW_30 2
        have bW_30_c3 := cell_of_heap bW_30 3
        have bX0_30_c0 := cell_of_heap bX0_30 0
        have bX0_30_c1 := cell_of_heap bX0_30 1
        have bX0_30_c2 := cell_of_heap bX0_30 2
        have bX1_30_c0 := cell_of_heap bX1_30 0
        have bX1_30_c1 := cell_of_heap bX1_30 1
        have bG_30_c0 := cell_of_heap bG_30 0
        have bG_30_c1 := cell_of_heap bG_30 1
        have bG_30_c2 := cell_of_heap bG_30 2
        have bG_30_c3 := cell_of_heap bG_30 3
        set_option maxRecDepth 100000 in
        go_region_held3 (fun w' => w'.cell? ⟨w.heap.size, 0, none⟩ = some (ta0) ∧ w'.cell? ⟨w.heap.size, 1, none⟩ = some (tb0) ∧ w'.cell? ⟨w.heap.size, 2, none⟩ = some (tc0) ∧ w'.cell? ⟨w23.heap.size, 0, none⟩ = some (.slice aX0a xa0.length dX0a) ∧ w'.cell? ⟨w23.heap.size, 1, none⟩ = some (.slice aX0b xb0.length dX0b) ∧ w'.cell? ⟨w23.heap.size, 2, none⟩ = some (.slice aX0c x0.length dX0c)) (first | (refine ⟨?_, ?_, ?_, ?_, ?_, ?_⟩ <;> assumption) | go_keep)
          (first
            | (go_at_call 35; refine (Rec.eqCode oX0_31.toR oC0_31.toR (by omega) (by omega)).mono ?_; rintro e w32 ⟨rfl, hn32⟩; have z32 : w31.heap.size ≤ w32.heap.size := hn32.size; have N32 : New w w32 := N31.trans hn32; have bA0_32 := heap_new hn32 bA0_31; have bA1_32 := heap_new hn32 bA1_31; have bW_32 := heap_new hn32 bW_31; have bX0_32 := heap_new hn32 bX0_31; have bX1_32 := heap_new hn32 bX1_31; have bG_32 := heap_new hn32 bG_31; have oW_32 := oW_31.new (by omega) hn32; have oX0_32 := oX0_31.new (by omega) hn32; have oX1_32 := oX1_31.new (by omega) hn32; have oG_32 := oG_31.new (by omega) hn32; have oC0_32 := oC0_31.new (by omega) hn32; clear bA0_31_c0 bA0_31_c1 bA0_31_c2 bA1_31_c0 bA1_31_c1 bW_31_c0 bW_31_c1 bW_31_c2 bW_31_c3 bX0_31_c0 bX0_31_c1 bX0_31_c2 bX1_31_c0 bX1_31_c1 bG_31_c0 bG_31_c1 bG_31_c2 bG_31_c3; clear bA0_31 bA1_31 bW_31 bX0_31 bX1_31 bG_31 oW_31 oX0_31 oX1_31 oG_31 oC0_31 hn32; have bA0_32_c0 := cell_of_heap bA0_32 0; have bA0_32_c1 := cell_of_heap bA0_32 1; have bA0_32_c2 := cell_of_heap bA0_32 2; have bA1_32_c0 := cell_of_heap bA1_32 0; have bA1_32_c1 := cell_of_heap bA1_32 1; have bW_32_c0 := cell_of_heap bW_32 0; have bW_32_c1 := cell_of_heap bW_32 1; have bW_32_c2 := cell_of_heap bW_32 2; have bW_32_c3 := cell_of_heap bW_32 3; have bX0_32_c0 := cell_of_heap bX0_32 0; have bX0_32_c1 := cell_of_heap bX0_32 1; have bX0_32_c2 := cell_of_heap bX0_32 2; have bX1_32_c0 := cell_of_heap bX1_32 0; have bX1_32_c1 := cell_of_heap bX1_32 1; have bG_32_c0 := cell_of_heap bG_32 0; have bG_32_c1 := cell_of_heap bG_32 1; have bG_32_c2 := cell_of_heap bG_32 2; have bG_32_c3 := cell_of_heap bG_32 3)
            | (go_at_call 32; refine (ToO.toCode _ 0 w.heap.size _ _ _ _ _ _ (sa0.new (Nat.le_refl _) N30) (sb0.new (Nat.le_refl _) N30) (s0.new (Nat.le_refl _) N30) (by omega) (by omega) (by omega) (by omega)).mono ?_; rintro e w31 ⟨vC0a, vC0b, vC0c, rfl, hn31, qC0⟩; have z31 : w29.drew.heap.size ≤ w31.heap.size := hn31.size; have N31 : New w w31 := N30.trans hn31; have bA0_31 := heap_new hn31 bA0_30; have bA1_31 := heap_new hn31 bA1_30; have bW_31 := heap_new hn31 bW_30; have bX0_31 := heap_new hn31 bX0_30; have bX1_31 := heap_new hn31 bX1_30; have bG_31 := heap_new hn31 bG_30; have oW_31 := oW_30.new (by omega) hn31; have oX0_31 := oX0_30.new (by omega) hn31; have oX1_31 := oX1_30.new (by omega) hn31; have oG_31 := oG_30.new (by omega) hn31; clear bA0_30_c0 bA0_30_c1 bA0_30_c2 bA1_30_c0 bA1_30_c1 bW_30_c0 bW_30_c1 bW_30_c2 bW_30_c3 bX0_30_c0 bX0_30_c1 bX0_30_c2 bX1_30_c0 bX1_30_c1 bG_30_c0 bG_30_c1 bG_30_c2 bG_30_c3; clear bA0_30 bA1_30 bW_30 bX0_30 bX1_30 bG_30 oW_30 oX0_30 oX1_30 oG_30 hn31; have oC0_31 := qC0; clear qC0; have bA0_31_c0 := cell_of_heap bA0_31 0; have bA0_31_c1 := cell_of_heap bA0_31 1; have bA0_31_c2 := cell_of_heap bA0_31 2; have bA1_31_c0 := cell_of_heap bA1_31 0; have bA1_31_c1 := cell_of_heap bA1_31 1; have bW_31_c0 := cell_of_heap bW_31 0; have bW_31_c1 := cell_of_heap bW_31 1; have bW_31_c2 := cell_of_heap bW_31 2; have bW_31_c3 := cell_of_heap bW_31 3; have bX0_31_c0 := cell_of_heap bX0_31 0; have bX0_31_c1 := cell_of_heap bX0_31 1; have bX0_31_c2 := cell_of_heap bX0_31 2; have bX1_31_c0 := cell_of_heap bX1_31 0; have bX1_31_c1 := cell_of_heap bX1_31 1; have bG_31_c0 := cell_of_heap bG_31 0; have bG_31_c1 := cell_of_heap bG_31 1; have bG_31_c2 := cell_of_heap bG_31 2; have bG_31_c3 := cell_of_heap bG_31 3))
        clear oC0_32
        clear bA0_32_c0 bA0_32_c1 bA0_32_c2 bA1_32_c0 bA1_32_c1 bW_32_c0 bW_32_c1 bW_32_c2 bW_32_c3 bX0_32_c0 bX0_32_c1 bX0_32_c2 bX1_32_c0 bX1_32_c1 bG_32_c0 bG_32_c1 bG_32_c2 bG_32_c3
        have bA0_32_c0 := cell_of_heap bA0_32 0
        have bA0_32_c1 := cell_of_heap bA0_32 1
        have bA0_32_c2 := cell_of_heap bA0_32 2
        have bA1_32_c0 := cell_of_heap bA1_32 0
        have bA1_32_c1 := cell_of_heap bA1_32 1
        have bW_32_c0 := cell_of_heap bW_32 0
        have bW_32_c1 := cell_of_heap bW_32 1
        have bW_32_c2 := cell_of_heap bW_32 2
        have bW_32_c3 := cell_of_heap bW_32 3
        have bX0_32_c0 := cell_of_heap bX0_32 0
        have bX0_32_c1 := cell_of_heap bX0_32 1
        have bX0_32_c2 := cell_of_heap bX0_32 2
        have bX1_32_c0 := cell_of_heap bX1_32 0
        have bX1_32_c1 := cell_of_heap bX1_32 1
        have bG_32_c0 := cell_of_heap bG_32 0
        have bG_32_c1 := cell_of_heap bG_32 1
        have bG_32_c2 := cell_of_heap bG_32 2
        have bG_32_c3 := cell_of_heap bG_32 3
        go_wp2_with fail
        have hn33 : New w32 w32.drew := (Kp.refl _ _).drew
        have z33 : w32.heap.size ≤ w32.drew.heap.size := hn33.size
        have N33 : New w w32.drew := N32.trans hn33
        have bA0_33 := heap_new hn33 bA0_32
        have bA1_33 := heap_new hn33 bA1_32
        have bW_33 := heap_new hn33 bW_32
        have bX0_33 := heap_new hn33 bX0_32
        have bX1_33 := heap_new hn33 bX1_32
        have bG_33 := heap_new hn33 bG_32
        have oW_33 := oW_32.new (by omega) hn33
        have oX0_33 := oX0_32.new (by omega) hn33
        have oX1_33 := oX1_32.new (by omega) hn33
        have oG_33 := oG_32.new (by omega) hn33
        clear bA0_32_c0 bA0_32_c1 bA0_32_c2 bA1_32_c0 bA1_32_c1 bW_32_c0 bW_32_c1 bW_32_c2 bW_32_c3 bX0_32_c0 bX0_32_c1 bX0_32_c2 bX1_32_c0 bX1_32_c1 bG_32_c0 bG_32_c1 bG_32_c2 bG_32_c3
        clear bA0_32 bA1_32 bW_32 bX0_32 bX1_32 bG_32 oW_32 oX0_32 oX1_32 oG_32 hn33
        have bA0_33_c0 := cell_of_heap bA0_33 0
        have bA0_33_c1 := cell_of_heap bA0_33 1
        have bA0_33_c2 := cell_of_heap bA0_33 2
        have bA1_33_c0 := cell_of_heap bA1_33 0
        have bA1_33_c1 := cell_of_heap bA1_33 1
        have bW_33_c0 := cell_of_heap bW_33 0
        have bW_33_c1 := cell_of_heap bW_33 1
        have bW_33_c2 := cell_of_heap bW_33 2
        have bW_33_c3 := cell_of_heap bW_33 3
        have bX0_33_c0 := cell_of_heap bX0_33 0
        have bX0_33_c1 := cell_of_heap bX0_33 1
        have bX0_33_c2 := cell_of_heap bX0_33 2
        have bX1_33_c0 := cell_of_heap bX1_33 0
        have bX1_33_c1 := cell_of_heap bX1_33 1
        have bG_33_c0 := cell_of_heap bG_33 0
        have bG_33_c1 := cell_of_heap bG_33 1
        have bG_33_c2 := cell_of_heap bG_33 2
        have bG_33_c3 := cell_of_heap bG_33 3
        set_option maxRecDepth 100000 in
        go_region_held3 (fun w' => w'.cell? ⟨w.heap.size + 1, 0, none⟩ = some (ma1) ∧ w'.cell? ⟨w.heap.size + 1, 1, none⟩ = some (mb1) ∧ w'.cell? ⟨w25.heap.size, 0, none⟩ = some (.slice aX1a ya1.length dX1a) ∧ w'.cell? ⟨w25.heap.size, 1, none⟩ = some (.slice aX1b yb1.length dX1b)) (first | (refine ⟨?_, ?_, ?_, ?_⟩ <;> assumption) | go_keep)
          (first
            | (go_at_call 36; refine (Rec.eqMemory oX1_34.toR oC1_34.toR (by omega) (by omega)).mono ?_; rintro e w35 ⟨rfl, hn35⟩; have z35 : w34.heap.size ≤ w35.heap.size := hn35.size; have N35 : New w w35 := N34.trans hn35; have bA0_35 := heap_new hn35 bA0_34; have bA1_35 := heap_new hn35 bA1_34; have bW_35 := heap_new hn35 bW_34; have bX0_35 := heap_new hn35 bX0_34; have bX1_35 := heap_new hn35 bX1_34; have bG_35 := heap_new hn35 bG_34; have oW_35 := oW_34.new (by omega) hn35; have oX0_35 := oX0_34.new (by omega) hn35; have oX1_35 := oX1_34.new (by omega) hn35; have oG_35 := oG_34.new (by omega) hn35; have oC1_35 := oC1_34.new (by omega) hn35; clear bA0_34_c0 bA0_34_c1 bA0_34_c2 bA1_34_c0 bA1_34_c1 bW_34_c0 bW_34_c1 bW_34_c2 bW_34_c3 bX0_34_c0 bX0_34_c1 bX0_34_c2 bX1_34_c0 bX1_34_c1 bG_34_c0 bG_34_c1 bG_34_c2 bG_34_c3; clear bA0_34 bA1_34 bW_34 bX0_34 bX1_34 bG_34 oW_34 oX0_34 oX1_34 oG_34 oC1_34 hn35; have bA0_35_c0 := cell_of_heap bA0_35 0; have bA0_35_c1 := cell_of_heap bA0_35 1; have bA0_35_c2 := cell_of_heap bA0_35 2; have bA1_35_c0 := cell_of_heap bA1_35 0; have bA1_35_c1 := cell_of_heap bA1_35 1; have bW_35_c0 := cell_of_heap bW_35 0; have bW_35_c1 := cell_of_heap bW_35 1; have bW_35_c2 := cell_of_heap bW_35 2; have bW_35_c3 := cell_of_heap bW_35 3; have bX0_35_c0 := cell_of_heap bX0_35 0; have bX0_35_c1 := cell_of_heap bX0_35 1; have bX0_35_c2 := cell_of_heap bX0_35 2; have bX1_35_c0 := cell_of_heap bX1_35 0; have bX1_35_c1 := cell_of_heap bX1_35 1; have bG_35_c0 := cell_of_heap bG_35 0; have bG_35_c1 := cell_of_heap bG_35 1; have bG_35_c2 := cell_of_heap bG_35 2; have bG_35_c3 := cell_of_heap bG_35 3)
            | (go_at_call 33; refine (ToO.toMemory _ 0 w.heap.size _ _ _ _ (ra1.new (Nat.le_refl _) N33) (rb1.new (Nat.le_refl _) N33) (by omega) (by omega) (by omega)).mono ?_; rintro e w34 ⟨vC1a, vC1b, rfl, hn34, qC1⟩; have z34 : w32.drew.heap.size ≤ w34.heap.size := hn34.size; have N34 : New w w34 := N33.trans hn34; have bA0_34 := heap_new hn34 bA0_33; have bA1_34 := heap_new hn34 bA1_33; have bW_34 := heap_new hn34 bW_33; have bX0_34 := heap_new hn34 bX0_33; have bX1_34 := heap_new hn34 bX1_33; have bG_34 := heap_new hn34 bG_33; have oW_34 := oW_33.new (by omega) hn34; have oX0_34 := oX0_33.new (by omega) hn34; have oX1_34 := oX1_33.new (by omega) hn34; have oG_34 := oG_33.new (by omega) hn34; clear bA0_33_c0 bA0_33_c1 bA0_33_c2 bA1_33_c0 bA1_33_c1 bW_33_c0 bW_33_c1 bW_33_c2 bW_33_c3 bX0_33_c0 bX0_33_c1 bX0_33_c2 bX1_33_c0 bX1_33_c1 bG_33_c0 bG_33_c1 bG_33_c2 bG_33_c3; clear bA0_33 bA1_33 bW_33 bX0_33 bX1_33 bG_33 oW_33 oX0_33 oX1_33 oG_33 hn34; have oC1_34 := qC1; clear qC1; have bA0_34_c0 := cell_of_heap bA0_34 0; have bA0_34_c1 := cell_of_heap bA0_34 1; have bA0_34_c2 := cell_of_heap bA0_34 2; have bA1_34_c0 := cell_of_heap bA1_34 0; have bA1_34_c1 := cell_of_heap bA1_34 1; have bW_34_c0 := cell_of_heap bW_34 0; have bW_34_c1 := cell_of_heap bW_34 1; have bW_34_c2 := cell_of_heap bW_34 2; have bW_34_c3 := cell_of_heap bW_34 3; have bX0_34_c0 := cell_of_heap bX0_34 0; have bX0_34_c1 := cell_of_heap bX0_34 1; have bX0_34_c2 := cell_of_heap bX0_34 2; have bX1_34_c0 := cell_of_heap bX1_34 0; have bX1_34_c1 := cell_of_heap bX1_34 1; have bG_34_c0 := cell_of_heap bG_34 0; have bG_34_c1 := cell_of_heap bG_34 1; have bG_34_c2 := cell_of_heap bG_34 2; have bG_34_c3 := cell_of_heap bG_34 3))
        clear oC1_35
        clear bA0_35_c0 bA0_35_c1 bA0_35_c2 bA1_35_c0 bA1_35_c1 bW_35_c0 bW_35_c1 bW_35_c2 bW_35_c3 bX0_35_c0 bX0_35_c1 bX0_35_c2 bX1_35_c0 bX1_35_c1 bG_35_c0 bG_35_c1 bG_35_c2 bG_35_c3
        have bA0_35_c0 := cell_of_heap bA0_35 0
        have bA0_35_c1 := cell_of_heap bA0_35 1
        have bA0_35_c2 := cell_of_heap bA0_35 2
        have bA1_35_c0 := cell_of_heap bA1_35 0
        have bA1_35_c1 := cell_of_heap bA1_35 1
        have bW_35_c0 := cell_of_heap bW_35 0
        have bW_35_c1 := cell_of_heap bW_35 1
        have bW_35_c2 := cell_of_heap bW_35 2
        have bW_35_c3 := cell_of_heap bW_35 3
        have bX0_35_c0 := cell_of_heap bX0_35 0
        have bX0_35_c1 := cell_of_heap bX0_35 1
        have bX0_35_c2 := cell_of_heap bX0_35 2
        have bX1_35_c0 := cell_of_heap bX1_35 0
        have bX1_35_c1 := cell_of_heap bX1_35 1
        have bG_35_c0 := cell_of_heap bG_35 0
        have bG_35_c1 := cell_of_heap bG_35 1
        have bG_35_c2 := cell_of_heap bG_35 2
        have bG_35_c3 := cell_of_heap bG_35 3
        go_wp2_with fail
        refine (MarkC.markCode _ _ _ _ _ _ _ _ _ 1 oX0_35 (by omega) (by omega) (by omega) (by omega) (by omega) (by omega)).mono ?_
        rintro e w36 ⟨rfl, hk36⟩
        have z36 : w35.heap.size ≤ w36.heap.size := hk36.size
        have N36 : New w w36 := New.on N35 hk36 (fun i hi => by omega)
        have bA0_36 := (hk36.block _ (by omega) (fun e => by omega)).trans bA0_35
        have bA1_36 := (hk36.block _ (by omega) (fun e => by omega)).trans bA1_35
        have bW_36 := (hk36.block _ (by omega) (fun e => by omega)).trans bW_35
        have bX0_36 := (hk36.block _ (by omega) (fun e => by omega)).trans bX0_35
        have bX1_36 := (hk36.block _ (by omega) (fun e => by omega)).trans bX1_35
        have bG_36 := (hk36.block _ (by omega) (fun e => by omega)).trans bG_35
        have oW_36 := oW_35.kp hk36 (by omega) (fun b e => by omega)
        have oX1_36 := oX1_35.kp hk36 (fun b e => by omega)
        have oG_36 := oG_35.kp hk36 (fun b e => by omega)
        clear bA0_35_c0 bA0_35_c1 bA0_35_c2 bA1_35_c0 bA1_35_c1 bW_35_c0 bW_35_c1 bW_35_c2 bW_35_c3 bX0_35_c0 bX0_35_c1 bX0_35_c2 bX1_35_c0 bX1_35_c1 bG_35_c0 bG_35_c1 bG_35_c2 bG_35_c3
        clear bA0_35 bA1_35 bW_35 bX0_35 bX1_35 bG_35 oW_35 oX0_35 oX1_35 oG_35 hk36
        obtain ⟨k1, ek1, bk1, ck1⟩ : ∃ z : Int, 1 + (xa0.length : Int) + (xb0.length : Int) + 5 * (x0.length : Int) = z ∧ 1 ≤ z ∧ z ≤ 10000000 := ⟨_, rfl, by omega, by omega⟩
        rw [ek1]
        have hk1 := Lib.hid ek1
        clear ek1
        have bA0_36_c0 := cell_of_heap bA0_36 0
        have bA0_36_c1 := cell_of_heap bA0_36 1
        have bA0_36_c2 := cell_of_heap bA0_36 2
        have bA1_36_c0 := cell_of_heap bA1_36 0
        have bA1_36_c1 := cell_of_heap bA1_36 1
        have bW_36_c0 := cell_of_heap bW_36 0
        have bW_36_c1 := cell_of_heap bW_36 1
        have bW_36_c2 := cell_of_heap bW_36 2
        have bW_36_c3 := cell_of_heap bW_36 3
        have bX0_36_c0 := cell_of_heap bX0_36 0
        have bX0_36_c1 := cell_of_heap bX0_36 1
        have bX0_36_c2 := cell_of_heap bX0_36 2
        have bX1_36_c0 := cell_of_heap bX1_36 0
        have bX1_36_c1 := cell_of_heap bX1_36 1
        have bG_36_c0 := cell_of_heap bG_36 0
        have bG_36_c1 := cell_of_heap bG_36 1
        have bG_36_c2 := cell_of_heap bG_36 2
        have bG_36_c3 := cell_of_heap bG_36 3
        go_wp2_with fail
        refine (MarkC.markMemory _ _ _ _ _ _ _ k1 oX1_36 (by omega) (by omega) (by omega) (by omega) (by omega)).mono ?_
        rintro e w37 ⟨rfl, hk37, _⟩
        have z37 : w36.heap.size ≤ w37.heap.size := hk37.size
        have N37 : New w w37 := New.on N36 hk37 (fun i hi => by omega)
        have bA0_37 := (hk37.block _ (by omega) (fun e => by omega)).trans bA0_36
        have bA1_37 := (hk37.block _ (by omega) (fun e => by omega)).trans bA1_36
        have bW_37 := (hk37.block _ (by omega) (fun e => by omega)).trans bW_36
        have bX0_37 := (hk37.block _ (by omega) (fun e => by omega)).trans bX0_36
        have bX1_37 := (hk37.block _ (by omega) (fun e => by omega)).trans bX1_36
        have bG_37 := (hk37.block _ (by omega) (fun e => by omega)).trans bG_36
        have oW_37 := oW_36.kp hk37 (by omega) (fun b e => by omega)
        have oG_37 := oG_36.kp hk37 (fun b e => by omega)
        clear bA0_36_c0 bA0_36_c1 bA0_36_c2 bA1_36_c0 bA1_36_c1 bW_36_c0 bW_36_c1 bW_36_c2 bW_36_c3 bX0_36_c0 bX0_36_c1 bX0_36_c2 bX1_36_c0 bX1_36_c1 bG_36_c0 bG_36_c1 bG_36_c2 bG_36_c3
        clear bA0_36 bA1_36 bW_36 bX0_36 bX1_36 bG_36 oW_36 oX1_36 oG_36 hk37
        obtain ⟨k2, ek2, bk2, ck2⟩ : ∃ z : Int, k1 + (ya1.length : Int) + (tot yb1 : Int) = z ∧ 1 ≤ z ∧ z ≤ 100000000 := ⟨_, rfl, by omega, by omega⟩
        rw [ek2]
        have hk2 := Lib.hid ek2
        clear ek2
        have bA0_37_c0 := cell_of_heap bA0_37 0
        have bA0_37_c1 := cell_of_heap bA0_37 1
        have bA0_37_c2 := cell_of_heap bA0_37 2
        have bA1_37_c0 := cell_of_heap bA1_37 0
        have bA1_37_c1 := cell_of_heap bA1_37 1
        have bW_37_c0 := cell_of_heap bW_37 0
        have bW_37_c1 := cell_of_heap bW_37 1
        have bW_37_c2 := cell_of_heap bW_37 2
        have bW_37_c3 := cell_of_heap bW_37 3
        have bX0_37_c0 := cell_of_heap bX0_37 0
        have bX0_37_c1 := cell_of_heap bX0_37 1
        have bX0_37_c2 := cell_of_heap bX0_37 2
        have bX1_37_c0 := cell_of_heap bX1_37 0
        have bX1_37_c1 := cell_of_heap bX1_37 1
        have bG_37_c0 := cell_of_heap bG_37 0
        have bG_37_c1 := cell_of_heap bG_37 1
        have bG_37_c2 := cell_of_heap bG_37 2
        have bG_37_c3 := cell_of_heap bG_37 3
        go_wp2_with fail
        refine (Rec.eqMachine oG_37.toR oW_37 (by omega) (by omega)).mono ?_
        rintro e w38 ⟨rfl, hn38⟩
        have z38 : w37.heap.size ≤ w38.heap.size := hn38.size
        have N38 : New w w38 := N37.trans hn38
        have bA0_38 := heap_new hn38 bA0_37
        have bA1_38 := heap_new hn38 bA1_37
        have bW_38 := heap_new hn38 bW_37
        have bX0_38 := heap_new hn38 bX0_37
        have bX1_38 := heap_new hn38 bX1_37
        have bG_38 := heap_new hn38 bG_37
        have oW_38 := oW_37.new (by omega) hn38
        have oG_38 := oG_37.new (by omega) hn38
        clear bA0_37_c0 bA0_37_c1 bA0_37_c2 bA1_37_c0 bA1_37_c1 bW_37_c0 bW_37_c1 bW_37_c2 bW_37_c3 bX0_37_c0 bX0_37_c1 bX0_37_c2 bX1_37_c0 bX1_37_c1 bG_37_c0 bG_37_c1 bG_37_c2 bG_37_c3
        clear bA0_37 bA1_37 bW_37 bX0_37 bX1_37 bG_37 oW_37 oG_37 hn38
        have bA0_38_c0 := cell_of_heap bA0_38 0
        have bA0_38_c1 := cell_of_heap bA0_38 1
        have bA0_38_c2 := cell_of_heap bA0_38 2
        have bA1_38_c0 := cell_of_heap bA1_38 0
        have bA1_38_c1 := cell_of_heap bA1_38 1
        have bW_38_c0 := cell_of_heap bW_38 0
        have bW_38_c1 := cell_of_heap bW_38 1
        have bW_38_c2 := cell_of_heap bW_38 2
        have bW_38_c3 := cell_of_heap bW_38 3
        have bX0_38_c0 := cell_of_heap bX0_38 0
        have bX0_38_c1 := cell_of_heap bX0_38 1
        have bX0_38_c2 := cell_of_heap bX0_38 2
        have bX1_38_c0 := cell_of_heap bX1_38 0
        have bX1_38_c1 := cell_of_heap bX1_38 1
        have bG_38_c0 := cell_of_heap bG_38 0
        have bG_38_c1 := cell_of_heap bG_38 1
        have bG_38_c2 := cell_of_heap bG_38 2
        have bG_38_c3 := cell_of_heap bG_38 3
        go_wp2_with fail
        refine (MarkC.markMachine _ _ _ _ _ _ _ _ _ _ 1 oG_38 (by omega) (by omega) (by omega) (by omega) (by omega) (by omega)).mono ?_
        rintro e w39 ⟨rfl, hk39, oG_39⟩
        have z39 : w38.heap.size ≤ w39.heap.size := hk39.size
        have N39 : New w w39 := New.on N38 hk39 (fun i hi => by omega)
        have bA0_39 := (hk39.block _ (by omega) (fun e => by omega)).trans bA0_38
        have bA1_39 := (hk39.block _ (by omega) (fun e => by omega)).trans bA1_38
        have bW_39 := (hk39.block _ (by omega) (fun e => by omega)).trans bW_38
        have bX0_39 := (hk39.block _ (by omega) (fun e => by omega)).trans bX0_38
        have bX1_39 := (hk39.block _ (by omega) (fun e => by omega)).trans bX1_38
        have bG_39 := (hk39.block _ (by omega) (fun e => by omega)).trans bG_38
        have oW_39 := oW_38.kp hk39 (by omega) (fun b e => by omega)
        clear bA0_38_c0 bA0_38_c1 bA0_38_c2 bA1_38_c0 bA1_38_c1 bW_38_c0 bW_38_c1 bW_38_c2 bW_38_c3 bX0_38_c0 bX0_38_c1 bX0_38_c2 bX1_38_c0 bX1_38_c1 bG_38_c0 bG_38_c1 bG_38_c2 bG_38_c3
        clear bA0_38 bA1_38 bW_38 bX0_38 bX1_38 bG_38 oW_38 oG_38 hk39
        obtain ⟨m1, em1, bm1, cm1⟩ : ∃ z : Int, (1 + ((Rec.pk t StartM.zeros).length : Int) + ((Rec.pk t ya1).length : Int) + (tot (Rec.pk t yb1) : Int)) = z ∧ 1 ≤ z ∧ z ≤ 100000000 := ⟨_, rfl, by omega, by omega⟩
        rw [em1]
        have hm1 := Lib.hid em1
        clear em1
        have bA0_39_c0 := cell_of_heap bA0_39 0
        have bA0_39_c1 := cell_of_heap bA0_39 1
        have bA0_39_c2 := cell_of_heap bA0_39 2
        have bA1_39_c0 := cell_of_heap bA1_39 0
        have bA1_39_c1 := cell_of_heap bA1_39 1
        have bW_39_c0 := cell_of_heap bW_39 0
        have bW_39_c1 := cell_of_heap bW_39 1
        have bW_39_c2 := cell_of_heap bW_39 2
        have bW_39_c3 := cell_of_heap bW_39 3
        have bX0_39_c0 := cell_of_heap bX0_39 0
        have bX0_39_c1 := cell_of_heap bX0_39 1
        have bX0_39_c2 := cell_of_heap bX0_39 2
        have bX1_39_c0 := cell_of_heap bX1_39 0
        have bX1_39_c1 := cell_of_heap bX1_39 1
        have bG_39_c0 := cell_of_heap bG_39 0
        have bG_39_c1 := cell_of_heap bG_39 1
        have bG_39_c2 := cell_of_heap bG_39 2
        have bG_39_c3 := cell_of_heap bG_39 3
        go_wp2_with fail
        refine (MarkC.heldMachine _ _ _ 0 _ _ _ (Rec.pk t StartM.zeros).length (Rec.pk t ya1).length (Rec.pk t yb1) 1 oG_39.toR.1 oG_39.toR.2.1 oG_39.toR.2.2 (by omega) (by omega) (by omega) (by omega) (by omega) (by omega)).mono ?_
        rintro e w40 ⟨rfl, hn40⟩
        have z40 : w39.heap.size ≤ w40.heap.size := hn40.size
        have N40 : New w w40 := N39.trans hn40
        have bA0_40 := heap_new hn40 bA0_39
        have bA1_40 := heap_new hn40 bA1_39
        have bW_40 := heap_new hn40 bW_39
        have bX0_40 := heap_new hn40 bX0_39
        have bX1_40 := heap_new hn40 bX1_39
        have bG_40 := heap_new hn40 bG_39
        have oW_40 := oW_39.new (by omega) hn40
        have oG_40 := oG_39.new (by omega) hn40
        clear bA0_39_c0 bA0_39_c1 bA0_39_c2 bA1_39_c0 bA1_39_c1 bW_39_c0 bW_39_c1 bW_39_c2 bW_39_c3 bX0_39_c0 bX0_39_c1 bX0_39_c2 bX1_39_c0 bX1_39_c1 bG_39_c0 bG_39_c1 bG_39_c2 bG_39_c3
        clear bA0_39 bA1_39 bW_39 bX0_39 bX1_39 bG_39 oW_39 oG_39 hn40
        rw [hm1.out]
        have bA0_40_c0 := cell_of_heap bA0_40 0
        have bA0_40_c1 := cell_of_heap bA0_40 1
        have bA0_40_c2 := cell_of_heap bA0_40 2
        have bA1_40_c0 := cell_of_heap bA1_40 0
        have bA1_40_c1 := cell_of_heap bA1_40 1
        have bW_40_c0 := cell_of_heap bW_40 0
        have bW_40_c1 := cell_of_heap bW_40 1
        have bW_40_c2 := cell_of_heap bW_40 2
        have bW_40_c3 := cell_of_heap bW_40 3
        have bG_40_c0 := cell_of_heap bG_40 0
        have bG_40_c1 := cell_of_heap bG_40 1
        have bG_40_c2 := cell_of_heap bG_40 2
        have bG_40_c3 := cell_of_heap bG_40 3
        go_wp2_with fail
        go_cut [15, 16] (fun p6 p7 wx => ∃ b6 aHa dHa aHb dHb aHc dHc, p6 = .pointer (some ⟨b6, 0, none⟩) ∧ p7 = .bool t ∧ New w wx ∧ w40.heap.size ≤ wx.heap.size ∧ w.heap.size + 1 < b6 ∧ b6 < wx.heap.size ∧ wx.heap[b6]? = some (.cells #[.int .i64 0, .slice aHa (Rec.pk t StartM.zeros).length dHa, .slice aHb (Rec.pk t ya1).length dHb, .slice aHc (Rec.pk t yb1).length dHc] 31) ∧ Rec.MachR wx w.heap.size wx.heap.size (.slice aHa (Rec.pk t StartM.zeros).length dHa) (.slice aHb (Rec.pk t ya1).length dHb) (.slice aHc (Rec.pk t yb1).length dHc) (Rec.pk t StartM.zeros) (Rec.pk t ya1) (Rec.pk t yb1) ∧ wx.heap[w.heap.size]? = some (.cells #[ta0, tb0, tc0] 57) ∧ wx.heap[w.heap.size + 1]? = some (.cells #[ma1, mb1] 58) ∧ wx.heap[bW]? = some (.cells #[.int .i64 0, .slice aWa (Rec.pk t StartM.zeros).length dWa, .slice aWb (Rec.pk t ya1).length dWb, .slice aWc (Rec.pk t yb1).length dWc] 31) ∧ wx.heap[w27.heap.size]? = some (.cells #[.int .i64 0, .slice aGa (Rec.pk t StartM.zeros).length dGa, .slice aGb (Rec.pk t ya1).length dGb, .slice aGc (Rec.pk t yb1).length dGc] 31) ∧ Rec.MachR wx w.heap.size wc8.heap.size (.slice aWa (Rec.pk t StartM.zeros).length dWa) (.slice aWb (Rec.pk t ya1).length dWb) (.slice aWc (Rec.pk t yb1).length dWc) (Rec.pk t StartM.zeros) (Rec.pk t ya1) (Rec.pk t yb1) ∧ MarkC.MachO wx w26.heap.size w27.heap.size (.slice aGa (Rec.pk t StartM.zeros).length dGa) (.slice aGb (Rec.pk t ya1).length dGb) (.slice aGc (Rec.pk t yb1).length dGc) (marksI 1 (Rec.pk t StartM.zeros).length) (marksI (1 + ((Rec.pk t StartM.zeros).length : Int)) (Rec.pk t ya1).length) (marksM (1 + ((Rec.pk t StartM.zeros).length : Int) + ((Rec.pk t ya1).length : Int)) (Rec.pk t yb1)))
        case first =>
          have hn41 : New w40 w40.drew := (Kp.refl _ _).drew
          have z41 : w40.heap.size ≤ w40.drew.heap.size := hn41.size
          have N41 : New w w40.drew := N40.trans hn41
          have bA0_41 := heap_new hn41 bA0_40
          have bA1_41 := heap_new hn41 bA1_40
          have bW_41 := heap_new hn41 bW_40
          have bG_41 := heap_new hn41 bG_40
          have oW_41 := oW_40.new (by omega) hn41
          have oG_41 := oG_40.new (by omega) hn41
          clear bA0_40_c0 bA0_40_c1 bA0_40_c2 bA1_40_c0 bA1_40_c1 bW_40_c0 bW_40_c1 bW_40_c2 bW_40_c3 bG_40_c0 bG_40_c1 bG_40_c2 bG_40_c3
          clear bA0_40 bA1_40 bW_40 bG_40 oW_40 oG_40 hn41
          have bA0_41_c0 := cell_of_heap bA0_41 0
          have bA0_41_c1 := cell_of_heap bA0_41 1
          have bA0_41_c2 := cell_of_heap bA0_41 2
          have bA1_41_c0 := cell_of_heap bA1_41 0
          have bA1_41_c1 := cell_of_heap bA1_41 1
          refine wp_region_tail (k := 9) (S := fun w' => w'.cell? ⟨w.heap.size, 0, none⟩ = some (ta0) ∧ w'.cell? ⟨w.heap.size, 1, none⟩ = some (tb0) ∧ w'.cell? ⟨w.heap.size, 2, none⟩ = some (tc0) ∧ w'.cell? ⟨w.heap.size + 1, 0, none⟩ = some (ma1) ∧ w'.cell? ⟨w.heap.size + 1, 1, none⟩ = some (mb1)) (by kernel_rfl) ?_ (fun hHeld => ?_)
          · exact ⟨bA0_41_c0, bA0_41_c1, bA0_41_c2, bA1_41_c0, bA1_41_c1⟩
          refine AnyK.take (i := 0) (v := ?vq15) rfl (by kernel_rfl) (by kernel_rfl) (by kernel_rfl) (by kernel_rfl) (fun _ _ _ h => h) (Or.inl ⟨by kernel_rfl, ?yq15⟩) (by assumption) ?rq15
          case yq15 =>
            intro w hSw
            try dsimp only at hSw
            go_simp
            try with_reducible rfl
          try simp only [Act.put, List.getElem_toArray, List.getElem_cons_zero, List.setIfInBounds_toArray, List.set_cons_zero, List.set_cons_succ]
          refine AnyK.take (i := 2) (v := ?vq16) rfl (by kernel_rfl) (by kernel_rfl) (by kernel_rfl) (by kernel_rfl) (fun _ _ _ h => h) (Or.inl ⟨by kernel_rfl, ?yq16⟩) (by assumption) ?rq16
          case yq16 =>
            intro w hSw
            try dsimp only at hSw
            go_simp
            try with_reducible rfl
          try simp only [Act.put, List.getElem_toArray, List.getElem_cons_zero, List.getElem_cons_succ, List.setIfInBounds_toArray, List.set_cons_zero, List.set_cons_succ]
          refine AnyK.two (i := 1) (j := 8) (by kernel_rfl) rfl rfl (fun K hK => ?_) (fun K hK => ?_)
          · go_simp
            refine (ToO.toCode _ 0 w.heap.size _ _ _ _ _ _ (sa0.new (Nat.le_refl _) N41) (sb0.new (Nat.le_refl _) N41) (s0.new (Nat.le_refl _) N41) (by omega) (by omega) (by omega) (by omega)).mono ?_
            rintro e w42 ⟨vP0a, vP0b, vP0c, rfl, hn42, qP0⟩
            have z42 : w40.drew.heap.size ≤ w42.heap.size := hn42.size
            have N42 : New w w42 := N41.trans hn42
            have bA0_42 := heap_new hn42 bA0_41
            have bA1_42 := heap_new hn42 bA1_41
            have bW_42 := heap_new hn42 bW_41
            have bG_42 := heap_new hn42 bG_41
            have oW_42 := oW_41.new (by omega) hn42
            have oG_42 := oG_41.new (by omega) hn42
            clear bA0_41_c0 bA0_41_c1 bA0_41_c2 bA1_41_c0 bA1_41_c1
            clear bA0_41 bA1_41 bW_41 bG_41 oW_41 oG_41 hn42
            have oP0_42 := qP0
            clear qP0
            have bA0_42_c0 := cell_of_heap bA0_42 0
            have bA0_42_c1 := cell_of_heap bA0_42 1
            have bA0_42_c2 := cell_of_heap bA0_42 2
            have bA1_42_c0 := cell_of_heap bA1_42 0
            have bA1_42_c1 := cell_of_heap bA1_42 1
            refine hK.out _ _ ?_ (fun hHeld2 => ?_)
            · exact ⟨bA0_42_c0, bA0_42_c1, bA0_42_c2, bA1_42_c0, bA1_42_c1⟩
            clear hK K hHeld
            have hHeld := hHeld2
            clear hHeld2
            try simp only [Act.put, List.getElem_toArray, List.getElem_cons_zero, List.getElem_cons_succ, List.setIfInBounds_toArray, List.set_cons_zero, List.set_cons_succ]
            refine AnyK.two (i := 3) (j := 8) (by kernel_rfl) rfl rfl (fun K hK => ?_) (fun K hK => ?_)
            · go_simp
              refine (ToO.toMemory _ 0 w.heap.size _ _ _ _ (ra1.new (Nat.le_refl _) N42) (rb1.new (Nat.le_refl _) N42) (by omega) (by omega) (by omega)).mono ?_
              rintro e w43 ⟨vP1a, vP1b, rfl, hn43, qP1⟩
              have z43 : w42.heap.size ≤ w43.heap.size := hn43.size
              have N43 : New w w43 := N42.trans hn43
              have bA0_43 := heap_new hn43 bA0_42
              have bA1_43 := heap_new hn43 bA1_42
              have bW_43 := heap_new hn43 bW_42
              have bG_43 := heap_new hn43 bG_42
              have oW_43 := oW_42.new (by omega) hn43
              have oG_43 := oG_42.new (by omega) hn43
              have oP0_43 := oP0_42.new (by omega) hn43
              clear bA0_42_c0 bA0_42_c1 bA0_42_c2 bA1_42_c0 bA1_42_c1
              clear bA0_42 bA1_42 bW_42 bG_42 oW_42 oG_42 oP0_42 hn43
              have oP1_43 := qP1
              clear qP1
              have bA0_43_c0 := cell_of_heap bA0_43 0
              have bA0_43_c1 := cell_of_heap bA0_43 1
              have bA0_43_c2 := cell_of_heap bA0_43 2
              have bA1_43_c0 := cell_of_heap bA1_43 0
              have bA1_43_c1 := cell_of_heap bA1_43 1
              refine hK.out _ _ ?_ (fun hHeld2 => ?_)
              · exact ⟨bA0_43_c0, bA0_43_c1, bA0_43_c2, bA1_43_c0, bA1_43_c1⟩
              clear hK K hHeld
              have hHeld := hHeld2
              clear hHeld2
              try simp only [Act.put, List.getElem_toArray, List.getElem_cons_zero, List.getElem_cons_succ, List.setIfInBounds_toArray, List.set_cons_zero, List.set_cons_succ]
              refine AnyK.two (i := 4) (j := 8) (by kernel_rfl) rfl rfl (fun K hK => ?_) (fun K hK => ?_)
              · go_simp
                refine (StartC.implS _ _ _ _ _ _ _ _ _ _ _ _ _ _ _ oP0_43.toR.1 oP0_43.toR.2.1 oP0_43.toR.2.2 (by omega) oP1_43 (by omega) (by omega) (by omega) hrow.out).mono ?_
                rintro e w44 ⟨vHa, vHb, vHc, rfl, hn44, qH⟩
                have z44 : w43.heap.size ≤ w44.heap.size := hn44.size
                have N44 : New w w44 := N43.trans hn44
                have bA0_44 := heap_new hn44 bA0_43
                have bA1_44 := heap_new hn44 bA1_43
                have bW_44 := heap_new hn44 bW_43
                have bG_44 := heap_new hn44 bG_43
                have oW_44 := oW_43.new (by omega) hn44
                have oG_44 := oG_43.new (by omega) hn44
                have oP0_44 := oP0_43.new (by omega) hn44
                have oP1_44 := oP1_43.new (by omega) hn44
                clear bA0_43_c0 bA0_43_c1 bA0_43_c2 bA1_43_c0 bA1_43_c1
                clear bA0_43 bA1_43 bW_43 bG_43 oW_43 oG_43 oP0_43 oP1_43 hn44
                rw [ht.out] at qH
                rw [ht.out]
                have oH_44 := qH
                clear qH
                obtain ⟨⟨aHa, dHa, eHa⟩, ⟨aHb, dHb, eHb⟩, aHc, dHc, eHc⟩ := oH_44.toR.lens
                subst eHa
                subst eHb
                subst eHc
                have bA0_44_c0 := cell_of_heap bA0_44 0
                have bA0_44_c1 := cell_of_heap bA0_44 1
                have bA0_44_c2 := cell_of_heap bA0_44 2
                have bA1_44_c0 := cell_of_heap bA1_44 0
                have bA1_44_c1 := cell_of_heap bA1_44 1
                refine hK.out _ _ ?_ (fun hHeld2 => ?_)
                · exact ⟨bA0_44_c0, bA0_44_c1, bA0_44_c2, bA1_44_c0, bA1_44_c1⟩
                clear hK K hHeld
                have hHeld := hHeld2
                clear hHeld2
                try simp only [Act.put, List.getElem_toArray, List.getElem_cons_zero, List.getElem_cons_succ, List.setIfInBounds_toArray, List.set_cons_zero, List.set_cons_succ]
                refine AnyK.takeW (i := 5) (v := ?vq17) rfl (by kernel_rfl) (by kernel_rfl) (by kernel_rfl) (by kernel_rfl) (fun _ _ _ h => h) (Or.inl ⟨by kernel_rfl, ?yq17⟩) (by assumption) ?rq17
                case yq17 =>
                  intro w hSw
                  try dsimp only at hSw
                  go_simp
                  try with_reducible rfl
                try simp only [Act.put, List.getElem_toArray, List.getElem_cons_zero, List.getElem_cons_succ, List.setIfInBounds_toArray, List.set_cons_zero, List.set_cons_succ]
                refine AnyK.takeW (i := 6) (v := ?vq18) rfl (by kernel_rfl) (by kernel_rfl) (by kernel_rfl) (by kernel_rfl) (fun _ _ _ h => h) (Or.inl ⟨by kernel_rfl, ?yq18⟩) (by assumption) ?rq18
                case yq18 =>
                  intro w hSw
                  try dsimp only at hSw
                  go_simp
                  try with_reducible rfl
                try simp only [Act.put, List.getElem_toArray, List.getElem_cons_zero, List.getElem_cons_succ, List.setIfInBounds_toArray, List.set_cons_zero, List.set_cons_succ]
                refine AnyK.takeW (i := 7) (v := ?vq19) rfl (by kernel_rfl) (by kernel_rfl) (by kernel_rfl) (by kernel_rfl) (fun _ _ _ h => h) (Or.inl ⟨by kernel_rfl, ?yq19⟩) (by assumption) ?rq19
                case yq19 =>
                  intro w hSw
                  try dsimp only at hSw
                  go_simp
                  try with_reducible rfl
                try simp only [Act.put, List.getElem_toArray, List.getElem_cons_zero, List.getElem_cons_succ, List.setIfInBounds_toArray, List.set_cons_zero, List.set_cons_succ]
                refine AnyK.step (i := 8) (by kernel_rfl) rfl (fun K hK => ?_)
                go_simp
                have hn45 : New w44 (w44.alloc (.cells #[.int .i64 0, .slice none 0 0, .slice none 0 0, .slice none 0 0] 31)) := (show New w44 (w44.alloc (.cells #[.int .i64 0, .slice none 0 0, .slice none 0 0, .slice none 0 0] 31)) from (Kp.refl _ _).alloc _)
                have z45 : w44.heap.size < (w44.alloc (.cells #[.int .i64 0, .slice none 0 0, .slice none 0 0, .slice none 0 0] 31)).heap.size := (show w44.heap.size < (w44.alloc (.cells #[.int .i64 0, .slice none 0 0, .slice none 0 0, .slice none 0 0] 31)).heap.size from Rec.lt_alloc _ _)
                have N45 := N44.trans hn45
                have bA0_45 := heap_new hn45 bA0_44
                have bA1_45 := heap_new hn45 bA1_44
                have bW_45 := heap_new hn45 bW_44
                have bG_45 := heap_new hn45 bG_44
                have oW_45 := oW_44.new (by omega) hn45
                have oG_45 := oG_44.new (by omega) hn45
                have oP0_45 := oP0_44.new (by omega) hn45
                have oP1_45 := oP1_44.new (by omega) hn45
                have oH_45 := oH_44.new (by omega) hn45
                have bZ_45 : (w44.alloc (.cells #[.int .i64 0, .slice none 0 0, .slice none 0 0, .slice none 0 0] 31)).heap[w44.heap.size]? = some (.cells #[.int .i64 0, .slice none 0 0, .slice none 0 0, .slice none 0 0] 31) := (show (w44.alloc (.cells #[.int .i64 0, .slice none 0 0, .slice none 0 0, .slice none 0 0] 31)).heap[w44.heap.size]? = _ from alloc_heap _ _)
                clear bA0_44_c0 bA0_44_c1 bA0_44_c2 bA1_44_c0 bA1_44_c1
                clear bA0_44 bA1_44 bW_44 bG_44 oW_44 oG_44 oP0_44 oP1_44 oH_44 hn45
                generalize (w44.alloc (.cells #[.int .i64 0, .slice none 0 0, .slice none 0 0, .slice none 0 0] 31)) = w45 at *
                have bA0_45_c0 := cell_of_heap bA0_45 0
                have bA0_45_c1 := cell_of_heap bA0_45 1
                have bA0_45_c2 := cell_of_heap bA0_45 2
                have bA1_45_c0 := cell_of_heap bA1_45 0
                have bA1_45_c1 := cell_of_heap bA1_45 1
                refine hK.out _ _ ?_ (fun hHeld2 => ?_)
                · exact ⟨bA0_45_c0, bA0_45_c1, bA0_45_c2, bA1_45_c0, bA1_45_c1⟩
                clear hK K hHeld
                have hHeld := hHeld2
                clear hHeld2
                try simp only [Act.put, List.getElem_toArray, List.getElem_cons_zero, List.getElem_cons_succ, List.setIfInBounds_toArray, List.set_cons_zero, List.set_cons_succ]
                refine AnyK.last (by kernel_rfl) ?_
                simp only [List.drop_succ_cons, List.drop_zero]
                clear hHeld
                have bZ_45_c0 := cell_of_heap bZ_45 0
                have bZ_45_c1 := cell_of_heap bZ_45 1
                have bZ_45_c2 := cell_of_heap bZ_45 2
                have bZ_45_c3 := cell_of_heap bZ_45 3
                have bZ_45_f := frozen_of_heap bZ_45
                go_wp2_with fail
                go_meet
                have hkz := setMany_kp (w44.heap.size) [.int .i64 0, .slice aHa (Rec.pk t StartM.zeros).length dHa, .slice aHb (Rec.pk t ya1).length dHb, .slice aHc (Rec.pk t yb1).length dHc] w45 0
                have zs := setMany_size (w44.heap.size) [.int .i64 0, .slice aHa (Rec.pk t StartM.zeros).length dHa, .slice aHb (Rec.pk t ya1).length dHb, .slice aHc (Rec.pk t yb1).length dHc] w45 0
                have hR := setMany_row [.int .i64 0, .slice aHa (Rec.pk t StartM.zeros).length dHa, .slice aHb (Rec.pk t ya1).length dHb, .slice aHc (Rec.pk t yb1).length dHc] bZ_45 rfl
                have zb := heap_lt bZ_45
                have hMO := (oH_45.toR.kp hkz (by omega) (fun x e => by omega)).mono (lo' := w.heap.size) (hi' := (setMany w45 (w44.heap.size) 0 [.int .i64 0, .slice aHa (Rec.pk t StartM.zeros).length dHa, .slice aHb (Rec.pk t ya1).length dHb, .slice aHc (Rec.pk t yb1).length dHc]).heap.size) (by omega) (by omega)
                have hpz : w40.heap.size ≤ (setMany w45 (w44.heap.size) 0 [.int .i64 0, .slice aHa (Rec.pk t StartM.zeros).length dHa, .slice aHb (Rec.pk t ya1).length dHb, .slice aHc (Rec.pk t yb1).length dHc]).heap.size := by omega
                exact ⟨w44.heap.size, _, _, _, _, _, _, rfl, rfl, New.one N45 hkz (by omega), hpz, by omega, zb2 zb zs, hR, hMO, setMany_other [.int .i64 0, .slice aHa (Rec.pk t StartM.zeros).length dHa, .slice aHb (Rec.pk t ya1).length dHb, .slice aHc (Rec.pk t yb1).length dHc] 0 bA0_45 (by omega), setMany_other [.int .i64 0, .slice aHa (Rec.pk t StartM.zeros).length dHa, .slice aHb (Rec.pk t ya1).length dHb, .slice aHc (Rec.pk t yb1).length dHc] 0 bA1_45 (by omega), setMany_other [.int .i64 0, .slice aHa (Rec.pk t StartM.zeros).length dHa, .slice aHb (Rec.pk t ya1).length dHb, .slice aHc (Rec.pk t yb1).length dHc] 0 bW_45 (by omega), setMany_other [.int .i64 0, .slice aHa (Rec.pk t StartM.zeros).length dHa, .slice aHb (Rec.pk t ya1).length dHb, .slice aHc (Rec.pk t yb1).length dHc] 0 bG_45 (by omega), oW_45.kp hkz (by omega) (fun x e => by omega), oG_45.kp hkz (fun x e => by omega)⟩
              · go_simp
                have hn44 : New w43 (w43.alloc (.cells #[.int .i64 0, .slice none 0 0, .slice none 0 0, .slice none 0 0] 31)) := (show New w43 (w43.alloc (.cells #[.int .i64 0, .slice none 0 0, .slice none 0 0, .slice none 0 0] 31)) from (Kp.refl _ _).alloc _)
                have z44 : w43.heap.size < (w43.alloc (.cells #[.int .i64 0, .slice none 0 0, .slice none 0 0, .slice none 0 0] 31)).heap.size := (show w43.heap.size < (w43.alloc (.cells #[.int .i64 0, .slice none 0 0, .slice none 0 0, .slice none 0 0] 31)).heap.size from Rec.lt_alloc _ _)
                have N44 := N43.trans hn44
                have bA0_44 := heap_new hn44 bA0_43
                have bA1_44 := heap_new hn44 bA1_43
                have bW_44 := heap_new hn44 bW_43
                have bG_44 := heap_new hn44 bG_43
                have oW_44 := oW_43.new (by omega) hn44
                have oG_44 := oG_43.new (by omega) hn44
                have oP0_44 := oP0_43.new (by omega) hn44
                have oP1_44 := oP1_43.new (by omega) hn44
                have bZ_44 : (w43.alloc (.cells #[.int .i64 0, .slice none 0 0, .slice none 0 0, .slice none 0 0] 31)).heap[w43.heap.size]? = some (.cells #[.int .i64 0, .slice none 0 0, .slice none 0 0, .slice none 0 0] 31) := (show (w43.alloc (.cells #[.int .i64 0, .slice none 0 0, .slice none 0 0, .slice none 0 0] 31)).heap[w43.heap.size]? = _ from alloc_heap _ _)
                clear bA0_43_c0 bA0_43_c1 bA0_43_c2 bA1_43_c0 bA1_43_c1
                clear bA0_43 bA1_43 bW_43 bG_43 oW_43 oG_43 oP0_43 oP1_43 hn44
                generalize (w43.alloc (.cells #[.int .i64 0, .slice none 0 0, .slice none 0 0, .slice none 0 0] 31)) = w44 at *
                have bA0_44_c0 := cell_of_heap bA0_44 0
                have bA0_44_c1 := cell_of_heap bA0_44 1
                have bA0_44_c2 := cell_of_heap bA0_44 2
                have bA1_44_c0 := cell_of_heap bA1_44 0
                have bA1_44_c1 := cell_of_heap bA1_44 1
                refine hK.out _ _ ?_ (fun hHeld2 => ?_)
                · exact ⟨bA0_44_c0, bA0_44_c1, bA0_44_c2, bA1_44_c0, bA1_44_c1⟩
                clear hK K hHeld
                have hHeld := hHeld2
                clear hHeld2
                try simp only [Act.put, List.getElem_toArray, List.getElem_cons_zero, List.getElem_cons_succ, List.setIfInBounds_toArray, List.set_cons_zero, List.set_cons_succ]
                refine AnyK.step (i := 4) (by kernel_rfl) rfl (fun K hK => ?_)
                go_simp
                refine (StartC.implS _ _ _ _ _ _ _ _ _ _ _ _ _ _ _ oP0_44.toR.1 oP0_44.toR.2.1 oP0_44.toR.2.2 (by omega) oP1_44 (by omega) (by omega) (by omega) hrow.out).mono ?_
                rintro e w45 ⟨vHa, vHb, vHc, rfl, hn45, qH⟩
                have z45 : w44.heap.size ≤ w45.heap.size := hn45.size
                have N45 : New w w45 := N44.trans hn45
                have bA0_45 := heap_new hn45 bA0_44
                have bA1_45 := heap_new hn45 bA1_44
                have bW_45 := heap_new hn45 bW_44
                have bG_45 := heap_new hn45 bG_44
                have bZ_45 := heap_new hn45 bZ_44
                have oW_45 := oW_44.new (by omega) hn45
                have oG_45 := oG_44.new (by omega) hn45
                have oP0_45 := oP0_44.new (by omega) hn45
                have oP1_45 := oP1_44.new (by omega) hn45
                clear bA0_44_c0 bA0_44_c1 bA0_44_c2 bA1_44_c0 bA1_44_c1
                clear bA0_44 bA1_44 bW_44 bG_44 bZ_44 oW_44 oG_44 oP0_44 oP1_44 hn45
                rw [ht.out] at qH
                rw [ht.out]
                have oH_45 := qH
                clear qH
                obtain ⟨⟨aHa, dHa, eHa⟩, ⟨aHb, dHb, eHb⟩, aHc, dHc, eHc⟩ := oH_45.toR.lens
                subst eHa
                subst eHb
                subst eHc
                have bA0_45_c0 := cell_of_heap bA0_45 0
                have bA0_45_c1 := cell_of_heap bA0_45 1
                have bA0_45_c2 := cell_of_heap bA0_45 2
                have bA1_45_c0 := cell_of_heap bA1_45 0
                have bA1_45_c1 := cell_of_heap bA1_45 1
                refine hK.out _ _ ?_ (fun hHeld2 => ?_)
                · exact ⟨bA0_45_c0, bA0_45_c1, bA0_45_c2, bA1_45_c0, bA1_45_c1⟩
                clear hK K hHeld
                have hHeld := hHeld2
                clear hHeld2
                try simp only [Act.put, List.getElem_toArray, List.getElem_cons_zero, List.getElem_cons_succ, List.setIfInBounds_toArray, List.set_cons_zero, List.set_cons_succ]
                refine AnyK.takeW (i := 5) (v := ?vq20) rfl (by kernel_rfl) (by kernel_rfl) (by kernel_rfl) (by kernel_rfl) (fun _ _ _ h => h) (Or.inl ⟨by kernel_rfl, ?yq20⟩) (by assumption) ?rq20
                case yq20 =>
                  intro w hSw
                  try dsimp only at hSw
                  go_simp
                  try with_reducible rfl
                try simp only [Act.put, List.getElem_toArray, List.getElem_cons_zero, List.getElem_cons_succ, List.setIfInBounds_toArray, List.set_cons_zero, List.set_cons_succ]
                refine AnyK.takeW (i := 6) (v := ?vq21) rfl (by kernel_rfl) (by kernel_rfl) (by kernel_rfl) (by kernel_rfl) (fun _ _ _ h => h) (Or.inl ⟨by kernel_rfl, ?yq21⟩) (by assumption) ?rq21
                case yq21 =>
                  intro w hSw
                  try dsimp only at hSw
                  go_simp
                  try with_reducible rfl
                try simp only [Act.put, List.getElem_toArray, List.getElem_cons_zero, List.getElem_cons_succ, List.setIfInBounds_toArray, List.set_cons_zero, List.set_cons_succ]
                refine AnyK.takeW (i := 7) (v := ?vq22) rfl (by kernel_rfl) (by kernel_rfl) (by kernel_rfl) (by kernel_rfl) (fun _ _ _ h => h) (Or.inl ⟨by kernel_rfl, ?yq22⟩) (by assumption) ?rq22
                case yq22 =>
                  intro w hSw
                  try dsimp only at hSw
                  go_simp
                  try with_reducible rfl
                try simp only [Act.put, List.getElem_toArray, List.getElem_cons_zero, List.getElem_cons_succ, List.setIfInBounds_toArray, List.set_cons_zero, List.set_cons_succ]
                refine AnyK.last (by kernel_rfl) ?_
                simp only [List.drop_succ_cons, List.drop_zero]
                clear hHeld
                have bZ_45_c0 := cell_of_heap bZ_45 0
                have bZ_45_c1 := cell_of_heap bZ_45 1
                have bZ_45_c2 := cell_of_heap bZ_45 2
                have bZ_45_c3 := cell_of_heap bZ_45 3
                have bZ_45_f := frozen_of_heap bZ_45
                go_wp2_with fail
                go_meet
                have hkz := setMany_kp (w43.heap.size) [.int .i64 0, .slice aHa (Rec.pk t StartM.zeros).length dHa, .slice aHb (Rec.pk t ya1).length dHb, .slice aHc (Rec.pk t yb1).length dHc] w45 0
                have zs := setMany_size (w43.heap.size) [.int .i64 0, .slice aHa (Rec.pk t StartM.zeros).length dHa, .slice aHb (Rec.pk t ya1).length dHb, .slice aHc (Rec.pk t yb1).length dHc] w45 0
                have hR := setMany_row [.int .i64 0, .slice aHa (Rec.pk t StartM.zeros).length dHa, .slice aHb (Rec.pk t ya1).length dHb, .slice aHc (Rec.pk t yb1).length dHc] bZ_45 rfl
                have zb := heap_lt bZ_45
                have hMO := (oH_45.toR.kp hkz (by omega) (fun x e => by omega)).mono (lo' := w.heap.size) (hi' := (setMany w45 (w43.heap.size) 0 [.int .i64 0, .slice aHa (Rec.pk t StartM.zeros).length dHa, .slice aHb (Rec.pk t ya1).length dHb, .slice aHc (Rec.pk t yb1).length dHc]).heap.size) (by omega) (by omega)
                have hpz : w40.heap.size ≤ (setMany w45 (w43.heap.size) 0 [.int .i64 0, .slice aHa (Rec.pk t StartM.zeros).length dHa, .slice aHb (Rec.pk t ya1).length dHb, .slice aHc (Rec.pk t yb1).length dHc]).heap.size := by omega
                exact ⟨w43.heap.size, _, _, _, _, _, _, rfl, rfl, New.one N45 hkz (by omega), hpz, by omega, zb2 zb zs, hR, hMO, setMany_other [.int .i64 0, .slice aHa (Rec.pk t StartM.zeros).length dHa, .slice aHb (Rec.pk t ya1).length dHb, .slice aHc (Rec.pk t yb1).length dHc] 0 bA0_45 (by omega), setMany_other [.int .i64 0, .slice aHa (Rec.pk t StartM.zeros).length dHa, .slice aHb (Rec.pk t ya1).length dHb, .slice aHc (Rec.pk t yb1).length dHc] 0 bA1_45 (by omega), setMany_other [.int .i64 0, .slice aHa (Rec.pk t StartM.zeros).length dHa, .slice aHb (Rec.pk t ya1).length dHb, .slice aHc (Rec.pk t yb1).length dHc] 0 bW_45 (by omega), setMany_other [.int .i64 0, .slice aHa (Rec.pk t StartM.zeros).length dHa, .slice aHb (Rec.pk t ya1).length dHb, .slice aHc (Rec.pk t yb1).length dHc] 0 bG_45 (by omega), oW_45.kp hkz (by omega) (fun x e => by omega), oG_45.kp hkz (fun x e => by omega)⟩
            · go_simp
              have hn43 : New w42 (w42.alloc (.cells #[.int .i64 0, .slice none 0 0, .slice none 0 0, .slice none 0 0] 31)) := (show New w42 (w42.alloc (.cells #[.int .i64 0, .slice none 0 0, .slice none 0 0, .slice none 0 0] 31)) from (Kp.refl _ _).alloc _)
              have z43 : w42.heap.size < (w42.alloc (.cells #[.int .i64 0, .slice none 0 0, .slice none 0 0, .slice none 0 0] 31)).heap.size := (show w42.heap.size < (w42.alloc (.cells #[.int .i64 0, .slice none 0 0, .slice none 0 0, .slice none 0 0] 31)).heap.size from Rec.lt_alloc _ _)
              have N43 := N42.trans hn43
              have bA0_43 := heap_new hn43 bA0_42
              have bA1_43 := heap_new hn43 bA1_42
              have bW_43 := heap_new hn43 bW_42
              have bG_43 := heap_new hn43 bG_42
              have oW_43 := oW_42.new (by omega) hn43
              have oG_43 := oG_42.new (by omega) hn43
              have oP0_43 := oP0_42.new (by omega) hn43
              have bZ_43 : (w42.alloc (.cells #[.int .i64 0, .slice none 0 0, .slice none 0 0, .slice none 0 0] 31)).heap[w42.heap.size]? = some (.cells #[.int .i64 0, .slice none 0 0, .slice none 0 0, .slice none 0 0] 31) := (show (w42.alloc (.cells #[.int .i64 0, .slice none 0 0, .slice none 0 0, .slice none 0 0] 31)).heap[w42.heap.size]? = _ from alloc_heap _ _)
              clear bA0_42_c0 bA0_42_c1 bA0_42_c2 bA1_42_c0 bA1_42_c1
              clear bA0_42 bA1_42 bW_42 bG_42 oW_42 oG_42 oP0_42 hn43
              generalize (w42.alloc (.cells #[.int .i64 0, .slice none 0 0, .slice none 0 0, .slice none 0 0] 31)) = w43 at *
              have bA0_43_c0 := cell_of_heap bA0_43 0
              have bA0_43_c1 := cell_of_heap bA0_43 1
              have bA0_43_c2 := cell_of_heap bA0_43 2
              have bA1_43_c0 := cell_of_heap bA1_43 0
              have bA1_43_c1 := cell_of_heap bA1_43 1
              refine hK.out _ _ ?_ (fun hHeld2 => ?_)
              · exact ⟨bA0_43_c0, bA0_43_c1, bA0_43_c2, bA1_43_c0, bA1_43_c1⟩
              clear hK K hHeld
              have hHeld := hHeld2
              clear hHeld2
              try simp only [Act.put, List.getElem_toArray, List.getElem_cons_zero, List.getElem_cons_succ, List.setIfInBounds_toArray, List.set_cons_zero, List.set_cons_succ]
              refine AnyK.step (i := 3) (by kernel_rfl) rfl (fun K hK => ?_)
              go_simp
              refine (ToO.toMemory _ 0 w.heap.size _ _ _ _ (ra1.new (Nat.le_refl _) N43) (rb1.new (Nat.le_refl _) N43) (by omega) (by omega) (by omega)).mono ?_
              rintro e w44 ⟨vP1a, vP1b, rfl, hn44, qP1⟩
              have z44 : w43.heap.size ≤ w44.heap.size := hn44.size
              have N44 : New w w44 := N43.trans hn44
              have bA0_44 := heap_new hn44 bA0_43
              have bA1_44 := heap_new hn44 bA1_43
              have bW_44 := heap_new hn44 bW_43
              have bG_44 := heap_new hn44 bG_43
              have bZ_44 := heap_new hn44 bZ_43
              have oW_44 := oW_43.new (by omega) hn44
              have oG_44 := oG_43.new (by omega) hn44
              have oP0_44 := oP0_43.new (by omega) hn44
              clear bA0_43_c0 bA0_43_c1 bA0_43_c2 bA1_43_c0 bA1_43_c1
              clear bA0_43 bA1_43 bW_43 bG_43 bZ_43 oW_43 oG_43 oP0_43 hn44
              have oP1_44 := qP1
              clear qP1
              have bA0_44_c0 := cell_of_heap bA0_44 0
              have bA0_44_c1 := cell_of_heap bA0_44 1
              have bA0_44_c2 := cell_of_heap bA0_44 2
              have bA1_44_c0 := cell_of_heap bA1_44 0
              have bA1_44_c1 := cell_of_heap bA1_44 1
              refine hK.out _ _ ?_ (fun hHeld2 => ?_)
              · exact ⟨bA0_44_c0, bA0_44_c1, bA0_44_c2, bA1_44_c0, bA1_44_c1⟩
              clear hK K hHeld
              have hHeld := hHeld2
              clear hHeld2
              try simp only [Act.put, List.getElem_toArray, List.getElem_cons_zero, List.getElem_cons_succ, List.setIfInBounds_toArray, List.set_cons_zero, List.set_cons_succ]
              refine AnyK.step (i := 4) (by kernel_rfl) rfl (fun K hK => ?_)
              go_simp
              refine (StartC.implS _ _ _ _ _ _ _ _ _ _ _ _ _ _ _ oP0_44.toR.1 oP0_44.toR.2.1 oP0_44.toR.2.2 (by omega) oP1_44 (by omega) (by omega) (by omega) hrow.out).mono ?_
              rintro e w45 ⟨vHa, vHb, vHc, rfl, hn45, qH⟩
              have z45 : w44.heap.size ≤ w45.heap.size := hn45.size
              have N45 : New w w45 := N44.trans hn45
              have bA0_45 := heap_new hn45 bA0_44
              have bA1_45 := heap_new hn45 bA1_44
              have bW_45 := heap_new hn45 bW_44
              have bG_45 := heap_new hn45 bG_44
              have bZ_45 := heap_new hn45 bZ_44
              have oW_45 := oW_44.new (by omega) hn45
              have oG_45 := oG_44.new (by omega) hn45
              have oP0_45 := oP0_44.new (by omega) hn45
              have oP1_45 := oP1_44.new (by omega) hn45
              clear bA0_44_c0 bA0_44_c1 bA0_44_c2 bA1_44_c0 bA1_44_c1
              clear bA0_44 bA1_44 bW_44 bG_44 bZ_44 oW_44 oG_44 oP0_44 oP1_44 hn45
              rw [ht.out] at qH
              rw [ht.out]
              have oH_45 := qH
              clear qH
              obtain ⟨⟨aHa, dHa, eHa⟩, ⟨aHb, dHb, eHb⟩, aHc, dHc, eHc⟩ := oH_45.toR.lens
              subst eHa
              subst eHb
              subst eHc
              have bA0_45_c0 := cell_of_heap bA0_45 0
              have bA0_45_c1 := cell_of_heap bA0_45 1
              have bA0_45_c2 := cell_of_heap bA0_45 2
              have bA1_45_c0 := cell_of_heap bA1_45 0
              have bA1_45_c1 := cell_of_heap bA1_45 1
              refine hK.out _ _ ?_ (fun hHeld2 => ?_)
              · exact ⟨bA0_45_c0, bA0_45_c1, bA0_45_c2, bA1_45_c0, bA1_45_c1⟩
              clear hK K hHeld
              have hHeld := hHeld2
              clear hHeld2
              try simp only [Act.put, List.getElem_toArray, List.getElem_cons_zero, List.getElem_cons_succ, List.setIfInBounds_toArray, List.set_cons_zero, List.set_cons_succ]
              refine AnyK.takeW (i := 5) (v := ?vq23) rfl (by kernel_rfl) (by kernel_rfl) (by kernel_rfl) (by kernel_rfl) (fun _ _ _ h => h) (Or.inl ⟨by kernel_rfl, ?yq23⟩) (by assumption) ?rq23
              case yq23 =>
                intro w hSw
                try dsimp only at hSw
                go_simp
                try with_reducible rfl
              try simp only [Act.put, List.getElem_toArray, List.getElem_cons_zero, List.getElem_cons_succ, List.setIfInBounds_toArray, List.set_cons_zero, List.set_cons_succ]
              refine AnyK.takeW (i := 6) (v := ?vq24) rfl (by kernel_rfl) (by kernel_rfl) (by kernel_rfl) (by kernel_rfl) (fun _ _ _ h => h) (Or.inl ⟨by kernel_rfl, ?yq24⟩) (by assumption) ?rq24
              case yq24 =>
                intro w hSw
                try dsimp only at hSw
                go_simp
                try with_reducible rfl
              try simp only [Act.put, List.getElem_toArray, List.getElem_cons_zero, List.getElem_cons_succ, List.setIfInBounds_toArray, List.set_cons_zero, List.set_cons_succ]
              refine AnyK.takeW (i := 7) (v := ?vq25) rfl (by kernel_rfl) (by kernel_rfl) (by kernel_rfl) (by kernel_rfl) (fun _ _ _ h => h) (Or.inl ⟨by kernel_rfl, ?yq25⟩) (by assumption) ?rq25
              case yq25 =>
                intro w hSw
                try dsimp only at hSw
                go_simp
                try with_reducible rfl
              try simp only [Act.put, List.getElem_toArray, List.getElem_cons_zero, List.getElem_cons_succ, List.setIfInBounds_toArray, List.set_cons_zero, List.set_cons_succ]
              refine AnyK.last (by kernel_rfl) ?_
              simp only [List.drop_succ_cons, List.drop_zero]
              clear hHeld
              have bZ_45_c0 := cell_of_heap bZ_45 0
              have bZ_45_c1 := cell_of_heap bZ_45 1
              have bZ_45_c2 := cell_of_heap bZ_45 2
              have bZ_45_c3 := cell_of_heap bZ_45 3
              have bZ_45_f := frozen_of_heap bZ_45
              go_wp2_with fail
              go_meet
              have hkz := setMany_kp (w42.heap.size) [.int .i64 0, .slice aHa (Rec.pk t StartM.zeros).length dHa, .slice aHb (Rec.pk t ya1).length dHb, .slice aHc (Rec.pk t yb1).length dHc] w45 0
              have zs := setMany_size (w42.heap.size) [.int .i64 0, .slice aHa (Rec.pk t StartM.zeros).length dHa, .slice aHb (Rec.pk t ya1).length dHb, .slice aHc (Rec.pk t yb1).length dHc] w45 0
              have hR := setMany_row [.int .i64 0, .slice aHa (Rec.pk t StartM.zeros).length dHa, .slice aHb (Rec.pk t ya1).length dHb, .slice aHc (Rec.pk t yb1).length dHc] bZ_45 rfl
              have zb := heap_lt bZ_45
              have hMO := (oH_45.toR.kp hkz (by omega) (fun x e => by omega)).mono (lo' := w.heap.size) (hi' := (setMany w45 (w42.heap.size) 0 [.int .i64 0, .slice aHa (Rec.pk t StartM.zeros).length dHa, .slice aHb (Rec.pk t ya1).length dHb, .slice aHc (Rec.pk t yb1).length dHc]).heap.size) (by omega) (by omega)
              have hpz : w40.heap.size ≤ (setMany w45 (w42.heap.size) 0 [.int .i64 0, .slice aHa (Rec.pk t StartM.zeros).length dHa, .slice aHb (Rec.pk t ya1).length dHb, .slice aHc (Rec.pk t yb1).length dHc]).heap.size := by omega
              exact ⟨w42.heap.size, _, _, _, _, _, _, rfl, rfl, New.one N45 hkz (by omega), hpz, by omega, zb2 zb zs, hR, hMO, setMany_other [.int .i64 0, .slice aHa (Rec.pk t StartM.zeros).length dHa, .slice aHb (Rec.pk t ya1).length dHb, .slice aHc (Rec.pk t yb1).length dHc] 0 bA0_45 (by omega), setMany_other [.int .i64 0, .slice aHa (Rec.pk t StartM.zeros).length dHa, .slice aHb (Rec.pk t ya1).length dHb, .slice aHc (Rec.pk t yb1).length dHc] 0 bA1_45 (by omega), setMany_other [.int .i64 0, .slice aHa (Rec.pk t StartM.zeros).length dHa, .slice aHb (Rec.pk t ya1).length dHb, .slice aHc (Rec.pk t yb1).length dHc] 0 bW_45 (by omega), setMany_other [.int .i64 0, .slice aHa (Rec.pk t StartM.zeros).length dHa, .slice aHb (Rec.pk t ya1).length dHb, .slice aHc (Rec.pk t yb1).length dHc] 0 bG_45 (by omega), oW_45.kp hkz (by omega) (fun x e => by omega), oG_45.kp hkz (fun x e => by omega)⟩
          · go_simp
            have hn42 : New w40.drew (w40.alloc (.cells #[.int .i64 0, .slice none 0 0, .slice none 0 0, .slice none 0 0] 31)).drew := (show New w40.drew (w40.drew.alloc (.cells #[.int .i64 0, .slice none 0 0, .slice none 0 0, .slice none 0 0] 31)) from (Kp.refl _ _).alloc _)
            have z42 : w40.drew.heap.size < (w40.alloc (.cells #[.int .i64 0, .slice none 0 0, .slice none 0 0, .slice none 0 0] 31)).drew.heap.size := (show w40.drew.heap.size < (w40.drew.alloc (.cells #[.int .i64 0, .slice none 0 0, .slice none 0 0, .slice none 0 0] 31)).heap.size from Rec.lt_alloc _ _)
            have N42 := N41.trans hn42
            have bA0_42 := heap_new hn42 bA0_41
            have bA1_42 := heap_new hn42 bA1_41
            have bW_42 := heap_new hn42 bW_41
            have bG_42 := heap_new hn42 bG_41
            have oW_42 := oW_41.new (by omega) hn42
            have oG_42 := oG_41.new (by omega) hn42
            have bZ_42 : (w40.alloc (.cells #[.int .i64 0, .slice none 0 0, .slice none 0 0, .slice none 0 0] 31)).drew.heap[w40.heap.size]? = some (.cells #[.int .i64 0, .slice none 0 0, .slice none 0 0, .slice none 0 0] 31) := (show (w40.drew.alloc (.cells #[.int .i64 0, .slice none 0 0, .slice none 0 0, .slice none 0 0] 31)).heap[w40.drew.heap.size]? = _ from alloc_heap _ _)
            clear bA0_41_c0 bA0_41_c1 bA0_41_c2 bA1_41_c0 bA1_41_c1
            clear bA0_41 bA1_41 bW_41 bG_41 oW_41 oG_41 hn42
            generalize (w40.alloc (.cells #[.int .i64 0, .slice none 0 0, .slice none 0 0, .slice none 0 0] 31)).drew = w42 at *
            have bA0_42_c0 := cell_of_heap bA0_42 0
            have bA0_42_c1 := cell_of_heap bA0_42 1
            have bA0_42_c2 := cell_of_heap bA0_42 2
            have bA1_42_c0 := cell_of_heap bA1_42 0
            have bA1_42_c1 := cell_of_heap bA1_42 1
            refine hK.out _ _ ?_ (fun hHeld2 => ?_)
            · exact ⟨bA0_42_c0, bA0_42_c1, bA0_42_c2, bA1_42_c0, bA1_42_c1⟩
            clear hK K hHeld
            have hHeld := hHeld2
            clear hHeld2
            try simp only [Act.put, List.getElem_toArray, List.getElem_cons_zero, List.getElem_cons_succ, List.setIfInBounds_toArray, List.set_cons_zero, List.set_cons_succ]
            refine AnyK.step (i := 1) (by kernel_rfl) rfl (fun K hK => ?_)
            go_simp
            refine (ToO.toCode _ 0 w.heap.size _ _ _ _ _ _ (sa0.new (Nat.le_refl _) N42) (sb0.new (Nat.le_refl _) N42) (s0.new (Nat.le_refl _) N42) (by omega) (by omega) (by omega) (by omega)).mono ?_
            rintro e w43 ⟨vP0a, vP0b, vP0c, rfl, hn43, qP0⟩
            have z43 : w42.heap.size ≤ w43.heap.size := hn43.size
            have N43 : New w w43 := N42.trans hn43
            have bA0_43 := heap_new hn43 bA0_42
            have bA1_43 := heap_new hn43 bA1_42
            have bW_43 := heap_new hn43 bW_42
            have bG_43 := heap_new hn43 bG_42
            have bZ_43 := heap_new hn43 bZ_42
            have oW_43 := oW_42.new (by omega) hn43
            have oG_43 := oG_42.new (by omega) hn43
            clear bA0_42_c0 bA0_42_c1 bA0_42_c2 bA1_42_c0 bA1_42_c1
            clear bA0_42 bA1_42 bW_42 bG_42 bZ_42 oW_42 oG_42 hn43
            have oP0_43 := qP0
            clear qP0
            have bA0_43_c0 := cell_of_heap bA0_43 0
            have bA0_43_c1 := cell_of_heap bA0_43 1
            have bA0_43_c2 := cell_of_heap bA0_43 2
            have bA1_43_c0 := cell_of_heap bA1_43 0
            have bA1_43_c1 := cell_of_heap bA1_43 1
            refine hK.out _ _ ?_ (fun hHeld2 => ?_)
            · exact ⟨bA0_43_c0, bA0_43_c1, bA0_43_c2, bA1_43_c0, bA1_43_c1⟩
            clear hK K hHeld
            have hHeld := hHeld2
            clear hHeld2
            try simp only [Act.put, List.getElem_toArray, List.getElem_cons_zero, List.getElem_cons_succ, List.setIfInBounds_toArray, List.set_cons_zero, List.set_cons_succ]
            refine AnyK.step (i := 3) (by kernel_rfl) rfl (fun K hK => ?_)
            go_simp
            refine (ToO.toMemory _ 0 w.heap.size _ _ _ _ (ra1.new (Nat.le_refl _) N43) (rb1.new (Nat.le_refl _) N43) (by omega) (by omega) (by omega)).mono ?_
            rintro e w44 ⟨vP1a, vP1b, rfl, hn44, qP1⟩
            have z44 : w43.heap.size ≤ w44.heap.size := hn44.size
            have N44 : New w w44 := N43.trans hn44
            have bA0_44 := heap_new hn44 bA0_43
            have bA1_44 := heap_new hn44 bA1_43
            have bW_44 := heap_new hn44 bW_43
            have bG_44 := heap_new hn44 bG_43
            have bZ_44 := heap_new hn44 bZ_43
            have oW_44 := oW_43.new (by omega) hn44
            have oG_44 := oG_43.new (by omega) hn44
            have oP0_44 := oP0_43.new (by omega) hn44
            clear bA0_43_c0 bA0_43_c1 bA0_43_c2 bA1_43_c0 bA1_43_c1
            clear bA0_43 bA1_43 bW_43 bG_43 bZ_43 oW_43 oG_43 oP0_43 hn44
            have oP1_44 := qP1
            clear qP1
            have bA0_44_c0 := cell_of_heap bA0_44 0
            have bA0_44_c1 := cell_of_heap bA0_44 1
            have bA0_44_c2 := cell_of_heap bA0_44 2
            have bA1_44_c0 := cell_of_heap bA1_44 0
            have bA1_44_c1 := cell_of_heap bA1_44 1
            refine hK.out _ _ ?_ (fun hHeld2 => ?_)
            · exact ⟨bA0_44_c0, bA0_44_c1, bA0_44_c2, bA1_44_c0, bA1_44_c1⟩
            clear hK K hHeld
            have hHeld := hHeld2
            clear hHeld2
            try simp only [Act.put, List.getElem_toArray, List.getElem_cons_zero, List.getElem_cons_succ, List.setIfInBounds_toArray, List.set_cons_zero, List.set_cons_succ]
            refine AnyK.step (i := 4) (by kernel_rfl) rfl (fun K hK => ?_)
            go_simp
            refine (StartC.implS _ _ _ _ _ _ _ _ _ _ _ _ _ _ _ oP0_44.toR.1 oP0_44.toR.2.1 oP0_44.toR.2.2 (by omega) oP1_44 (by omega) (by omega) (by omega) hrow.out).mono ?_
            rintro e w45 ⟨vHa, vHb, vHc, rfl, hn45, qH⟩
            have z45 : w44.heap.size ≤ w45.heap.size := hn45.size
            have N45 : New w w45 := N44.trans hn45
            have bA0_45 := heap_new hn45 bA0_44
            have bA1_45 := heap_new hn45 bA1_44
            have bW_45 := heap_new hn45 bW_44
            have bG_45 := heap_new hn45 bG_44
            have bZ_45 := heap_new hn45 bZ_44
            have oW_45 := oW_44.new (by omega) hn45
            have oG_45 := oG_44.new (by omega) hn45
            have oP0_45 := oP0_44.new (by omega) hn45
            have oP1_45 := oP1_44.new (by omega) hn45
            clear bA0_44_c0 bA0_44_c1 bA0_44_c2 bA1_44_c0 bA1_44_c1
            clear bA0_44 bA1_44 bW_44 bG_44 bZ_44 oW_44 oG_44 oP0_44 oP1_44 hn45
            rw [ht.out] at qH
            rw [ht.out]
            have oH_45 := qH
            clear qH
            obtain ⟨⟨aHa, dHa, eHa⟩, ⟨aHb, dHb, eHb⟩, aHc, dHc, eHc⟩ := oH_45.toR.lens
            subst eHa
            subst eHb
            subst eHc
            have bA0_45_c0 := cell_of_heap bA0_45 0
            have bA0_45_c1 := cell_of_heap bA0_45 1
            have bA0_45_c2 := cell_of_heap bA0_45 2
            have bA1_45_c0 := cell_of_heap bA1_45 0
            have bA1_45_c1 := cell_of_heap bA1_45 1
            refine hK.out _ _ ?_ (fun hHeld2 => ?_)
            · exact ⟨bA0_45_c0, bA0_45_c1, bA0_45_c2, bA1_45_c0, bA1_45_c1⟩
            clear hK K hHeld
            have hHeld := hHeld2
            clear hHeld2
            try simp only [Act.put, List.getElem_toArray, List.getElem_cons_zero, List.getElem_cons_succ, List.setIfInBounds_toArray, List.set_cons_zero, List.set_cons_succ]
            refine AnyK.takeW (i := 5) (v := ?vq26) rfl (by kernel_rfl) (by kernel_rfl) (by kernel_rfl) (by kernel_rfl) (fun _ _ _ h => h) (Or.inl ⟨by kernel_rfl, ?yq26⟩) (by assumption) ?rq26
            case yq26 =>
              intro w hSw
              try dsimp only at hSw
              go_simp
              try with_reducible rfl
            try simp only [Act.put, List.getElem_toArray, List.getElem_cons_zero, List.getElem_cons_succ, List.setIfInBounds_toArray, List.set_cons_zero, List.set_cons_succ]
            refine AnyK.takeW (i := 6) (v := ?vq27) rfl (by kernel_rfl) (by kernel_rfl) (by kernel_rfl) (by kernel_rfl) (fun _ _ _ h => h) (Or.inl ⟨by kernel_rfl, ?yq27⟩) (by assumption) ?rq27
            case yq27 =>
              intro w hSw
              try dsimp only at hSw
              go_simp
              try with_reducible rfl
            try simp only [Act.put, List.getElem_toArray, List.getElem_cons_zero, List.getElem_cons_succ, List.setIfInBounds_toArray, List.set_cons_zero, List.set_cons_succ]
            refine AnyK.takeW (i := 7) (v := ?vq28) rfl (by kernel_rfl) (by kernel_rfl) (by kernel_rfl) (by kernel_rfl) (fun _ _ _ h => h) (Or.inl ⟨by kernel_rfl, ?yq28⟩) (by assumption) ?rq28
            case yq28 =>
              intro w hSw
              try dsimp only at hSw
              go_simp
              try with_reducible rfl
            try simp only [Act.put, List.getElem_toArray, List.getElem_cons_zero, List.getElem_cons_succ, List.setIfInBounds_toArray, List.set_cons_zero, List.set_cons_succ]
            refine AnyK.last (by kernel_rfl) ?_
            simp only [List.drop_succ_cons, List.drop_zero]
            clear hHeld
            have bZ_45_c0 := cell_of_heap bZ_45 0
            have bZ_45_c1 := cell_of_heap bZ_45 1
            have bZ_45_c2 := cell_of_heap bZ_45 2
            have bZ_45_c3 := cell_of_heap bZ_45 3
            have bZ_45_f := frozen_of_heap bZ_45
            go_wp2_with fail
            go_meet
            have hkz := setMany_kp (w40.heap.size) [.int .i64 0, .slice aHa (Rec.pk t StartM.zeros).length dHa, .slice aHb (Rec.pk t ya1).length dHb, .slice aHc (Rec.pk t yb1).length dHc] w45 0
            have zs := setMany_size (w40.heap.size) [.int .i64 0, .slice aHa (Rec.pk t StartM.zeros).length dHa, .slice aHb (Rec.pk t ya1).length dHb, .slice aHc (Rec.pk t yb1).length dHc] w45 0
            have hR := setMany_row [.int .i64 0, .slice aHa (Rec.pk t StartM.zeros).length dHa, .slice aHb (Rec.pk t ya1).length dHb, .slice aHc (Rec.pk t yb1).length dHc] bZ_45 rfl
            have zb := heap_lt bZ_45
            have hMO := (oH_45.toR.kp hkz (by omega) (fun x e => by omega)).mono (lo' := w.heap.size) (hi' := (setMany w45 (w40.heap.size) 0 [.int .i64 0, .slice aHa (Rec.pk t StartM.zeros).length dHa, .slice aHb (Rec.pk t ya1).length dHb, .slice aHc (Rec.pk t yb1).length dHc]).heap.size) (by omega) (by omega)
            have hpz : w40.heap.size ≤ (setMany w45 (w40.heap.size) 0 [.int .i64 0, .slice aHa (Rec.pk t StartM.zeros).length dHa, .slice aHb (Rec.pk t ya1).length dHb, .slice aHc (Rec.pk t yb1).length dHc]).heap.size := by omega
            exact ⟨w40.heap.size, _, _, _, _, _, _, rfl, rfl, New.one N45 hkz (by omega), hpz, by omega, zb2 zb zs, hR, hMO, setMany_other [.int .i64 0, .slice aHa (Rec.pk t StartM.zeros).length dHa, .slice aHb (Rec.pk t ya1).length dHb, .slice aHc (Rec.pk t yb1).length dHc] 0 bA0_45 (by omega), setMany_other [.int .i64 0, .slice aHa (Rec.pk t StartM.zeros).length dHa, .slice aHb (Rec.pk t ya1).length dHb, .slice aHc (Rec.pk t yb1).length dHc] 0 bA1_45 (by omega), setMany_other [.int .i64 0, .slice aHa (Rec.pk t StartM.zeros).length dHa, .slice aHb (Rec.pk t ya1).length dHb, .slice aHc (Rec.pk t yb1).length dHc] 0 bW_45 (by omega), setMany_other [.int .i64 0, .slice aHa (Rec.pk t StartM.zeros).length dHa, .slice aHb (Rec.pk t ya1).length dHb, .slice aHc (Rec.pk t yb1).length dHc] 0 bG_45 (by omega), oW_45.kp hkz (by omega) (fun x e => by omega), oG_45.kp hkz (fun x e => by omega)⟩
        case rest =>
          clear bA0_40_c0 bA0_40_c1 bA0_40_c2 bA1_40_c0 bA1_40_c1 bW_40_c0 bW_40_c1 bW_40_c2 bW_40_c3 bG_40_c0 bG_40_c1 bG_40_c2 bG_40_c3
          clear bA0_40 bA1_40 bW_40 bG_40 oW_40 oG_40
          obtain ⟨bH, aHa, dHa, aHb, dHb, aHc, dHc, rfl, rfl, N60, hpH, hbH, zbH, bH_60, oH_60, bA0_60, bA1_60, bW_60, bG_60, oW_60, oG_60⟩ := hcut
          obtain ⟨wc31, hwc⟩ : ∃ x, x = wc := ⟨_, rfl⟩
          subst hwc
          have bA0_60_c0 := cell_of_heap bA0_60 0
          have bA0_60_c1 := cell_of_heap bA0_60 1
          have bA0_60_c2 := cell_of_heap bA0_60 2
          have bA1_60_c0 := cell_of_heap bA1_60 0
          have bA1_60_c1 := cell_of_heap bA1_60 1
          have bW_60_c0 := cell_of_heap bW_60 0
          have bW_60_c1 := cell_of_heap bW_60 1
          have bW_60_c2 := cell_of_heap bW_60 2
          have bW_60_c3 := cell_of_heap bW_60 3
          have bG_60_c0 := cell_of_heap bG_60 0
          have bG_60_c1 := cell_of_heap bG_60 1
          have bG_60_c2 := cell_of_heap bG_60 2
          have bG_60_c3 := cell_of_heap bG_60 3
          have bH_60_c0 := cell_of_heap bH_60 0
          have bH_60_c1 := cell_of_heap bH_60 1
          have bH_60_c2 := cell_of_heap bH_60 2
          have bH_60_c3 := cell_of_heap bH_60 3
          go_wp2_with fail
          refine (Rec.eqMachine oH_60 oW_60 (by omega) (by omega)).mono ?_
          rintro e w61 ⟨rfl, hn61⟩
          have z61 : wc31.heap.size ≤ w61.heap.size := hn61.size
          have N61 : New w w61 := N60.trans hn61
          have bA0_61 := heap_new hn61 bA0_60
          have bA1_61 := heap_new hn61 bA1_60
          have bW_61 := heap_new hn61 bW_60
          have bG_61 := heap_new hn61 bG_60
          have bH_61 := heap_new hn61 bH_60
          have oW_61 := oW_60.new (by omega) hn61
          have oG_61 := oG_60.new (by omega) hn61
          have oH_61 := oH_60.new (by omega) hn61
          clear bA0_60_c0 bA0_60_c1 bA0_60_c2 bA1_60_c0 bA1_60_c1 bW_60_c0 bW_60_c1 bW_60_c2 bW_60_c3 bG_60_c0 bG_60_c1 bG_60_c2 bG_60_c3 bH_60_c0 bH_60_c1 bH_60_c2 bH_60_c3
          clear bA0_60 bA1_60 bW_60 bG_60 bH_60 oW_60 oG_60 oH_60 hn61
          have bA0_61_c0 := cell_of_heap bA0_61 0
          have bA0_61_c1 := cell_of_heap bA0_61 1
          have bA0_61_c2 := cell_of_heap bA0_61 2
          have bA1_61_c0 := cell_of_heap bA1_61 0
          have bA1_61_c1 := cell_of_heap bA1_61 1
          have bW_61_c0 := cell_of_heap bW_61 0
          have bW_61_c1 := cell_of_heap bW_61 1
          have bW_61_c2 := cell_of_heap bW_61 2
          have bW_61_c3 := cell_of_heap bW_61 3
          have bG_61_c0 := cell_of_heap bG_61 0
          have bG_61_c1 := cell_of_heap bG_61 1
          have bG_61_c2 := cell_of_heap bG_61 2
          have bG_61_c3 := cell_of_heap bG_61 3
          have bH_61_c0 := cell_of_heap bH_61 0
          have bH_61_c1 := cell_of_heap bH_61 1
          have bH_61_c2 := cell_of_heap bH_61 2
          have bH_61_c3 := cell_of_heap bH_61 3
          go_wp2_with fail
          refine (MarkC.heldMachine _ _ _ 0 _ _ _ (Rec.pk t StartM.zeros).length (Rec.pk t ya1).length (Rec.pk t yb1) 1 oG_61.toR.1 oG_61.toR.2.1 oG_61.toR.2.2 (by omega) (by omega) (by omega) (by omega) (by omega) (by omega)).mono ?_
          rintro e w62 ⟨rfl, hn62⟩
          have z62 : w61.heap.size ≤ w62.heap.size := hn62.size
          have N62 : New w w62 := N61.trans hn62
          have bA0_62 := heap_new hn62 bA0_61
          have bA1_62 := heap_new hn62 bA1_61
          have bW_62 := heap_new hn62 bW_61
          have bG_62 := heap_new hn62 bG_61
          have bH_62 := heap_new hn62 bH_61
          have oW_62 := oW_61.new (by omega) hn62
          have oG_62 := oG_61.new (by omega) hn62
          have oH_62 := oH_61.new (by omega) hn62
          clear bA0_61_c0 bA0_61_c1 bA0_61_c2 bA1_61_c0 bA1_61_c1 bW_61_c0 bW_61_c1 bW_61_c2 bW_61_c3 bG_61_c0 bG_61_c1 bG_61_c2 bG_61_c3 bH_61_c0 bH_61_c1 bH_61_c2 bH_61_c3
          clear bA0_61 bA1_61 bW_61 bG_61 bH_61 oW_61 oG_61 oH_61 hn62
          rw [hm1.out]
          have bA0_62_c0 := cell_of_heap bA0_62 0
          have bA0_62_c1 := cell_of_heap bA0_62 1
          have bA0_62_c2 := cell_of_heap bA0_62 2
          have bA1_62_c0 := cell_of_heap bA1_62 0
          have bA1_62_c1 := cell_of_heap bA1_62 1
          have bW_62_c0 := cell_of_heap bW_62 0
          have bW_62_c1 := cell_of_heap bW_62 1
          have bW_62_c2 := cell_of_heap bW_62 2
          have bW_62_c3 := cell_of_heap bW_62 3
          have bG_62_c0 := cell_of_heap bG_62 0
          have bG_62_c1 := cell_of_heap bG_62 1
          have bG_62_c2 := cell_of_heap bG_62 2
          have bG_62_c3 := cell_of_heap bG_62 3
          have bH_62_c0 := cell_of_heap bH_62 0
          have bH_62_c1 := cell_of_heap bH_62 1
          have bH_62_c2 := cell_of_heap bH_62 2
          have bH_62_c3 := cell_of_heap bH_62 3
          go_wp2
          go_ret
          exact ⟨rfl, N62.toBelow⟩
    · go_enter Try.func11, Try.ntmps11
      go_wp2_with fail
      have N0 : New w ((w.alloc (.cells #[ta0, tb0, tc0] 57)).alloc (.cells #[ma1, mb1] 58)) := (((Kp.refl _ _).alloc _).alloc _)
      have bA0_0 : ((w.alloc (.cells #[ta0, tb0, tc0] 57)).alloc (.cells #[ma1, mb1] 58)).heap[w.heap.size]? = some (.cells #[ta0, tb0, tc0] 57) := heap_old (alloc_heap _ _)
      have bA1_0 : ((w.alloc (.cells #[ta0, tb0, tc0] 57)).alloc (.cells #[ma1, mb1] 58)).heap[w.heap.size + 1]? = some (.cells #[ma1, mb1] 58) := heap_at (by simp)
      have z0 : w.heap.size + 1 < ((w.alloc (.cells #[ta0, tb0, tc0] 57)).alloc (.cells #[ma1, mb1] 58)).heap.size := by simp
      generalize ((w.alloc (.cells #[ta0, tb0, tc0] 57)).alloc (.cells #[ma1, mb1] 58)) = w0 at *
      have bA0_0_c0 := cell_of_heap bA0_0 0
      have bA0_0_c1 := cell_of_heap bA0_0 1
      have bA0_0_c2 := cell_of_heap bA0_0 2
      have bA1_0_c0 := cell_of_heap bA1_0 0
      have bA1_0_c1 := cell_of_heap bA1_0 1
      refine (CodeF.szCode _ 0 w.heap.size _ _ _ _ _ _ (sa0.new (Nat.le_refl _) N0) (sb0.new (Nat.le_refl _) N0) (s0.new (Nat.le_refl _) N0) (1048576) (by omega) (by omega)).mono ?_
      rintro e w1 ⟨rfl, hn1⟩
      have z1 : w0.heap.size ≤ w1.heap.size := hn1.size
      have N1 : New w w1 := N0.trans hn1
      have bA0_1 := heap_new hn1 bA0_0
      have bA1_1 := heap_new hn1 bA1_0
      clear bA0_0_c0 bA0_0_c1 bA0_0_c2 bA1_0_c0 bA1_0_c1
      clear bA0_0 bA1_0 hn1
      rw [szOf_hi (by omega)]
      have bA0_1_c0 := cell_of_heap bA0_1 0
      have bA0_1_c1 := cell_of_heap bA0_1 1
      have bA0_1_c2 := cell_of_heap bA0_1 2
      have bA1_1_c0 := cell_of_heap bA1_1 0
      have bA1_1_c1 := cell_of_heap bA1_1 1
      go_wp2_with fail
      refine (MemF.szMemory _ 0 w.heap.size _ _ _ _ (ra1.new (Nat.le_refl _) N1) (rb1.new (Nat.le_refl _) N1) (1048576 - ((xa0.length + xb0.length + x0.length) : Nat)) (by omega) (by omega) (by omega)).mono ?_
      rintro e w2 ⟨rfl, hn2⟩
      have z2 : w1.heap.size ≤ w2.heap.size := hn2.size
      have N2 : New w w2 := N1.trans hn2
      have bA0_2 := heap_new hn2 bA0_1
      have bA1_2 := heap_new hn2 bA1_1
      clear bA0_1_c0 bA0_1_c1 bA0_1_c2 bA1_1_c0 bA1_1_c1
      clear bA0_1 bA1_1 hn2
      rw [szOf_lo (by omega)]
      have bA0_2_c0 := cell_of_heap bA0_2 0
      have bA0_2_c1 := cell_of_heap bA0_2 1
      have bA0_2_c2 := cell_of_heap bA0_2 2
      have bA1_2_c0 := cell_of_heap bA1_2 0
      have bA1_2_c1 := cell_of_heap bA1_2 1
      go_wp2
      go_ret
      exact ⟨rfl, N2.toBelow⟩
  · go_enter Try.func11, Try.ntmps11
    go_wp2_with fail
    have N0 : New w ((w.alloc (.cells #[ta0, tb0, tc0] 57)).alloc (.cells #[ma1, mb1] 58)) := (((Kp.refl _ _).alloc _).alloc _)
    have bA0_0 : ((w.alloc (.cells #[ta0, tb0, tc0] 57)).alloc (.cells #[ma1, mb1] 58)).heap[w.heap.size]? = some (.cells #[ta0, tb0, tc0] 57) := heap_old (alloc_heap _ _)
    have bA1_0 : ((w.alloc (.cells #[ta0, tb0, tc0] 57)).alloc (.cells #[ma1, mb1] 58)).heap[w.heap.size + 1]? = some (.cells #[ma1, mb1] 58) := heap_at (by simp)
    have z0 : w.heap.size + 1 < ((w.alloc (.cells #[ta0, tb0, tc0] 57)).alloc (.cells #[ma1, mb1] 58)).heap.size := by simp
    generalize ((w.alloc (.cells #[ta0, tb0, tc0] 57)).alloc (.cells #[ma1, mb1] 58)) = w0 at *
    have bA0_0_c0 := cell_of_heap bA0_0 0
    have bA0_0_c1 := cell_of_heap bA0_0 1
    have bA0_0_c2 := cell_of_heap bA0_0 2
    have bA1_0_c0 := cell_of_heap bA1_0 0
    have bA1_0_c1 := cell_of_heap bA1_0 1
    refine (CodeF.szCode _ 0 w.heap.size _ _ _ _ _ _ (sa0.new (Nat.le_refl _) N0) (sb0.new (Nat.le_refl _) N0) (s0.new (Nat.le_refl _) N0) (1048576) (by omega) (by omega)).mono ?_
    rintro e w1 ⟨rfl, hn1⟩
    have z1 : w0.heap.size ≤ w1.heap.size := hn1.size
    have N1 : New w w1 := N0.trans hn1
    have bA0_1 := heap_new hn1 bA0_0
    have bA1_1 := heap_new hn1 bA1_0
    clear bA0_0_c0 bA0_0_c1 bA0_0_c2 bA1_0_c0 bA1_0_c1
    clear bA0_0 bA1_0 hn1
    rw [szOf_lo (by omega)]
    have bA0_1_c0 := cell_of_heap bA0_1 0
    have bA0_1_c1 := cell_of_heap bA0_1 1
    have bA0_1_c2 := cell_of_heap bA0_1 2
    have bA1_1_c0 := cell_of_heap bA1_1 0
    have bA1_1_c1 := cell_of_heap bA1_1 1
    go_wp2
    go_ret
    exact ⟨rfl, N1.toBelow⟩
set_option maxRecDepth 100000 in
theorem lifted (os : Os) (started : os.Started) (H : Type) (enc : TypeId × Value → H) :
    ReturnsInHanded {} Try.checked os 11 .any (Rows.fnExactStartMachineSpec.pre6 enc Try.prog Try.f11 Rows.fnExactStartMachineRow.domain false) (Rows.fnExactStartMachineSpec.post enc Try.prog Try.f11 false true false false) := by
  refine returnsInHanded_of_change (C := Try.checked) own started (by kernel_rfl) Try.func11
    (ChangeSpec.witness6 (enc := enc) (C := Try.checked) false ⟨#[], #[.agg #[.slice none 0 0, .slice none 0 0, .slice none 0 0], .agg #[.slice none 0 0, .slice none 0 0]], []⟩ 8 (by kernel_rfl) (by kernel_rfl) (by kernel_rfl) (by kernel_rfl)) ?_
  intro W base args ds gs before hval0 hW hcnd _
  have hval : ∀ (j : Nat) t v, Try.f11.params[j]? = some t → args[j]? = some v → Value.okWide Try.prog W .any base t v := hval0
  have hW' := hW
  obtain ⟨p, q, hA0, hV, rfl, hfz, hnd⟩ := hW
  have hA : DataW.TrodAll enc Try.prog W 0 (fun _ => true) true Try.f11.params.toList args.toList ds p := hA0
  rw [Try.params11] at hA hval
  obtain ⟨v0, vs0, d0, ds0, p0, q0, hargs, rfl, rfl, h0, r0⟩ := trodAll_cons hA
  obtain ⟨v1, vs1, d1, ds1, p1, q1, rfl, rfl, rfl, h1, r1⟩ := trodAll_cons r0
  obtain ⟨rfl, rfl, rfl⟩ := trodAll_nil r1
  obtain rfl : args = #[v0, v1] := by cases args; simp_all
  obtain ⟨rfl, rfl⟩ := trodVars_none hV
  have kk0 := h0
  have lt0 : ∀ x ∈ p0, x.block < W.heap.size := by obtain ⟨m, hm⟩ := kk0; exact DataW.trod_lt m _ _ _ hm
  obtain ⟨ta0, tb0, tc0, xa0, xb0, x0, rfl, sa0, sb0, s0⟩ := Open.codeL (hval 0 57 v0 rfl rfl) h0
  have kk1 := h1
  have lt1 : ∀ x ∈ p1, x.block < W.heap.size := by obtain ⟨m, hm⟩ := kk1; exact DataW.trod_lt m _ _ _ hm
  obtain ⟨ma1, mb1, ya1, yb1, rfl, ra1, rb1⟩ := Open.memoryL (hval 1 58 v1 rfl rfl) h1
  clear hA0 hval0
  refine (walk ta0 tb0 tc0 xa0 xb0 x0 ma1 mb1 ya1 yb1 W sa0 sb0 s0 ra1 rb1).mono fun e W' ⟨he, bel⟩ => ?_
  subst he
  exact ⟨_, rfl, _, _, _, [], _, [], hW', trodAll_mk1 (shut_bool Try.underlying4 _), (trodAll_cons_mk (Below.trod laidOut (by kernel_rfl) (of_decide_eq_true (by kernel_rfl)) kk0 bel lt0) (trodAll_cons_mk (Below.trod laidOut (by kernel_rfl) (of_decide_eq_true (by kernel_rfl)) kk1 bel lt1) trodAll_mk0)), rfl, bel.frame _, fun h => by cases h⟩
theorem over : Rows.fnExactStartMachineRow.holds Try.pinned (OpenSpec.ofChange Rows.fnExactStartMachineSpec) :=
  OpenClaim.holds_of_wide 11 Try.f11 rfl rfl rfl rfl rfl rfl rfl ⟨rfl, rfl, rfl, rfl, rfl⟩ rfl rfl rfl rfl rfl (by kernel_rfl) Try.func11 (by kernel_rfl)
    (of_decide_eq_true (by kernel_rfl)) (by unfold Func.isWrapper; first | (rw [if_pos (by decide +kernel)]; kernel_rfl) | (rw [if_neg (by decide +kernel)]; exact ⟨rfl, rfl⟩))
    (fun os started H enc _ => lifted os started H enc)
theorem proved : Rows.FnExactStartMachineSaid := over
#print axioms proved
end Go.Proofs.Ytljokgoghphgdaa.fnExactStartMachine
