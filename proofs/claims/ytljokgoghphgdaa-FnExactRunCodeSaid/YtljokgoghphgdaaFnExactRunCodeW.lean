/- FnExactRunCode, the walk: for every input the law returns true, and the arguments read as they did. No conditions. -/
import Derived.Test.YtljokgoghphgdaaRows
import Derived.Test.YtljokgoghphgdaaMany
import Derived.Test.YtljokgoghphgdaaOpenT
import Derived.Test.YtljokgoghphgdaaToO
import Derived.Test.YtljokgoghphgdaaRec
import Derived.Test.YtljokgoghphgdaaTail
import Derived.Test.YtljokgoghphgdaaCodeF
import Derived.Test.YtljokgoghphgdaaMemF
import Derived.Test.YtljokgoghphgdaaRunM2
import Derived.Deep.RegionHeld3
import Derived.Deep.DeepCutAuto
import Derived.WalkKit
import Derived.ProofKit
import Derived.OpenShut
import Derived.ShutString
import Derived.ChangeOld
import Derived.Below
namespace Go.Proofs.Ytljokgoghphgdaa.fnExactRunCode
open Go.ChangeShapes Go.WideShapes Go.ChangeAt Go.RowKit Kit
open Go.ChangeMaps (open_string shut_string)
set_option linter.unusedVariables false
theorem own : ownKnob Try.prog.godebug = none := by kernel_rfl
theorem laidOut : laidOutB Try.prog = true := by kernel_rfl
theorem zb2 {w w' : World} {b : Nat} (h : b < w.heap.size) (e : w'.heap.size = w.heap.size) : b < w'.heap.size := by omega
theorem eqEv {w : World} {lo hi lo' hi' : Nat} {s t : Value} {xs : List Ev} (hs : EvsR w lo hi s xs) (ht : EvsR w lo' hi' t xs) (h1 : hi ≤ w.heap.size) (h2 : hi' ≤ w.heap.size) : Calls Try.prog 41 #[s, t] w fun e w' => e = .returned (.bool true) ∧ New w w' :=
  (LawF.eqEventS w lo hi lo' hi' s t xs xs hs ht h1 h2).mono fun e w' ⟨h, k⟩ => ⟨by rw [h]; simp, k⟩
theorem markEv {w : World} {lo hi : Nat} {v : Value} {xs : List Ev} (k : Int) (h : OwnR 2 encE w lo hi 41 v xs) (hk0 : 0 ≤ k) (hk1 : k ≤ 1099511627776) (hm : xs.length ≤ 1073741824) :
    Calls Try.prog 42 #[v, .int .i64 k] w fun e w' => e = .returned (.int .i64 (k + 2 * (xs.length : Int))) ∧ Kp (fun b => lo ≤ b ∧ b < hi) w w' ∧ OwnR 2 encE w' lo hi 41 v (marksE k xs.length) :=
  (LawF.markEventS w lo v xs k h.own hk0 hk1 hm).mono fun e w' ⟨h1, h2, h3⟩ => ⟨h1, h2.mono fun b _ hb => ⟨(h.own.lt b hb).1, h.top b hb⟩, ⟨h3, h.top⟩⟩
theorem heldEv {w : World} {lo hi : Nat} {v : Value} (m : Nat) (k : Int) (h : EvsR w lo hi v (marksE k m)) (hk0 : 0 ≤ k) (hk1 : k ≤ 1099511627776) (hm : m ≤ 1073741824) :
    Calls Try.prog 44 #[v, .int .i64 k] w fun e w' => e = .returned (.int .i64 (k + 2 * (m : Int))) ∧ New w w' := newSame ((LawF.heldEventS w lo hi v m k h hk0 hk1 hm).mono fun e w' ⟨h1, h2⟩ => ⟨h1, h2⟩)
set_option maxHeartbeats 16000000 in
set_option maxRecDepth 100000 in
theorem walk (ta0 : Value) (tb0 : Value) (tc0 : Value) (xa0 : List Int) (xb0 : List Int) (x0 : List Ins) (ma1 : Value) (mb1 : Value) (ya1 : List Int) (yb1 : List (List Int)) (w : World) (sa0 : IntsR w 0 w.heap.size ta0 xa0) (sb0 : IntsR w 0 w.heap.size tb0 xb0) (s0 : InssR w 0 w.heap.size tc0 x0) (ra1 : IntsR w 0 w.heap.size ma1 ya1) (rb1 : MatR w 0 w.heap.size mb1 yb1) :
    Calls Try.prog 12 #[.agg #[ta0, tb0, tc0], .agg #[ma1, mb1]] w fun e w' => e = .returned (.bool true) ∧ Below w.heap.size w w' := by
  obtain ⟨t, ht0⟩ : ∃ t, RunP.resT (RunC.runR xa0 xb0 x0 ya1 yb1) = t := ⟨_, rfl⟩
  obtain ⟨z, hz0⟩ : ∃ z, RunP.resZ (RunC.runR xa0 xb0 x0 ya1 yb1) = z := ⟨_, rfl⟩
  obtain ⟨zl, hl0⟩ : ∃ zl, RunP.resL (RunC.runR xa0 xb0 x0 ya1 yb1) = zl := ⟨_, rfl⟩
  obtain ⟨g2, g3, g4⟩ := RunC.bounds ht0 hz0 hl0
  have ht := Lib.hid ht0
  have hz := Lib.hid hz0
  have hl := Lib.hid hl0
  clear ht0 hz0 hl0
  by_cases q0 : (xa0.length + xb0.length + x0.length) ≤ 1048576
  · by_cases q1 : (xa0.length + xb0.length + x0.length) + (ya1.length + msz yb1) ≤ 1048576
    · go_enter Try.func12, Try.ntmps12
      go_wp2_with fail
      have hrow := Lib.hid (show ∀ x ∈ yb1, x.length ≤ 1099511627776 from fun x hx => by obtain ⟨i, h, rfl⟩ := List.getElem_of_mem hx; have := msz_get yb1 i h; omega)
      have hl1 := msz_len yb1
      have tm1 := tot_msz yb1
      have g5 := tot_msz z.a
      have N0 : New w ((w.alloc (.cells #[ta0, tb0, tc0] 57)).alloc (.cells #[ma1, mb1] 58)) := (((Kp.refl _ _).alloc _).alloc _)
      have bA0_0 : ((w.alloc (.cells #[ta0, tb0, tc0] 57)).alloc (.cells #[ma1, mb1] 58)).heap[w.heap.size]? = some (.cells #[ta0, tb0, tc0] 57) := heap_old (alloc_heap _ _)
      have bA1_0 : ((w.alloc (.cells #[ta0, tb0, tc0] 57)).alloc (.cells #[ma1, mb1] 58)).heap[w.heap.size + 1]? = some (.cells #[ma1, mb1] 58) := heap_at (by simp)
      have z0 : w.heap.size + 1 < ((w.alloc (.cells #[ta0, tb0, tc0] 57)).alloc (.cells #[ma1, mb1] 58)).heap.size := by simp
      generalize ((w.alloc (.cells #[ta0, tb0, tc0] 57)).alloc (.cells #[ma1, mb1] 58)) = w0 at *
      have bA0_0_c0 := cell_of_heap bA0_0 0
      have bA0_0_c1 := cell_of_heap bA0_0 1
      have bA0_0_c2 := cell_of_heap bA0_0 2
      have bA1_0_c0 := cell_of_heap bA1_0 0
      have bA1_0_c1 := cell_of_heap bA1_0 1
      refine (CodeF.szCode _ 0 w.heap.size _ _ _ _ _ _ (sa0.new (Nat.le_refl _) N0) (sb0.new (Nat.le_refl _) N0) (s0.new (Nat.le_refl _) N0) (1048576) (by omega) (by omega)).mono ?_
      rintro e w1 ⟨rfl, hn1⟩
      have z1 : w0.heap.size ≤ w1.heap.size := hn1.size
      have N1 : New w w1 := N0.trans hn1
      have bA0_1 := heap_new hn1 bA0_0
      have bA1_1 := heap_new hn1 bA1_0
      clear bA0_0_c0 bA0_0_c1 bA0_0_c2 bA1_0_c0 bA1_0_c1
      clear bA0_0 bA1_0 hn1
      rw [szOf_hi (by omega)]
      have bA0_1_c0 := cell_of_heap bA0_1 0
      have bA0_1_c1 := cell_of_heap bA0_1 1
      have bA0_1_c2 := cell_of_heap bA0_1 2
      have bA1_1_c0 := cell_of_heap bA1_1 0
      have bA1_1_c1 := cell_of_heap bA1_1 1
      go_wp2_with fail
      refine (MemF.szMemory _ 0 w.heap.size _ _ _ _ (ra1.new (Nat.le_refl _) N1) (rb1.new (Nat.le_refl _) N1) (1048576 - ((xa0.length + xb0.length + x0.length) : Nat)) (by omega) (by omega) (by omega)).mono ?_
      rintro e w2 ⟨rfl, hn2⟩
      have z2 : w1.heap.size ≤ w2.heap.size := hn2.size
      have N2 : New w w2 := N1.trans hn2
      have bA0_2 := heap_new hn2 bA0_1
      have bA1_2 := heap_new hn2 bA1_1
      clear bA0_1_c0 bA0_1_c1 bA0_1_c2 bA1_1_c0 bA1_1_c1
      clear bA0_1 bA1_1 hn2
      rw [szOf_hi (by omega)]
      have bA0_2_c0 := cell_of_heap bA0_2 0
      have bA0_2_c1 := cell_of_heap bA0_2 1
      have bA0_2_c2 := cell_of_heap bA0_2 2
      have bA1_2_c0 := cell_of_heap bA1_2 0
      have bA1_2_c1 := cell_of_heap bA1_2 1
      go_wp2_with fail
      go_cut [6, 7, 8] (fun p6 p7 p8 wx => ∃ b6 aWa dWa aWb dWb vWe, p6 = .pointer (some ⟨b6, 0, none⟩) ∧ vWe = p7 ∧ p8 = .bool t ∧ New w wx ∧ w2.heap.size ≤ wx.heap.size ∧ w.heap.size + 1 < b6 ∧ b6 < wx.heap.size ∧ wx.heap[b6]? = some (.cells #[.slice aWa z.v.length dWa, .slice aWb z.a.length dWb] 29) ∧ Rec.MemR wx w.heap.size wx.heap.size (.slice aWa z.v.length dWa) (.slice aWb z.a.length dWb) z.v z.a ∧ EvsR wx w.heap.size wx.heap.size vWe zl ∧ wx.heap[w.heap.size]? = some (.cells #[ta0, tb0, tc0] 57) ∧ wx.heap[w.heap.size + 1]? = some (.cells #[ma1, mb1] 58))
      case first =>
        have hn3 : New w2 w2.drew := (Kp.refl _ _).drew
        have z3 : w2.heap.size ≤ w2.drew.heap.size := hn3.size
        have N3 : New w w2.drew := N2.trans hn3
        have bA0_3 := heap_new hn3 bA0_2
        have bA1_3 := heap_new hn3 bA1_2
        clear bA0_2_c0 bA0_2_c1 bA0_2_c2 bA1_2_c0 bA1_2_c1
        clear bA0_2 bA1_2 hn3
        have bA0_3_c0 := cell_of_heap bA0_3 0
        have bA0_3_c1 := cell_of_heap bA0_3 1
        have bA0_3_c2 := cell_of_heap bA0_3 2
        have bA1_3_c0 := cell_of_heap bA1_3 0
        have bA1_3_c1 := cell_of_heap bA1_3 1
        refine wp_region_tail (k := 10) (S := fun w' => w'.cell? ⟨w.heap.size, 0, none⟩ = some (ta0) ∧ w'.cell? ⟨w.heap.size, 1, none⟩ = some (tb0) ∧ w'.cell? ⟨w.heap.size, 2, none⟩ = some (tc0) ∧ w'.cell? ⟨w.heap.size + 1, 0, none⟩ = some (ma1) ∧ w'.cell? ⟨w.heap.size + 1, 1, none⟩ = some (mb1)) (by kernel_rfl) ?_ (fun hHeld => ?_)
        · exact ⟨bA0_3_c0, bA0_3_c1, bA0_3_c2, bA1_3_c0, bA1_3_c1⟩
        refine AnyK.take (i := 0) (v := ?vq1) rfl (by kernel_rfl) (by kernel_rfl) (by kernel_rfl) (by kernel_rfl) (fun _ _ _ h => h) (Or.inl ⟨by kernel_rfl, ?yq1⟩) (by assumption) ?rq1
        case yq1 =>
          intro w hSw
          try dsimp only at hSw
          go_simp
          try with_reducible rfl
        try simp only [Act.put, List.getElem_toArray, List.getElem_cons_zero, List.setIfInBounds_toArray, List.set_cons_zero, List.set_cons_succ]
        refine AnyK.take (i := 2) (v := ?vq2) rfl (by kernel_rfl) (by kernel_rfl) (by kernel_rfl) (by kernel_rfl) (fun _ _ _ h => h) (Or.inl ⟨by kernel_rfl, ?yq2⟩) (by assumption) ?rq2
        case yq2 =>
          intro w hSw
          try dsimp only at hSw
          go_simp
          try with_reducible rfl
        try simp only [Act.put, List.getElem_toArray, List.getElem_cons_zero, List.getElem_cons_succ, List.setIfInBounds_toArray, List.set_cons_zero, List.set_cons_succ]
        refine AnyK.two (i := 1) (j := 9) (by kernel_rfl) rfl rfl (fun K hK => ?_) (fun K hK => ?_)
        · go_simp
          refine (ToO.toCode _ 0 w.heap.size _ _ _ _ _ _ (sa0.new (Nat.le_refl _) N3) (sb0.new (Nat.le_refl _) N3) (s0.new (Nat.le_refl _) N3) (by omega) (by omega) (by omega) (by omega)).mono ?_
          rintro e w4 ⟨vP0a, vP0b, vP0c, rfl, hn4, qP0⟩
          have z4 : w2.drew.heap.size ≤ w4.heap.size := hn4.size
          have N4 : New w w4 := N3.trans hn4
          have bA0_4 := heap_new hn4 bA0_3
          have bA1_4 := heap_new hn4 bA1_3
          clear bA0_3_c0 bA0_3_c1 bA0_3_c2 bA1_3_c0 bA1_3_c1
          clear bA0_3 bA1_3 hn4
          have oP0_4 := qP0
          clear qP0
          have bA0_4_c0 := cell_of_heap bA0_4 0
          have bA0_4_c1 := cell_of_heap bA0_4 1
          have bA0_4_c2 := cell_of_heap bA0_4 2
          have bA1_4_c0 := cell_of_heap bA1_4 0
          have bA1_4_c1 := cell_of_heap bA1_4 1
          refine hK.out _ _ ?_ (fun hHeld2 => ?_)
          · exact ⟨bA0_4_c0, bA0_4_c1, bA0_4_c2, bA1_4_c0, bA1_4_c1⟩
          clear hK K hHeld
          have hHeld := hHeld2
          clear hHeld2
          try simp only [Act.put, List.getElem_toArray, List.getElem_cons_zero, List.getElem_cons_succ, List.setIfInBounds_toArray, List.set_cons_zero, List.set_cons_succ]
          refine AnyK.two (i := 3) (j := 9) (by kernel_rfl) rfl rfl (fun K hK => ?_) (fun K hK => ?_)
          · go_simp
            refine (ToO.toMemory _ 0 w.heap.size _ _ _ _ (ra1.new (Nat.le_refl _) N4) (rb1.new (Nat.le_refl _) N4) (by omega) (by omega) (by omega)).mono ?_
            rintro e w5 ⟨vP1a, vP1b, rfl, hn5, qP1⟩
            have z5 : w4.heap.size ≤ w5.heap.size := hn5.size
            have N5 : New w w5 := N4.trans hn5
            have bA0_5 := heap_new hn5 bA0_4
            have bA1_5 := heap_new hn5 bA1_4
            have oP0_5 := oP0_4.new (by omega) hn5
            clear bA0_4_c0 bA0_4_c1 bA0_4_c2 bA1_4_c0 bA1_4_c1
            clear bA0_4 bA1_4 oP0_4 hn5
            have oP1_5 := qP1
            clear qP1
            have bA0_5_c0 := cell_of_heap bA0_5 0
            have bA0_5_c1 := cell_of_heap bA0_5 1
            have bA0_5_c2 := cell_of_heap bA0_5 2
            have bA1_5_c0 := cell_of_heap bA1_5 0
            have bA1_5_c1 := cell_of_heap bA1_5 1
            refine hK.out _ _ ?_ (fun hHeld2 => ?_)
            · exact ⟨bA0_5_c0, bA0_5_c1, bA0_5_c2, bA1_5_c0, bA1_5_c1⟩
            clear hK K hHeld
            have hHeld := hHeld2
            clear hHeld2
            try simp only [Act.put, List.getElem_toArray, List.getElem_cons_zero, List.getElem_cons_succ, List.setIfInBounds_toArray, List.set_cons_zero, List.set_cons_succ]
            refine AnyK.two (i := 4) (j := 9) (by kernel_rfl) rfl rfl (fun K hK => ?_) (fun K hK => ?_)
            · go_simp
              refine ((RunM2.specA _ _ _ _ _ _ _ _ _ _ xa0 xb0 ya1 x0 yb1 oP0_5.toR.1 oP0_5.toR.2.1 oP0_5.toR.2.2 (by omega) oP1_5.toR.1 oP1_5.toR.2 (by omega) (by omega) (by omega) hrow.out ht.out hz.out hl.out)).mono ?_
              rintro e w6 ⟨vWa, vWb, vWe, pW, qW, rW, sW, rfl, hn6, xW, yW, hW1, hW2, hW3, hW4, hW5⟩
              have z6 : w5.heap.size ≤ w6.heap.size := hn6.size
              have N6 : New w w6 := N5.trans hn6
              have bA0_6 := heap_new hn6 bA0_5
              have bA1_6 := heap_new hn6 bA1_5
              have oP0_6 := oP0_5.new (by omega) hn6
              have oP1_6 := oP1_5.new (by omega) hn6
              clear bA0_5_c0 bA0_5_c1 bA0_5_c2 bA1_5_c0 bA1_5_c1
              clear bA0_5 bA1_5 oP0_5 oP1_5 hn6
              have oW_6 := xW
              clear xW
              have oWe_6 := yW
              clear yW
              obtain ⟨⟨aWa, dWa, eWa⟩, aWb, dWb, eWb⟩ := oW_6.toR.lens
              subst eWa
              subst eWb
              have bA0_6_c0 := cell_of_heap bA0_6 0
              have bA0_6_c1 := cell_of_heap bA0_6 1
              have bA0_6_c2 := cell_of_heap bA0_6 2
              have bA1_6_c0 := cell_of_heap bA1_6 0
              have bA1_6_c1 := cell_of_heap bA1_6 1
              refine hK.out _ _ ?_ (fun hHeld2 => ?_)
              · exact ⟨bA0_6_c0, bA0_6_c1, bA0_6_c2, bA1_6_c0, bA1_6_c1⟩
              clear hK K hHeld
              have hHeld := hHeld2
              clear hHeld2
              try simp only [Act.put, List.getElem_toArray, List.getElem_cons_zero, List.getElem_cons_succ, List.setIfInBounds_toArray, List.set_cons_zero, List.set_cons_succ]
              refine AnyK.takeW (i := 5) (v := ?vq3) rfl (by kernel_rfl) (by kernel_rfl) (by kernel_rfl) (by kernel_rfl) (fun _ _ _ h => h) (Or.inl ⟨by kernel_rfl, ?yq3⟩) (by assumption) ?rq3
              case yq3 =>
                intro w hSw
                try dsimp only at hSw
                go_simp
                try with_reducible rfl
              try simp only [Act.put, List.getElem_toArray, List.getElem_cons_zero, List.getElem_cons_succ, List.setIfInBounds_toArray, List.set_cons_zero, List.set_cons_succ]
              refine AnyK.takeW (i := 6) (v := ?vq4) rfl (by kernel_rfl) (by kernel_rfl) (by kernel_rfl) (by kernel_rfl) (fun _ _ _ h => h) (Or.inl ⟨by kernel_rfl, ?yq4⟩) (by assumption) ?rq4
              case yq4 =>
                intro w hSw
                try dsimp only at hSw
                go_simp
                try with_reducible rfl
              try simp only [Act.put, List.getElem_toArray, List.getElem_cons_zero, List.getElem_cons_succ, List.setIfInBounds_toArray, List.set_cons_zero, List.set_cons_succ]
              refine AnyK.takeW (i := 7) (v := ?vq5) rfl (by kernel_rfl) (by kernel_rfl) (by kernel_rfl) (by kernel_rfl) (fun _ _ _ h => h) (Or.inl ⟨by kernel_rfl, ?yq5⟩) (by assumption) ?rq5
              case yq5 =>
                intro w hSw
                try dsimp only at hSw
                go_simp
                try with_reducible rfl
              try simp only [Act.put, List.getElem_toArray, List.getElem_cons_zero, List.getElem_cons_succ, List.setIfInBounds_toArray, List.set_cons_zero, List.set_cons_succ]
              refine AnyK.takeW (i := 8) (v := ?vq6) rfl (by kernel_rfl) (by kernel_rfl) (by kernel_rfl) (by kernel_rfl) (fun _ _ _ h => h) (Or.inl ⟨by kernel_rfl, ?yq6⟩) (by assumption) ?rq6
              case yq6 =>
                intro w hSw
                try dsimp only at hSw
                go_simp
                try with_reducible rfl
              try simp only [Act.put, List.getElem_toArray, List.getElem_cons_zero, List.getElem_cons_succ, List.setIfInBounds_toArray, List.set_cons_zero, List.set_cons_succ]
              refine AnyK.step (i := 9) (by kernel_rfl) rfl (fun K hK => ?_)
              go_simp
              have hn7 : New w6 (w6.alloc (.cells #[.slice none 0 0, .slice none 0 0] 29)) := (show New w6 (w6.alloc (.cells #[.slice none 0 0, .slice none 0 0] 29)) from (Kp.refl _ _).alloc _)
              have z7 : w6.heap.size < (w6.alloc (.cells #[.slice none 0 0, .slice none 0 0] 29)).heap.size := (show w6.heap.size < (w6.alloc (.cells #[.slice none 0 0, .slice none 0 0] 29)).heap.size from Rec.lt_alloc _ _)
              have N7 := N6.trans hn7
              have bA0_7 := heap_new hn7 bA0_6
              have bA1_7 := heap_new hn7 bA1_6
              have oP0_7 := oP0_6.new (by omega) hn7
              have oP1_7 := oP1_6.new (by omega) hn7
              have oW_7 := oW_6.new (by omega) hn7
              have oWe_7 := oWe_6.new (by omega) hn7
              have bZ_7 : (w6.alloc (.cells #[.slice none 0 0, .slice none 0 0] 29)).heap[w6.heap.size]? = some (.cells #[.slice none 0 0, .slice none 0 0] 29) := (show (w6.alloc (.cells #[.slice none 0 0, .slice none 0 0] 29)).heap[w6.heap.size]? = _ from alloc_heap _ _)
              clear bA0_6_c0 bA0_6_c1 bA0_6_c2 bA1_6_c0 bA1_6_c1
              clear bA0_6 bA1_6 oP0_6 oP1_6 oW_6 oWe_6 hn7
              generalize (w6.alloc (.cells #[.slice none 0 0, .slice none 0 0] 29)) = w7 at *
              have bA0_7_c0 := cell_of_heap bA0_7 0
              have bA0_7_c1 := cell_of_heap bA0_7 1
              have bA0_7_c2 := cell_of_heap bA0_7 2
              have bA1_7_c0 := cell_of_heap bA1_7 0
              have bA1_7_c1 := cell_of_heap bA1_7 1
              refine hK.out _ _ ?_ (fun hHeld2 => ?_)
              · exact ⟨bA0_7_c0, bA0_7_c1, bA0_7_c2, bA1_7_c0, bA1_7_c1⟩
              clear hK K hHeld
              have hHeld := hHeld2
              clear hHeld2
              try simp only [Act.put, List.getElem_toArray, List.getElem_cons_zero, List.getElem_cons_succ, List.setIfInBounds_toArray, List.set_cons_zero, List.set_cons_succ]
              refine AnyK.last (by kernel_rfl) ?_
              simp only [List.drop_succ_cons, List.drop_zero]
              clear hHeld
              have bZ_7_c0 := cell_of_heap bZ_7 0
              have bZ_7_c1 := cell_of_heap bZ_7 1
              have bZ_7_f := frozen_of_heap bZ_7
              go_wp2_with fail
              go_meet
              have hkz := setMany_kp (w6.heap.size) [.slice aWa z.v.length dWa, .slice aWb z.a.length dWb] w7 0
              have zs := setMany_size (w6.heap.size) [.slice aWa z.v.length dWa, .slice aWb z.a.length dWb] w7 0
              have hR := setMany_row [.slice aWa z.v.length dWa, .slice aWb z.a.length dWb] bZ_7 rfl
              have zb := heap_lt bZ_7
              have hMO := (oW_7.toR.kp hkz (by omega) (fun x e => by omega)).mono (lo' := w.heap.size) (hi' := (setMany w7 (w6.heap.size) 0 [.slice aWa z.v.length dWa, .slice aWb z.a.length dWb]).heap.size) (by omega) (by omega)
              have hEO := (oWe_7.reads.kp hkz (by omega) (fun x e => by omega)).mono (lo' := w.heap.size) (hi' := (setMany w7 (w6.heap.size) 0 [.slice aWa z.v.length dWa, .slice aWb z.a.length dWb]).heap.size) (by omega) (by omega)
              have hpz : w2.heap.size ≤ (setMany w7 (w6.heap.size) 0 [.slice aWa z.v.length dWa, .slice aWb z.a.length dWb]).heap.size := by omega
              exact ⟨w6.heap.size, _, _, _, _, _, rfl, rfl, rfl, New.one N7 hkz (by omega), hpz, by omega, zb2 zb zs, hR, hMO, hEO, setMany_other [.slice aWa z.v.length dWa, .slice aWb z.a.length dWb] 0 bA0_7 (by omega), setMany_other [.slice aWa z.v.length dWa, .slice aWb z.a.length dWb] 0 bA1_7 (by omega)⟩
            · go_simp
              have hn6 : New w5 (w5.alloc (.cells #[.slice none 0 0, .slice none 0 0] 29)) := (show New w5 (w5.alloc (.cells #[.slice none 0 0, .slice none 0 0] 29)) from (Kp.refl _ _).alloc _)
              have z6 : w5.heap.size < (w5.alloc (.cells #[.slice none 0 0, .slice none 0 0] 29)).heap.size := (show w5.heap.size < (w5.alloc (.cells #[.slice none 0 0, .slice none 0 0] 29)).heap.size from Rec.lt_alloc _ _)
              have N6 := N5.trans hn6
              have bA0_6 := heap_new hn6 bA0_5
              have bA1_6 := heap_new hn6 bA1_5
              have oP0_6 := oP0_5.new (by omega) hn6
              have oP1_6 := oP1_5.new (by omega) hn6
              have bZ_6 : (w5.alloc (.cells #[.slice none 0 0, .slice none 0 0] 29)).heap[w5.heap.size]? = some (.cells #[.slice none 0 0, .slice none 0 0] 29) := (show (w5.alloc (.cells #[.slice none 0 0, .slice none 0 0] 29)).heap[w5.heap.size]? = _ from alloc_heap _ _)
              clear bA0_5_c0 bA0_5_c1 bA0_5_c2 bA1_5_c0 bA1_5_c1
              clear bA0_5 bA1_5 oP0_5 oP1_5 hn6
              generalize (w5.alloc (.cells #[.slice none 0 0, .slice none 0 0] 29)) = w6 at *
              have bA0_6_c0 := cell_of_heap bA0_6 0
              have bA0_6_c1 := cell_of_heap bA0_6 1
              have bA0_6_c2 := cell_of_heap bA0_6 2
              have bA1_6_c0 := cell_of_heap bA1_6 0
              have bA1_6_c1 := cell_of_heap bA1_6 1
              refine hK.out _ _ ?_ (fun hHeld2 => ?_)
              · exact ⟨bA0_6_c0, bA0_6_c1, bA0_6_c2, bA1_6_c0, bA1_6_c1⟩
              clear hK K hHeld
              have hHeld := hHeld2
              clear hHeld2
              try simp only [Act.put, List.getElem_toArray, List.getElem_cons_zero, List.getElem_cons_succ, List.setIfInBounds_toArray, List.set_cons_zero, List.set_cons_succ]
              refine AnyK.step (i := 4) (by kernel_rfl) rfl (fun K hK => ?_)
              go_simp
              refine ((RunM2.specA _ _ _ _ _ _ _ _ _ _ xa0 xb0 ya1 x0 yb1 oP0_6.toR.1 oP0_6.toR.2.1 oP0_6.toR.2.2 (by omega) oP1_6.toR.1 oP1_6.toR.2 (by omega) (by omega) (by omega) hrow.out ht.out hz.out hl.out)).mono ?_
              rintro e w7 ⟨vWa, vWb, vWe, pW, qW, rW, sW, rfl, hn7, xW, yW, hW1, hW2, hW3, hW4, hW5⟩
              have z7 : w6.heap.size ≤ w7.heap.size := hn7.size
              have N7 : New w w7 := N6.trans hn7
              have bA0_7 := heap_new hn7 bA0_6
              have bA1_7 := heap_new hn7 bA1_6
              have bZ_7 := heap_new hn7 bZ_6
              have oP0_7 := oP0_6.new (by omega) hn7
              have oP1_7 := oP1_6.new (by omega) hn7
              clear bA0_6_c0 bA0_6_c1 bA0_6_c2 bA1_6_c0 bA1_6_c1
              clear bA0_6 bA1_6 bZ_6 oP0_6 oP1_6 hn7
              have oW_7 := xW
              clear xW
              have oWe_7 := yW
              clear yW
              obtain ⟨⟨aWa, dWa, eWa⟩, aWb, dWb, eWb⟩ := oW_7.toR.lens
              subst eWa
              subst eWb
              have bA0_7_c0 := cell_of_heap bA0_7 0
              have bA0_7_c1 := cell_of_heap bA0_7 1
              have bA0_7_c2 := cell_of_heap bA0_7 2
              have bA1_7_c0 := cell_of_heap bA1_7 0
              have bA1_7_c1 := cell_of_heap bA1_7 1
              refine hK.out _ _ ?_ (fun hHeld2 => ?_)
              · exact ⟨bA0_7_c0, bA0_7_c1, bA0_7_c2, bA1_7_c0, bA1_7_c1⟩
              clear hK K hHeld
              have hHeld := hHeld2
              clear hHeld2
              try simp only [Act.put, List.getElem_toArray, List.getElem_cons_zero, List.getElem_cons_succ, List.setIfInBounds_toArray, List.set_cons_zero, List.set_cons_succ]
              refine AnyK.takeW (i := 5) (v := ?vq7) rfl (by kernel_rfl) (by kernel_rfl) (by kernel_rfl) (by kernel_rfl) (fun _ _ _ h => h) (Or.inl ⟨by kernel_rfl, ?yq7⟩) (by assumption) ?rq7
              case yq7 =>
                intro w hSw
                try dsimp only at hSw
                go_simp
                try with_reducible rfl
              try simp only [Act.put, List.getElem_toArray, List.getElem_cons_zero, List.getElem_cons_succ, List.setIfInBounds_toArray, List.set_cons_zero, List.set_cons_succ]
              refine AnyK.takeW (i := 6) (v := ?vq8) rfl (by kernel_rfl) (by kernel_rfl) (by kernel_rfl) (by kernel_rfl) (fun _ _ _ h => h) (Or.inl ⟨by kernel_rfl, ?yq8⟩) (by assumption) ?rq8
              case yq8 =>
                intro w hSw
                try dsimp only at hSw
                go_simp
                try with_reducible rfl
              try simp only [Act.put, List.getElem_toArray, List.getElem_cons_zero, List.getElem_cons_succ, List.setIfInBounds_toArray, List.set_cons_zero, List.set_cons_succ]
              refine AnyK.takeW (i := 7) (v := ?vq9) rfl (by kernel_rfl) (by kernel_rfl) (by kernel_rfl) (by kernel_rfl) (fun _ _ _ h => h) (Or.inl ⟨by kernel_rfl, ?yq9⟩) (by assumption) ?rq9
              case yq9 =>
                intro w hSw
                try dsimp only at hSw
                go_simp
                try with_reducible rfl
              try simp only [Act.put, List.getElem_toArray, List.getElem_cons_zero, List.getElem_cons_succ, List.setIfInBounds_toArray, List.set_cons_zero, List.set_cons_succ]
              refine AnyK.takeW (i := 8) (v := ?vq10) rfl (by kernel_rfl) (by kernel_rfl) (by kernel_rfl) (by kernel_rfl) (fun _ _ _ h => h) (Or.inl ⟨by kernel_rfl, ?yq10⟩) (by assumption) ?rq10
              case yq10 =>
                intro w hSw
                try dsimp only at hSw
                go_simp
                try with_reducible rfl
              try simp only [Act.put, List.getElem_toArray, List.getElem_cons_zero, List.getElem_cons_succ, List.setIfInBounds_toArray, List.set_cons_zero, List.set_cons_succ]
              refine AnyK.last (by kernel_rfl) ?_
              simp only [List.drop_succ_cons, List.drop_zero]
              clear hHeld
              have bZ_7_c0 := cell_of_heap bZ_7 0
              have bZ_7_c1 := cell_of_heap bZ_7 1
              have bZ_7_f := frozen_of_heap bZ_7
              go_wp2_with fail
              go_meet
              have hkz := setMany_kp (w5.heap.size) [.slice aWa z.v.length dWa, .slice aWb z.a.length dWb] w7 0
              have zs := setMany_size (w5.heap.size) [.slice aWa z.v.length dWa, .slice aWb z.a.length dWb] w7 0
              have hR := setMany_row [.slice aWa z.v.length dWa, .slice aWb z.a.length dWb] bZ_7 rfl
              have zb := heap_lt bZ_7
              have hMO := (oW_7.toR.kp hkz (by omega) (fun x e => by omega)).mono (lo' := w.heap.size) (hi' := (setMany w7 (w5.heap.size) 0 [.slice aWa z.v.length dWa, .slice aWb z.a.length dWb]).heap.size) (by omega) (by omega)
              have hEO := (oWe_7.reads.kp hkz (by omega) (fun x e => by omega)).mono (lo' := w.heap.size) (hi' := (setMany w7 (w5.heap.size) 0 [.slice aWa z.v.length dWa, .slice aWb z.a.length dWb]).heap.size) (by omega) (by omega)
              have hpz : w2.heap.size ≤ (setMany w7 (w5.heap.size) 0 [.slice aWa z.v.length dWa, .slice aWb z.a.length dWb]).heap.size := by omega
              exact ⟨w5.heap.size, _, _, _, _, _, rfl, rfl, rfl, New.one N7 hkz (by omega), hpz, by omega, zb2 zb zs, hR, hMO, hEO, setMany_other [.slice aWa z.v.length dWa, .slice aWb z.a.length dWb] 0 bA0_7 (by omega), setMany_other [.slice aWa z.v.length dWa, .slice aWb z.a.length dWb] 0 bA1_7 (by omega)⟩
          · go_simp
            have hn5 : New w4 (w4.alloc (.cells #[.slice none 0 0, .slice none 0 0] 29)) := (show New w4 (w4.alloc (.cells #[.slice none 0 0, .slice none 0 0] 29)) from (Kp.refl _ _).alloc _)
            have z5 : w4.heap.size < (w4.alloc (.cells #[.slice none 0 0, .slice none 0 0] 29)).heap.size := (show w4.heap.size < (w4.alloc (.cells #[.slice none 0 0, .slice none 0 0] 29)).heap.size from Rec.lt_alloc _ _)
            have N5 := N4.trans hn5
            have bA0_5 := heap_new hn5 bA0_4
            have bA1_5 := heap_new hn5 bA1_4
            have oP0_5 := oP0_4.new (by omega) hn5
            have bZ_5 : (w4.alloc (.cells #[.slice none 0 0, .slice none 0 0] 29)).heap[w4.heap.size]? = some (.cells #[.slice none 0 0, .slice none 0 0] 29) := (show (w4.alloc (.cells #[.slice none 0 0, .slice none 0 0] 29)).heap[w4.heap.size]? = _ from alloc_heap _ _)
            clear bA0_4_c0 bA0_4_c1 bA0_4_c2 bA1_4_c0 bA1_4_c1
            clear bA0_4 bA1_4 oP0_4 hn5
            generalize (w4.alloc (.cells #[.slice none 0 0, .slice none 0 0] 29)) = w5 at *
            have bA0_5_c0 := cell_of_heap bA0_5 0
            have bA0_5_c1 := cell_of_heap bA0_5 1
            have bA0_5_c2 := cell_of_heap bA0_5 2
            have bA1_5_c0 := cell_of_heap bA1_5 0
            have bA1_5_c1 := cell_of_heap bA1_5 1
            refine hK.out _ _ ?_ (fun hHeld2 => ?_)
            · exact ⟨bA0_5_c0, bA0_5_c1, bA0_5_c2, bA1_5_c0, bA1_5_c1⟩
            clear hK K hHeld
            have hHeld := hHeld2
            clear hHeld2
            try simp only [Act.put, List.getElem_toArray, List.getElem_cons_zero, List.getElem_cons_succ, List.setIfInBounds_toArray, List.set_cons_zero, List.set_cons_succ]
            refine AnyK.step (i := 3) (by kernel_rfl) rfl (fun K hK => ?_)
            go_simp
            refine (ToO.toMemory _ 0 w.heap.size _ _ _ _ (ra1.new (Nat.le_refl _) N5) (rb1.new (Nat.le_refl _) N5) (by omega) (by omega) (by omega)).mono ?_
            rintro e w6 ⟨vP1a, vP1b, rfl, hn6, qP1⟩
            have z6 : w5.heap.size ≤ w6.heap.size := hn6.size
            have N6 : New w w6 := N5.trans hn6
            have bA0_6 := heap_new hn6 bA0_5
            have bA1_6 := heap_new hn6 bA1_5
            have bZ_6 := heap_new hn6 bZ_5
            have oP0_6 := oP0_5.new (by omega) hn6
            clear bA0_5_c0 bA0_5_c1 bA0_5_c2 bA1_5_c0 bA1_5_c1
            clear bA0_5 bA1_5 bZ_5 oP0_5 hn6
            have oP1_6 := qP1
            clear qP1
            have bA0_6_c0 := cell_of_heap bA0_6 0
            have bA0_6_c1 := cell_of_heap bA0_6 1
            have bA0_6_c2 := cell_of_heap bA0_6 2
            have bA1_6_c0 := cell_of_heap bA1_6 0
            have bA1_6_c1 := cell_of_heap bA1_6 1
            refine hK.out _ _ ?_ (fun hHeld2 => ?_)
            · exact ⟨bA0_6_c0, bA0_6_c1, bA0_6_c2, bA1_6_c0, bA1_6_c1⟩
            clear hK K hHeld
            have hHeld := hHeld2
            clear hHeld2
            try simp only [Act.put, List.getElem_toArray, List.getElem_cons_zero, List.getElem_cons_succ, List.setIfInBounds_toArray, List.set_cons_zero, List.set_cons_succ]
            refine AnyK.step (i := 4) (by kernel_rfl) rfl (fun K hK => ?_)
            go_simp
            refine ((RunM2.specA _ _ _ _ _ _ _ _ _ _ xa0 xb0 ya1 x0 yb1 oP0_6.toR.1 oP0_6.toR.2.1 oP0_6.toR.2.2 (by omega) oP1_6.toR.1 oP1_6.toR.2 (by omega) (by omega) (by omega) hrow.out ht.out hz.out hl.out)).mono ?_
            rintro e w7 ⟨vWa, vWb, vWe, pW, qW, rW, sW, rfl, hn7, xW, yW, hW1, hW2, hW3, hW4, hW5⟩
            have z7 : w6.heap.size ≤ w7.heap.size := hn7.size
            have N7 : New w w7 := N6.trans hn7
            have bA0_7 := heap_new hn7 bA0_6
            have bA1_7 := heap_new hn7 bA1_6
            have bZ_7 := heap_new hn7 bZ_6
            have oP0_7 := oP0_6.new (by omega) hn7
            have oP1_7 := oP1_6.new (by omega) hn7
            clear bA0_6_c0 bA0_6_c1 bA0_6_c2 bA1_6_c0 bA1_6_c1
            clear bA0_6 bA1_6 bZ_6 oP0_6 oP1_6 hn7
            have oW_7 := xW
            clear xW
            have oWe_7 := yW
            clear yW
            obtain ⟨⟨aWa, dWa, eWa⟩, aWb, dWb, eWb⟩ := oW_7.toR.lens
            subst eWa
            subst eWb
            have bA0_7_c0 := cell_of_heap bA0_7 0
            have bA0_7_c1 := cell_of_heap bA0_7 1
            have bA0_7_c2 := cell_of_heap bA0_7 2
            have bA1_7_c0 := cell_of_heap bA1_7 0
            have bA1_7_c1 := cell_of_heap bA1_7 1
            refine hK.out _ _ ?_ (fun hHeld2 => ?_)
            · exact ⟨bA0_7_c0, bA0_7_c1, bA0_7_c2, bA1_7_c0, bA1_7_c1⟩
            clear hK K hHeld
            have hHeld := hHeld2
            clear hHeld2
            try simp only [Act.put, List.getElem_toArray, List.getElem_cons_zero, List.getElem_cons_succ, List.setIfInBounds_toArray, List.set_cons_zero, List.set_cons_succ]
            refine AnyK.takeW (i := 5) (v := ?vq11) rfl (by kernel_rfl) (by kernel_rfl) (by kernel_rfl) (by kernel_rfl) (fun _ _ _ h => h) (Or.inl ⟨by kernel_rfl, ?yq11⟩) (by assumption) ?rq11
            case yq11 =>
              intro w hSw
              try dsimp only at hSw
              go_simp
              try with_reducible rfl
            try simp only [Act.put, List.getElem_toArray, List.getElem_cons_zero, List.getElem_cons_succ, List.setIfInBounds_toArray, List.set_cons_zero, List.set_cons_succ]
            refine AnyK.takeW (i := 6) (v := ?vq12) rfl (by kernel_rfl) (by kernel_rfl) (by kernel_rfl) (by kernel_rfl) (fun _ _ _ h => h) (Or.inl ⟨by kernel_rfl, ?yq12⟩) (by assumption) ?rq12
            case yq12 =>
              intro w hSw
              try dsimp only at hSw
              go_simp
              try with_reducible rfl
            try simp only [Act.put, List.getElem_toArray, List.getElem_cons_zero, List.getElem_cons_succ, List.setIfInBounds_toArray, List.set_cons_zero, List.set_cons_succ]
            refine AnyK.takeW (i := 7) (v := ?vq13) rfl (by kernel_rfl) (by kernel_rfl) (by kernel_rfl) (by kernel_rfl) (fun _ _ _ h => h) (Or.inl ⟨by kernel_rfl, ?yq13⟩) (by assumption) ?rq13
            case yq13 =>
              intro w hSw
              try dsimp only at hSw
              go_simp
              try with_reducible rfl
            try simp only [Act.put, List.getElem_toArray, List.getElem_cons_zero, List.getElem_cons_succ, List.setIfInBounds_toArray, List.set_cons_zero, List.set_cons_succ]
            refine AnyK.takeW (i := 8) (v := ?vq14) rfl (by kernel_rfl) (by kernel_rfl) (by kernel_rfl) (by kernel_rfl) (fun _ _ _ h => h) (Or.inl ⟨by kernel_rfl, ?yq14⟩) (by assumption) ?rq14
            case yq14 =>
              intro w hSw
              try dsimp only at hSw
              go_simp
              try with_reducible rfl
            try simp only [Act.put, List.getElem_toArray, List.getElem_cons_zero, List.getElem_cons_succ, List.setIfInBounds_toArray, List.set_cons_zero, List.set_cons_succ]
            refine AnyK.last (by kernel_rfl) ?_
            simp only [List.drop_succ_cons, List.drop_zero]
            clear hHeld
            have bZ_7_c0 := cell_of_heap bZ_7 0
            have bZ_7_c1 := cell_of_heap bZ_7 1
            have bZ_7_f := frozen_of_heap bZ_7
            go_wp2_with fail
            go_meet
            have hkz := setMany_kp (w4.heap.size) [.slice aWa z.v.length dWa, .slice aWb z.a.length dWb] w7 0
            have zs := setMany_size (w4.heap.size) [.slice aWa z.v.length dWa, .slice aWb z.a.length dWb] w7 0
            have hR := setMany_row [.slice aWa z.v.length dWa, .slice aWb z.a.length dWb] bZ_7 rfl
            have zb := heap_lt bZ_7
            have hMO := (oW_7.toR.kp hkz (by omega) (fun x e => by omega)).mono (lo' := w.heap.size) (hi' := (setMany w7 (w4.heap.size) 0 [.slice aWa z.v.length dWa, .slice aWb z.a.length dWb]).heap.size) (by omega) (by omega)
            have hEO := (oWe_7.reads.kp hkz (by omega) (fun x e => by omega)).mono (lo' := w.heap.size) (hi' := (setMany w7 (w4.heap.size) 0 [.slice aWa z.v.length dWa, .slice aWb z.a.length dWb]).heap.size) (by omega) (by omega)
            have hpz : w2.heap.size ≤ (setMany w7 (w4.heap.size) 0 [.slice aWa z.v.length dWa, .slice aWb z.a.length dWb]).heap.size := by omega
            exact ⟨w4.heap.size, _, _, _, _, _, rfl, rfl, rfl, New.one N7 hkz (by omega), hpz, by omega, zb2 zb zs, hR, hMO, hEO, setMany_other [.slice aWa z.v.length dWa, .slice aWb z.a.length dWb] 0 bA0_7 (by omega), setMany_other [.slice aWa z.v.length dWa, .slice aWb z.a.length dWb] 0 bA1_7 (by omega)⟩
        · go_simp
          have hn4 : New w2.drew (w2.alloc (.cells #[.slice none 0 0, .slice none 0 0] 29)).drew := (show New w2.drew (w2.drew.alloc (.cells #[.slice none 0 0, .slice none 0 0] 29)) from (Kp.refl _ _).alloc _)
          have z4 : w2.drew.heap.size < (w2.alloc (.cells #[.slice none 0 0, .slice none 0 0] 29)).drew.heap.size := (show w2.drew.heap.size < (w2.drew.alloc (.cells #[.slice none 0 0, .slice none 0 0] 29)).heap.size from Rec.lt_alloc _ _)
          have N4 := N3.trans hn4
          have bA0_4 := heap_new hn4 bA0_3
          have bA1_4 := heap_new hn4 bA1_3
          have bZ_4 : (w2.alloc (.cells #[.slice none 0 0, .slice none 0 0] 29)).drew.heap[w2.heap.size]? = some (.cells #[.slice none 0 0, .slice none 0 0] 29) := (show (w2.drew.alloc (.cells #[.slice none 0 0, .slice none 0 0] 29)).heap[w2.drew.heap.size]? = _ from alloc_heap _ _)
          clear bA0_3_c0 bA0_3_c1 bA0_3_c2 bA1_3_c0 bA1_3_c1
          clear bA0_3 bA1_3 hn4
          generalize (w2.alloc (.cells #[.slice none 0 0, .slice none 0 0] 29)).drew = w4 at *
          have bA0_4_c0 := cell_of_heap bA0_4 0
          have bA0_4_c1 := cell_of_heap bA0_4 1
          have bA0_4_c2 := cell_of_heap bA0_4 2
          have bA1_4_c0 := cell_of_heap bA1_4 0
          have bA1_4_c1 := cell_of_heap bA1_4 1
          refine hK.out _ _ ?_ (fun hHeld2 => ?_)
          · exact ⟨bA0_4_c0, bA0_4_c1, bA0_4_c2, bA1_4_c0, bA1_4_c1⟩
          clear hK K hHeld
          have hHeld := hHeld2
          clear hHeld2
          try simp only [Act.put, List.getElem_toArray, List.getElem_cons_zero, List.getElem_cons_succ, List.setIfInBounds_toArray, List.set_cons_zero, List.set_cons_succ]
          refine AnyK.step (i := 1) (by kernel_rfl) rfl (fun K hK => ?_)
          go_simp
          refine (ToO.toCode _ 0 w.heap.size _ _ _ _ _ _ (sa0.new (Nat.le_refl _) N4) (sb0.new (Nat.le_refl _) N4) (s0.new (Nat.le_refl _) N4) (by omega) (by omega) (by omega) (by omega)).mono ?_
          rintro e w5 ⟨vP0a, vP0b, vP0c, rfl, hn5, qP0⟩
          have z5 : w4.heap.size ≤ w5.heap.size := hn5.size
          have N5 : New w w5 := N4.trans hn5
          have bA0_5 := heap_new hn5 bA0_4
          have bA1_5 := heap_new hn5 bA1_4
          have bZ_5 := heap_new hn5 bZ_4
          clear bA0_4_c0 bA0_4_c1 bA0_4_c2 bA1_4_c0 bA1_4_c1
          clear bA0_4 bA1_4 bZ_4 hn5
          have oP0_5 := qP0
          clear qP0
          have bA0_5_c0 := cell_of_heap bA0_5 0
          have bA0_5_c1 := cell_of_heap bA0_5 1
          have bA0_5_c2 := cell_of_heap bA0_5 2
          have bA1_5_c0 := cell_of_heap bA1_5 0
          have bA1_5_c1 := cell_of_heap bA1_5 1
          refine hK.out _ _ ?_ (fun hHeld2 => ?_)
          · exact ⟨bA0_5_c0, bA0_5_c1, bA0_5_c2, bA1_5_c0, bA1_5_c1⟩
          clear hK K hHeld
          have hHeld := hHeld2
          clear hHeld2
          try simp only [Act.put, List.getElem_toArray, List.getElem_cons_zero, List.getElem_cons_succ, List.setIfInBounds_toArray, List.set_cons_zero, List.set_cons_succ]
          refine AnyK.step (i := 3) (by kernel_rfl) rfl (fun K hK => ?_)
          go_simp
          refine (ToO.toMemory _ 0 w.heap.size _ _ _ _ (ra1.new (Nat.le_refl _) N5) (rb1.new (Nat.le_refl _) N5) (by omega) (by omega) (by omega)).mono ?_
          rintro e w6 ⟨vP1a, vP1b, rfl, hn6, qP1⟩
          have z6 : w5.heap.size ≤ w6.heap.size := hn6.size
          have N6 : New w w6 := N5.trans hn6
          have bA0_6 := heap_new hn6 bA0_5
          have bA1_6 := heap_new hn6 bA1_5
          have bZ_6 := heap_new hn6 bZ_5
          have oP0_6 := oP0_5.new (by omega) hn6
          clear bA0_5_c0 bA0_5_c1 bA0_5_c2 bA1_5_c0 bA1_5_c1
          clear bA0_5 bA1_5 bZ_5 oP0_5 hn6
          have oP1_6 := qP1
          clear qP1
          have bA0_6_c0 := cell_of_heap bA0_6 0
          have bA0_6_c1 := cell_of_heap bA0_6 1
          have bA0_6_c2 := cell_of_heap bA0_6 2
          have bA1_6_c0 := cell_of_heap bA1_6 0
          have bA1_6_c1 := cell_of_heap bA1_6 1
          refine hK.out _ _ ?_ (fun hHeld2 => ?_)
          · exact ⟨bA0_6_c0, bA0_6_c1, bA0_6_c2, bA1_6_c0, bA1_6_c1⟩
          clear hK K hHeld
          have hHeld := hHeld2
          clear hHeld2
          try simp only [Act.put, List.getElem_toArray, List.getElem_cons_zero, List.getElem_cons_succ, List.setIfInBounds_toArray, List.set_cons_zero, List.set_cons_succ]
          refine AnyK.step (i := 4) (by kernel_rfl) rfl (fun K hK => ?_)
          go_simp
          refine ((RunM2.specA _ _ _ _ _ _ _ _ _ _ xa0 xb0 ya1 x0 yb1 oP0_6.toR.1 oP0_6.toR.2.1 oP0_6.toR.2.2 (by omega) oP1_6.toR.1 oP1_6.toR.2 (by omega) (by omega) (by omega) hrow.out ht.out hz.out hl.out)).mono ?_
          rintro e w7 ⟨vWa, vWb, vWe, pW, qW, rW, sW, rfl, hn7, xW, yW, hW1, hW2, hW3, hW4, hW5⟩
          have z7 : w6.heap.size ≤ w7.heap.size := hn7.size
          have N7 : New w w7 := N6.trans hn7
          have bA0_7 := heap_new hn7 bA0_6
          have bA1_7 := heap_new hn7 bA1_6
          have bZ_7 := heap_new hn7 bZ_6
          have oP0_7 := oP0_6.new (by omega) hn7
          have oP1_7 := oP1_6.new (by omega) hn7
          clear bA0_6_c0 bA0_6_c1 bA0_6_c2 bA1_6_c0 bA1_6_c1
          clear bA0_6 bA1_6 bZ_6 oP0_6 oP1_6 hn7
          have oW_7 := xW
          clear xW
          have oWe_7 := yW
          clear yW
          obtain ⟨⟨aWa, dWa, eWa⟩, aWb, dWb, eWb⟩ := oW_7.toR.lens
          subst eWa
          subst eWb
          have bA0_7_c0 := cell_of_heap bA0_7 0
          have bA0_7_c1 := cell_of_heap bA0_7 1
          have bA0_7_c2 := cell_of_heap bA0_7 2
          have bA1_7_c0 := cell_of_heap bA1_7 0
          have bA1_7_c1 := cell_of_heap bA1_7 1
          refine hK.out _ _ ?_ (fun hHeld2 => ?_)
          · exact ⟨bA0_7_c0, bA0_7_c1, bA0_7_c2, bA1_7_c0, bA1_7_c1⟩
          clear hK K hHeld
          have hHeld := hHeld2
          clear hHeld2
          try simp only [Act.put, List.getElem_toArray, List.getElem_cons_zero, List.getElem_cons_succ, List.setIfInBounds_toArray, List.set_cons_zero, List.set_cons_succ]
          refine AnyK.takeW (i := 5) (v := ?vq15) rfl (by kernel_rfl) (by kernel_rfl) (by kernel_rfl) (by kernel_rfl) (fun _ _ _ h => h) (Or.inl ⟨by kernel_rfl, ?yq15⟩) (by assumption) ?rq15
          case yq15 =>
            intro w hSw
            try dsimp only at hSw
            go_simp
            try with_reducible rfl
          try simp only [Act.put, List.getElem_toArray, List.getElem_cons_zero, List.getElem_cons_succ, List.setIfInBounds_toArray, List.set_cons_zero, List.set_cons_succ]
          refine AnyK.takeW (i := 6) (v := ?vq16) rfl (by kernel_rfl) (by kernel_rfl) (by kernel_rfl) (by kernel_rfl) (fun _ _ _ h => h) (Or.inl ⟨by kernel_rfl, ?yq16⟩) (by assumption) ?rq16
          case yq16 =>
            intro w hSw
            try dsimp only at hSw
            go_simp
            try with_reducible rfl
          try simp only [Act.put, List.getElem_toArray, List.getElem_cons_zero, List.getElem_cons_succ, List.setIfInBounds_toArray, List.set_cons_zero, List.set_cons_succ]
          refine AnyK.takeW (i := 7) (v := ?vq17) rfl (by kernel_rfl) (by kernel_rfl) (by kernel_rfl) (by kernel_rfl) (fun _ _ _ h => h) (Or.inl ⟨by kernel_rfl, ?yq17⟩) (by assumption) ?rq17
          case yq17 =>
            intro w hSw
            try dsimp only at hSw
            go_simp
            try with_reducible rfl
          try simp only [Act.put, List.getElem_toArray, List.getElem_cons_zero, List.getElem_cons_succ, List.setIfInBounds_toArray, List.set_cons_zero, List.set_cons_succ]
          refine AnyK.takeW (i := 8) (v := ?vq18) rfl (by kernel_rfl) (by kernel_rfl) (by kernel_rfl) (by kernel_rfl) (fun _ _ _ h => h) (Or.inl ⟨by kernel_rfl, ?yq18⟩) (by assumption) ?rq18
          case yq18 =>
            intro w hSw
            try dsimp only at hSw
            go_simp
            try with_reducible rfl
          try simp only [Act.put, List.getElem_toArray, List.getElem_cons_zero, List.getElem_cons_succ, List.setIfInBounds_toArray, List.set_cons_zero, List.set_cons_succ]
          refine AnyK.last (by kernel_rfl) ?_
          simp only [List.drop_succ_cons, List.drop_zero]
          clear hHeld
          have bZ_7_c0 := cell_of_heap bZ_7 0
          have bZ_7_c1 := cell_of_heap bZ_7 1
          have bZ_7_f := frozen_of_heap bZ_7
          go_wp2_with fail
          go_meet
          have hkz := setMany_kp (w2.heap.size) [.slice aWa z.v.length dWa, .slice aWb z.a.length dWb] w7 0
          have zs := setMany_size (w2.heap.size) [.slice aWa z.v.length dWa, .slice aWb z.a.length dWb] w7 0
          have hR := setMany_row [.slice aWa z.v.length dWa, .slice aWb z.a.length dWb] bZ_7 rfl
          have zb := heap_lt bZ_7
          have hMO := (oW_7.toR.kp hkz (by omega) (fun x e => by omega)).mono (lo' := w.heap.size) (hi' := (setMany w7 (w2.heap.size) 0 [.slice aWa z.v.length dWa, .slice aWb z.a.length dWb]).heap.size) (by omega) (by omega)
          have hEO := (oWe_7.reads.kp hkz (by omega) (fun x e => by omega)).mono (lo' := w.heap.size) (hi' := (setMany w7 (w2.heap.size) 0 [.slice aWa z.v.length dWa, .slice aWb z.a.length dWb]).heap.size) (by omega) (by omega)
          have hpz : w2.heap.size ≤ (setMany w7 (w2.heap.size) 0 [.slice aWa z.v.length dWa, .slice aWb z.a.length dWb]).heap.size := by omega
          exact ⟨w2.heap.size, _, _, _, _, _, rfl, rfl, rfl, New.one N7 hkz (by omega), hpz, by omega, zb2 zb zs, hR, hMO, hEO, setMany_other [.slice aWa z.v.length dWa, .slice aWb z.a.length dWb] 0 bA0_7 (by omega), setMany_other [.slice aWa z.v.length dWa, .slice aWb z.a.length dWb] 0 bA1_7 (by omega)⟩
      case rest =>
        clear bA0_2_c0 bA0_2_c1 bA0_2_c2 bA1_2_c0 bA1_2_c1
        clear bA0_2 bA1_2
        obtain ⟨bW, aWa, dWa, aWb, dWb, vWe, rfl, rfl, rfl, N22, hpW, hbW, zbW, bW_22, oW_22, oWe_22, bA0_22, bA1_22⟩ := hcut
        obtain ⟨wc8, hwc⟩ : ∃ x, x = wc := ⟨_, rfl⟩
        subst hwc
        have bA0_22_c0 := cell_of_heap bA0_22 0
        have bA0_22_c1 := cell_of_heap bA0_22 1
        have bA0_22_c2 := cell_of_heap bA0_22 2
        have bA1_22_c0 := cell_of_heap bA1_22 0
        have bA1_22_c1 := cell_of_heap bA1_22 1
        have bW_22_c0 := cell_of_heap bW_22 0
        have bW_22_c1 := cell_of_heap bW_22 1
        go_wp2_with fail
        refine (ToO.toCode _ 0 w.heap.size _ _ _ _ _ _ (sa0.new (Nat.le_refl _) N22) (sb0.new (Nat.le_refl _) N22) (s0.new (Nat.le_refl _) N22) (by omega) (by omega) (by omega) (by omega)).mono ?_
        rintro e w23 ⟨vX0a, vX0b, vX0c, rfl, hn23, qX0⟩
        have z23 : wc8.heap.size ≤ w23.heap.size := hn23.size
        have N23 : New w w23 := N22.trans hn23
        have bA0_23 := heap_new hn23 bA0_22
        have bA1_23 := heap_new hn23 bA1_22
        have bW_23 := heap_new hn23 bW_22
        have oW_23 := oW_22.new (by omega) hn23
        have oWe_23 := oWe_22.new (by omega) hn23
        clear bA0_22_c0 bA0_22_c1 bA0_22_c2 bA1_22_c0 bA1_22_c1 bW_22_c0 bW_22_c1
        clear bA0_22 bA1_22 bW_22 oW_22 oWe_22 hn23
        have oX0_23 := qX0
        clear qX0
        obtain ⟨⟨aX0a, dX0a, eX0a⟩, ⟨aX0b, dX0b, eX0b⟩, aX0c, dX0c, eX0c⟩ := oX0_23.toR.lens
        subst eX0a
        subst eX0b
        subst eX0c
        have hn24 : New w23 (w23.alloc (.cells #[.slice aX0a xa0.length dX0a, .slice aX0b xb0.length dX0b, .slice aX0c x0.length dX0c] 26)) := (Kp.refl _ _).alloc _
        have z24 : w23.heap.size < (w23.alloc (.cells #[.slice aX0a xa0.length dX0a, .slice aX0b xb0.length dX0b, .slice aX0c x0.length dX0c] 26)).heap.size := by simp
        have N24 : New w (w23.alloc (.cells #[.slice aX0a xa0.length dX0a, .slice aX0b xb0.length dX0b, .slice aX0c x0.length dX0c] 26)) := N23.trans hn24
        have bA0_24 := heap_new hn24 bA0_23
        have bA1_24 := heap_new hn24 bA1_23
        have bW_24 := heap_new hn24 bW_23
        have oW_24 := oW_23.new (by omega) hn24
        have oWe_24 := oWe_23.new (by omega) hn24
        have oX0_24 := oX0_23.new (by omega) hn24
        have bX0_24 : (w23.alloc (.cells #[.slice aX0a xa0.length dX0a, .slice aX0b xb0.length dX0b, .slice aX0c x0.length dX0c] 26)).heap[w23.heap.size]? = some (.cells #[.slice aX0a xa0.length dX0a, .slice aX0b xb0.length dX0b, .slice aX0c x0.length dX0c] 26) := alloc_heap _ _
        clear bA0_23 bA1_23 bW_23 oW_23 oWe_23 oX0_23 hn24
        have bA0_24_c0 := cell_of_heap bA0_24 0
        have bA0_24_c1 := cell_of_heap bA0_24 1
        have bA0_24_c2 := cell_of_heap bA0_24 2
        have bA1_24_c0 := cell_of_heap bA1_24 0
        have bA1_24_c1 := cell_of_heap bA1_24 1
        have bW_24_c0 := cell_of_heap bW_24 0
        have bW_24_c1 := cell_of_heap bW_24 1
        have bX0_24_c0 := cell_of_heap bX0_24 0
        have bX0_24_c1 := cell_of_heap bX0_24 1
        have bX0_24_c2 := cell_of_heap bX0_24 2
        go_wp2_with fail
        generalize (w23.alloc (.cells #[.slice aX0a xa0.length dX0a, .slice aX0b xb0.length dX0b, .slice aX0c x0.length dX0c] 26)) = w24 at *
        refine (ToO.toMemory _ 0 w.heap.size _ _ _ _ (ra1.new (Nat.le_refl _) N24) (rb1.new (Nat.le_refl _) N24) (by omega) (by omega) (by omega)).mono ?_
        rintro e w25 ⟨vX1a, vX1b, rfl, hn25, qX1⟩
        have z25 : w24.heap.size ≤ w25.heap.size := hn25.size
        have N25 : New w w25 := N24.trans hn25
        have bA0_25 := heap_new hn25 bA0_24
        have bA1_25 := heap_new hn25 bA1_24
        have bW_25 := heap_new hn25 bW_24
        have bX0_25 := heap_new hn25 bX0_24
        have oW_25 := oW_24.new (by omega) hn25
        have oWe_25 := oWe_24.new (by omega) hn25
        have oX0_25 := oX0_24.new (by omega) hn25
        clear bA0_24_c0 bA0_24_c1 bA0_24_c2 bA1_24_c0 bA1_24_c1 bW_24_c0 bW_24_c1 bX0_24_c0 bX0_24_c1 bX0_24_c2
        clear bA0_24 bA1_24 bW_24 bX0_24 oW_24 oWe_24 oX0_24 hn25
        have oX1_25 := qX1
        clear qX1
        obtain ⟨⟨aX1a, dX1a, eX1a⟩, aX1b, dX1b, eX1b⟩ := oX1_25.toR.lens
        subst eX1a
        subst eX1b
        have hn26 : New w25 (w25.alloc (.cells #[.slice aX1a ya1.length dX1a, .slice aX1b yb1.length dX1b] 29)) := (Kp.refl _ _).alloc _
        have z26 : w25.heap.size < (w25.alloc (.cells #[.slice aX1a ya1.length dX1a, .slice aX1b yb1.length dX1b] 29)).heap.size := by simp
        have N26 : New w (w25.alloc (.cells #[.slice aX1a ya1.length dX1a, .slice aX1b yb1.length dX1b] 29)) := N25.trans hn26
        have bA0_26 := heap_new hn26 bA0_25
        have bA1_26 := heap_new hn26 bA1_25
        have bW_26 := heap_new hn26 bW_25
        have bX0_26 := heap_new hn26 bX0_25
        have oW_26 := oW_25.new (by omega) hn26
        have oWe_26 := oWe_25.new (by omega) hn26
        have oX0_26 := oX0_25.new (by omega) hn26
        have oX1_26 := oX1_25.new (by omega) hn26
        have bX1_26 : (w25.alloc (.cells #[.slice aX1a ya1.length dX1a, .slice aX1b yb1.length dX1b] 29)).heap[w25.heap.size]? = some (.cells #[.slice aX1a ya1.length dX1a, .slice aX1b yb1.length dX1b] 29) := alloc_heap _ _
        clear bA0_25 bA1_25 bW_25 bX0_25 oW_25 oWe_25 oX0_25 oX1_25 hn26
        have bA0_26_c0 := cell_of_heap bA0_26 0
        have bA0_26_c1 := cell_of_heap bA0_26 1
        have bA0_26_c2 := cell_of_heap bA0_26 2
        have bA1_26_c0 := cell_of_heap bA1_26 0
        have bA1_26_c1 := cell_of_heap bA1_26 1
        have bW_26_c0 := cell_of_heap bW_26 0
        have bW_26_c1 := cell_of_heap bW_26 1
        have bX0_26_c0 := cell_of_heap bX0_26 0
        have bX0_26_c1 := cell_of_heap bX0_26 1
        have bX0_26_c2 := cell_of_heap bX0_26 2
        have bX1_26_c0 := cell_of_heap bX1_26 0
        have bX1_26_c1 := cell_of_heap bX1_26 1
        go_wp2_with fail
        generalize (w25.alloc (.cells #[.slice aX1a ya1.length dX1a, .slice aX1b yb1.length dX1b] 29)) = w26 at *
        refine ((RunM2.implA _ _ _ _ _ _ _ _ _ _ xa0 xb0 ya1 x0 yb1 oX0_26.toR.1 oX0_26.toR.2.1 oX0_26.toR.2.2 (by omega) oX1_26 (by omega) (by omega) (by omega) hrow.out ht.out hz.out hl.out)).mono ?_
        rintro e w27 ⟨vGa, vGb, vGe, pG, qG, rG, sG, rfl, hn27, xG, yG, hG1, hG2, hG3, hG4, hG5⟩
        have z27 : w26.heap.size ≤ w27.heap.size := hn27.size
        have N27 : New w w27 := N26.trans hn27
        have bA0_27 := heap_new hn27 bA0_26
        have bA1_27 := heap_new hn27 bA1_26
        have bW_27 := heap_new hn27 bW_26
        have bX0_27 := heap_new hn27 bX0_26
        have bX1_27 := heap_new hn27 bX1_26
        have oW_27 := oW_26.new (by omega) hn27
        have oWe_27 := oWe_26.new (by omega) hn27
        have oX0_27 := oX0_26.new (by omega) hn27
        have oX1_27 := oX1_26.new (by omega) hn27
        clear bA0_26_c0 bA0_26_c1 bA0_26_c2 bA1_26_c0 bA1_26_c1 bW_26_c0 bW_26_c1 bX0_26_c0 bX0_26_c1 bX0_26_c2 bX1_26_c0 bX1_26_c1
        clear bA0_26 bA1_26 bW_26 bX0_26 bX1_26 oW_26 oWe_26 oX0_26 oX1_26 hn27
        have oG_27 := xG
        clear xG
        have oGe_27 := yG
        clear yG
        obtain ⟨⟨aGa, dGa, eGa⟩, aGb, dGb, eGb⟩ := oG_27.toR.lens
        subst eGa
        subst eGb
        have hn28 : New w27 (w27.alloc (.cells #[.slice aGa z.v.length dGa, .slice aGb z.a.length dGb] 29)) := (Kp.refl _ _).alloc _
        have z28 : w27.heap.size < (w27.alloc (.cells #[.slice aGa z.v.length dGa, .slice aGb z.a.length dGb] 29)).heap.size := by simp
        have N28 : New w (w27.alloc (.cells #[.slice aGa z.v.length dGa, .slice aGb z.a.length dGb] 29)) := N27.trans hn28
        have bA0_28 := heap_new hn28 bA0_27
        have bA1_28 := heap_new hn28 bA1_27
        have bW_28 := heap_new hn28 bW_27
        have bX0_28 := heap_new hn28 bX0_27
        have bX1_28 := heap_new hn28 bX1_27
        have oW_28 := oW_27.new (by omega) hn28
        have oWe_28 := oWe_27.new (by omega) hn28
        have oX0_28 := oX0_27.new (by omega) hn28
        have oX1_28 := oX1_27.new (by omega) hn28
        have oG_28 := oG_27.new (by omega) hn28
        have oGe_28 := oGe_27.new (by omega) hn28
        have bG_28 : (w27.alloc (.cells #[.slice aGa z.v.length dGa, .slice aGb z.a.length dGb] 29)).heap[w27.heap.size]? = some (.cells #[.slice aGa z.v.length dGa, .slice aGb z.a.length dGb] 29) := alloc_heap _ _
        clear bA0_27 bA1_27 bW_27 bX0_27 bX1_27 oW_27 oWe_27 oX0_27 oX1_27 oG_27 oGe_27 hn28
        have bA0_28_c0 := cell_of_heap bA0_28 0
        have bA0_28_c1 := cell_of_heap bA0_28 1
        have bA0_28_c2 := cell_of_heap bA0_28 2
        have bA1_28_c0 := cell_of_heap bA1_28 0
        have bA1_28_c1 := cell_of_heap bA1_28 1
        have bW_28_c0 := cell_of_heap bW_28 0
        have bW_28_c1 := cell_of_heap bW_28 1
        have bX0_28_c0 := cell_of_heap bX0_28 0
        have bX0_28_c1 := cell_of_heap bX0_28 1
        have bX0_28_c2 := cell_of_heap bX0_28 2
        have bX1_28_c0 := cell_of_heap bX1_28 0
        have bX1_28_c1 := cell_of_heap bX1_28 1
        have bG_28_c0 := cell_of_heap bG_28 0
        have bG_28_c1 := cell_of_heap bG_28 1
        go_wp2_with fail
        generalize (w27.alloc (.cells #[.slice aGa z.v.length dGa, .slice aGb z.a.length dGb] 29)) = w28 at *
        refine (Rec.eqMemory oG_28.toR oW_28 (by omega) (by omega)).mono ?_
        rintro e w29 ⟨rfl, hn29⟩
        have z29 : w28.heap.size ≤ w29.heap.size := hn29.size
        have N29 : New w w29 := N28.trans hn29
        have bA0_29 := heap_new hn29 bA0_28
        have bA1_29 := heap_new hn29 bA1_28
        have bW_29 := heap_new hn29 bW_28
        have bX0_29 := heap_new hn29 bX0_28
        have bX1_29 := heap_new hn29 bX1_28
        have bG_29 := heap_new hn29 bG_28
        have oW_29 := oW_28.new (by omega) hn29
        have oWe_29 := oWe_28.new (by omega) hn29
        have oX0_29 := oX0_28.new (by omega) hn29
        have oX1_29 := oX1_28.new (by omega) hn29
        have oG_29 := oG_28.new (by omega) hn29
        have oGe_29 := oGe_28.new (by omega) hn29
        clear bA0_28_c0 bA0_28_c1 bA0_28_c2 bA1_28_c0 bA1_28_c1 bW_28_c0 bW_28_c1 bX0_28_c0 bX0_28_c1 bX0_28_c2 bX1_28_c0 bX1_28_c1 bG_28_c0 bG_28_c1
        clear bA0_28 bA1_28 bW_28 bX0_28 bX1_28 bG_28 oW_28 oWe_28 oX0_28 oX1_28 oG_28 oGe_28 hn29
        have bA0_29_c0 := cell_of_heap bA0_29 0
        have bA0_29_c1 := cell_of_heap bA0_29 1
        have bA0_29_c2 := cell_of_heap bA0_29 2
        have bA1_29_c0 := cell_of_heap bA1_29 0
        have bA1_29_c1 := cell_of_heap bA1_29 1
        have bW_29_c0 := cell_of_heap bW_29 0
        have bW_29_c1 := cell_of_heap bW_29 1
        have bX0_29_c0 := cell_of_heap bX0_29 0
        have bX0_29_c1 := cell_of_heap bX0_29 1
        have bX0_29_c2 := cell_of_heap bX0_29 2
        have bX1_29_c0 := cell_of_heap bX1_29 0
        have bX1_29_c1 := cell_of_heap bX1_29 1
        have bG_29_c0 := cell_of_heap bG_29 0
        have bG_29_c1 := cell_of_heap bG_29 1
        go_wp2_with fail
        refine (eqEv oGe_29.reads oWe_29 (by omega) (by omega)).mono ?_
        rintro e w30 ⟨rfl, hn30⟩
        have z30 : w29.heap.size ≤ w30.heap.size := hn30.size
        have N30 : New w w30 := N29.trans hn30
        have bA0_30 := heap_new hn30 bA0_29
        have bA1_30 := heap_new hn30 bA1_29
        have bW_30 := heap_new hn30 bW_29
        have bX0_30 := heap_new hn30 bX0_29
        have bX1_30 := heap_new hn30 bX1_29
        have bG_30 := heap_new hn30 bG_29
        have oW_30 := oW_29.new (by omega) hn30
        have oWe_30 := oWe_29.new (by omega) hn30
        have oX0_30 := oX0_29.new (by omega) hn30
        have oX1_30 := oX1_29.new (by omega) hn30
        have oG_30 := oG_29.new (by omega) hn30
        have oGe_30 := oGe_29.new (by omega) hn30
        clear bA0_29_c0 bA0_29_c1 bA0_29_c2 bA1_29_c0 bA1_29_c1 bW_29_c0 bW_29_c1 bX0_29_c0 bX0_29_c1 bX0_29_c2 bX1_29_c0 bX1_29_c1 bG_29_c0 bG_29_c1
        clear bA0_29 bA1_29 bW_29 bX0_29 bX1_29 bG_29 oW_29 oWe_29 oX0_29 oX1_29 oG_29 oGe_29 hn30
        have bA0_30_c0 := cell_of_heap bA0_30 0
        have bA0_30_c1 := cell_of_heap bA0_30 1
        have bA0_30_c2 := cell_of_heap bA0_30 2
        have bA1_30_c0 := cell_of_heap bA1_30 0
        have bA1_30_c1 := cell_of_heap bA1_30 1
        have bW_30_c0 := cell_of_heap bW_30 0
        have bW_30_c1 := cell_of_heap bW_30 1
        have bX0_30_c0 := cell_of_heap bX0_30 0
        have bX0_30_c1 := cell_of_heap bX0_30 1
        have bX0_30_c2 := cell_of_heap bX0_30 2
        have bX1_30_c0 := cell_of_heap bX1_30 0
        have bX1_30_c1 := cell_of_heap bX1_30 1
        have bG_30_c0 := cell_of_heap bG_30 0
        have bG_30_c1 := cell_of_heap bG_30 1
        go_wp2_with fail
        have hn31 : New w30 w30.drew := (Kp.refl _ _).drew
        have z31 : w30.heap.size ≤ w30.drew.heap.size := hn31.size
        have N31 : New w w30.drew := N30.trans hn31
        have bA0_31 := heap_new hn31 bA0_30
        have bA1_31 := heap_new hn31 bA1_30
        have bW_31 := heap_new hn31 bW_30
        have bX0_31 := heap_new hn31 bX0_30
        have bX1_31 := heap_new hn31 bX1_30
        have bG_31 := heap_new hn31 bG_30
        have oW_31 := oW_30.new (by omega) hn31
        have oWe_31 := oWe_30.new (by omega) hn31
        have oX0_31 := oX0_30.new (by omega) hn31
        have oX1_31 := oX1_30.new (by omega) hn31
        have oG_31 := oG_30.new (by omega) hn31
        have oGe_31 := oGe_30.new (by omega) hn31
        clear bA0_30_c0 bA0_30_c1 bA0_30_c2 bA1_30_c0 bA1_30_c1 bW_30_c0 bW_30_c1 bX0_30_c0 bX0_30_c1 bX0_30_c2 bX1_30_c0 bX1_30_c1 bG_30_c0 bG_30_c1
        clear bA0_30 bA1_30 bW_30 bX0_30 bX1_30 bG_30 oW_30 oWe_30 oX0_30 oX1_30 oG_30 oGe_30 hn31
        have bA0_31_c0 := cell_of_heap bA0_31 0
        have bA0_31_c1 := cell_of_heap bA0_31 1
        have bA0_31_c2 := cell_of_heap bA0_31 2
        have bA1_31_c0 := cell_of_heap bA1_31 0
        have bA1_31_c1 := cell_of_heap bA1_31 1
        have bW_31_c0 := cell_of_heap bW_31 0
        have bW_31_c1 := cell_of_heap bW_31 1
        have bX0_31_c0 := cell_of_heap bX0_31 0
        have bX0_31_c1 := cell_of_heap bX0_31 1
        have bX0_31_c2 := cell_of_heap bX0_31 2
        have bX1_31_c0 := cell_of_heap bX1_31 0
        have bX1_31_c1 := cell_of_heap bX1_31 1
        have bG_31_c0 := cell_of_heap bG_31 0
        have bG_31_c1 := cell_of_heap bG_31 1
        set_option maxRecDepth 100000 in
        go_region_held3 (fun w' => w'.cell? ⟨w.heap.size, 0, none⟩ = some (ta0) ∧ w'.cell? ⟨w.heap.size, 1, none⟩ = some (tb0) ∧ w'.cell? ⟨w.heap.size, 2, none⟩ = some (tc0) ∧ w'.cell? ⟨w23.heap.size, 0, none⟩ = some (.slice aX0a xa0.length dX0a) ∧ w'.cell? ⟨w23.heap.size, 1, none⟩ = some (.slice aX0b xb0.length dX0b) ∧ w'.cell? ⟨w23.heap.size, 2, none⟩ = some (.slice aX0c x0.length dX0c)) (first | (refine ⟨?_, ?_, ?_, ?_, ?_, ?_⟩ <;> assumption) | go_keep)
          (first
            | (go_at_call 35; refine (Rec.eqCode oX0_32.toR oC0_32.toR (by omega) (by omega)).mono ?_; rintro e w33 ⟨rfl, hn33⟩; have z33 : w32.heap.size ≤ w33.heap.size := hn33.size; have N33 : New w w33 := N32.trans hn33; have bA0_33 := heap_new hn33 bA0_32; have bA1_33 := heap_new hn33 bA1_32; have bW_33 := heap_new hn33 bW_32; have bX0_33 := heap_new hn33 bX0_32; have bX1_33 := heap_new hn33 bX1_32; have bG_33 := heap_new hn33 bG_32; have oW_33 := oW_32.new (by omega) hn33; have oWe_33 := oWe_32.new (by omega) hn33; have oX0_33 := oX0_32.new (by omega) hn33; have oX1_33 := oX1_32.new (by omega) hn33; have oG_33 := oG_32.new (by omega) hn33; have oGe_33 := oGe_32.new (by omega) hn33; have oC0_33 := oC0_32.new (by omega) hn33; clear bA0_32_c0 bA0_32_c1 bA0_32_c2 bA1_32_c0 bA1_32_c1 bW_32_c0 bW_32_c1 bX0_32_c0 bX0_32_c1 bX0_32_c2 bX1_32_c0 bX1_32_c1 bG_32_c0 bG_32_c1; clear bA0_32 bA1_32 bW_32 bX0_32 bX1_32 bG_32 oW_32 oWe_32 oX0_32 oX1_32 oG_32 oGe_32 oC0_32 hn33; have bA0_33_c0 := cell_of_heap bA0_33 0; have bA0_33_c1 := cell_of_heap bA0_33 1; have bA0_33_c2 := cell_of_heap bA0_33 2; have bA1_33_c0 := cell_of_heap bA1_33 0; have bA1_33_c1 := cell_of_heap bA1_33 1; have bW_33_c0 := cell_of_heap bW_33 0; have bW_33_c1 := cell_of_heap bW_33 1; have bX0_33_c0 := cell_of_heap bX0_33 0; have bX0_33_c1 := cell_of_heap bX0_33 1; have bX0_33_c2 := cell_of_heap bX0_33 2; have bX1_33_c0 := cell_of_heap bX1_33 0; have bX1_33_c1 := cell_of_heap bX1_33 1; have bG_33_c0 := cell_of_heap bG_33 0; have bG_33_c1 := cell_of_heap bG_33 1)
            | (go_at_call 32; refine (ToO.toCode _ 0 w.heap.size _ _ _ _ _ _ (sa0.new (Nat.le_refl _) N31) (sb0.new (Nat.le_refl _) N31) (s0.new (Nat.le_refl _) N31) (by omega) (by omega) (by omega) (by omega)).mono ?_; rintro e w32 ⟨vC0a, vC0b, vC0c, rfl, hn32, qC0⟩; have z32 : w30.drew.heap.size ≤ w32.heap.size := hn32.size; have N32 : New w w32 := N31.trans hn32; have bA0_32 := heap_new hn32 bA0_31; have bA1_32 := heap_new hn32 bA1_31; have bW_32 := heap_new hn32 bW_31; have bX0_32 := heap_new hn32 bX0_31; have bX1_32 := heap_new hn32 bX1_31; have bG_32 := heap_new hn32 bG_31; have oW_32 := oW_31.new (by omega) hn32; have oWe_32 := oWe_31.new (by omega) hn32; have oX0_32 := oX0_31.new (by omega) hn32; have oX1_32 := oX1_31.new (by omega) hn32; have oG_32 := oG_31.new (by omega) hn32; have oGe_32 := oGe_31.new (by omega) hn32; clear bA0_31_c0 bA0_31_c1 bA0_31_c2 bA1_31_c0 bA1_31_c1 bW_31_c0 bW_31_c1 bX0_31_c0 bX0_31_c1 bX0_31_c2 bX1_31_c0 bX1_31_c1 bG_31_c0 bG_31_c1; clear bA0_31 bA1_31 bW_31 bX0_31 bX1_31 bG_31 oW_31 oWe_31 oX0_31 oX1_31 oG_31 oGe_31 hn32; have oC0_32 := qC0; clear qC0; have bA0_32_c0 := cell_of_heap bA0_32 0; have bA0_32_c1 := cell_of_heap bA0_32 1; have bA0_32_c2 := cell_of_heap bA0_32 2; have bA1_32_c0 := cell_of_heap bA1_32 0; have bA1_32_c1 := cell_of_heap bA1_32 1; have bW_32_c0 := cell_of_heap bW_32 0; have bW_32_c1 := cell_of_heap bW_32 1; have bX0_32_c0 := cell_of_heap bX0_32 0; have bX0_32_c1 := cell_of_heap bX0_32 1; have bX0_32_c2 := cell_of_heap bX0_32 2; have bX1_32_c0 := cell_of_heap bX1_32 0; have bX1_32_c1 := cell_of_heap bX1_32 1; have bG_32_c0 := cell_of_heap bG_32 0; have bG_32_c1 := cell_of_heap bG_32 1))
        clear oC0_33
        clear bA0_33_c0 bA0_33_c1 bA0_33_c2 bA1_33_c0 bA1_33_c1 bW_33_c0 bW_33_c1 bX0_33_c0 bX0_33_c1 bX0_33_c2 bX1_33_c0 bX1_33_c1 bG_33_c0 bG_33_c1
        have bA0_33_c0 := cell_of_heap bA0_33 0
        have bA0_33_c1 := cell_of_heap bA0_33 1
        have bA0_33_c2 := cell_of_heap bA0_33 2
        have bA1_33_c0 := cell_of_heap bA1_33 0
        have bA1_33_c1 := cell_of_heap bA1_33 1
        have bW_33_c0 := cell_of_heap bW_33 0
        have bW_33_c1 := cell_of_heap bW_33 1
        have bX0_33_c0 := cell_of_heap bX0_33 0
        have bX0_33_c1 := cell_of_heap bX0_33 1
        have bX0_33_c2 := cell_of_heap bX0_33 2
        have bX1_33_c0 := cell_of_heap bX1_33 0
        have bX1_33_c1 := cell_of_heap bX1_33 1
        have bG_33_c0 := cell_of_heap bG_33 0
        have bG_33_c1 := cell_of_heap bG_33 1
        go_wp2_with fail
        have hn34 : New w33 w33.drew := (Kp.refl _ _).drew
        have z34 : w33.heap.size ≤ w33.drew.heap.size := hn34.size
        have N34 : New w w33.drew := N33.trans hn34
        have bA0_34 := heap_new hn34 bA0_33
        have bA1_34 := heap_new hn34 bA1_33
        have bW_34 := heap_new hn34 bW_33
        have bX0_34 := heap_new hn34 bX0_33
        have bX1_34 := heap_new hn34 bX1_33
        have bG_34 := heap_new hn34 bG_33
        have oW_34 := oW_33.new (by omega) hn34
        have oWe_34 := oWe_33.new (by omega) hn34
        have oX0_34 := oX0_33.new (by omega) hn34
        have oX1_34 := oX1_33.new (by omega) hn34
        have oG_34 := oG_33.new (by omega) hn34
        have oGe_34 := oGe_33.new (by omega) hn34
        clear bA0_33_c0 bA0_33_c1 bA0_33_c2 bA1_33_c0 bA1_33_c1 bW_33_c0 bW_33_c1 bX0_33_c0 bX0_33_c1 bX0_33_c2 bX1_33_c0 bX1_33_c1 bG_33_c0 bG_33_c1
        clear bA0_33 bA1_33 bW_33 bX0_33 bX1_33 bG_33 oW_33 oWe_33 oX0_33 oX1_33 oG_33 oGe_33 hn34
        have bA0_34_c0 := cell_of_heap bA0_34 0
        have bA0_34_c1 := cell_of_heap bA0_34 1
        have bA0_34_c2 := cell_of_heap bA0_34 2
        have bA1_34_c0 := cell_of_heap bA1_34 0
        have bA1_34_c1 := cell_of_heap bA1_34 1
        have bW_34_c0 := cell_of_heap bW_34 0
        have bW_34_c1 := cell_of_heap bW_34 1
        have bX0_34_c0 := cell_of_heap bX0_34 0
        have bX0_34_c1 := cell_of_heap bX0_34 1
        have bX0_34_c2 := cell_of_heap bX0_34 2
        have bX1_34_c0 := cell_of_heap bX1_34 0
        have bX1_34_c1 := cell_of_heap bX1_34 1
        have bG_34_c0 := cell_of_heap bG_34 0
        have bG_34_c1 := cell_of_heap bG_34 1
        set_option maxRecDepth 100000 in
        go_region_held3 (fun w' => w'.cell? ⟨w.heap.size + 1, 0, none⟩ = some (ma1) ∧ w'.cell? ⟨w.heap.size + 1, 1, none⟩ = some (mb1) ∧ w'.cell? ⟨w25.heap.size, 0, none⟩ = some (.slice aX1a ya1.length dX1a) ∧ w'.cell? ⟨w25.heap.size, 1, none⟩ = some (.slice aX1b yb1.length dX1b)) (first | (refine ⟨?_, ?_, ?_, ?_⟩ <;> assumption) | go_keep)
          (first
            | (go_at_call 36; refine (Rec.eqMemory oX1_35.toR oC1_35.toR (by omega) (by omega)).mono ?_; rintro e w36 ⟨rfl, hn36⟩; have z36 : w35.heap.size ≤ w36.heap.size := hn36.size; have N36 : New w w36 := N35.trans hn36; have bA0_36 := heap_new hn36 bA0_35; have bA1_36 := heap_new hn36 bA1_35; have bW_36 := heap_new hn36 bW_35; have bX0_36 := heap_new hn36 bX0_35; have bX1_36 := heap_new hn36 bX1_35; have bG_36 := heap_new hn36 bG_35; have oW_36 := oW_35.new (by omega) hn36; have oWe_36 := oWe_35.new (by omega) hn36; have oX0_36 := oX0_35.new (by omega) hn36; have oX1_36 := oX1_35.new (by omega) hn36; have oG_36 := oG_35.new (by omega) hn36; have oGe_36 := oGe_35.new (by omega) hn36; have oC1_36 := oC1_35.new (by omega) hn36; clear bA0_35_c0 bA0_35_c1 bA0_35_c2 bA1_35_c0 bA1_35_c1 bW_35_c0 bW_35_c1 bX0_35_c0 bX0_35_c1 bX0_35_c2 bX1_35_c0 bX1_35_c1 bG_35_c0 bG_35_c1; clear bA0_35 bA1_35 bW_35 bX0_35 bX1_35 bG_35 oW_35 oWe_35 oX0_35 oX1_35 oG_35 oGe_35 oC1_35 hn36; have bA0_36_c0 := cell_of_heap bA0_36 0; have bA0_36_c1 := cell_of_heap bA0_36 1; have bA0_36_c2 := cell_of_heap bA0_36 2; have bA1_36_c0 := cell_of_heap bA1_36 0; have bA1_36_c1 := cell_of_heap bA1_36 1; have bW_36_c0 := cell_of_heap bW_36 0; have bW_36_c1 := cell_of_heap bW_36 1; have bX0_36_c0 := cell_of_heap bX0_36 0; have bX0_36_c1 := cell_of_heap bX0_36 1; have bX0_36_c2 := cell_of_heap bX0_36 2; have bX1_36_c0 := cell_of_heap bX1_36 0; have bX1_36_c1 := cell_of_heap bX1_36 1; have bG_36_c0 := cell_of_heap bG_36 0; have bG_36_c1 := cell_of_heap bG_36 1)
            | (go_at_call 33; refine (ToO.toMemory _ 0 w.heap.size _ _ _ _ (ra1.new (Nat.le_refl _) N34) (rb1.new (Nat.le_refl _) N34) (by omega) (by omega) (by omega)).mono ?_; rintro e w35 ⟨vC1a, vC1b, rfl, hn35, qC1⟩; have z35 : w33.drew.heap.size ≤ w35.heap.size := hn35.size; have N35 : New w w35 := N34.trans hn35; have bA0_35 := heap_new hn35 bA0_34; have bA1_35 := heap_new hn35 bA1_34; have bW_35 := heap_new hn35 bW_34; have bX0_35 := heap_new hn35 bX0_34; have bX1_35 := heap_new hn35 bX1_34; have bG_35 := heap_new hn35 bG_34; have oW_35 := oW_34.new (by omega) hn35; have oWe_35 := oWe_34.new (by omega) hn35; have oX0_35 := oX0_34.new (by omega) hn35; have oX1_35 := oX1_34.new (by omega) hn35; have oG_35 := oG_34.new (by omega) hn35; have oGe_35 := oGe_34.new (by omega) hn35; clear bA0_34_c0 bA0_34_c1 bA0_34_c2 bA1_34_c0 bA1_34_c1 bW_34_c0 bW_34_c1 bX0_34_c0 bX0_34_c1 bX0_34_c2 bX1_34_c0 bX1_34_c1 bG_34_c0 bG_34_c1; clear bA0_34 bA1_34 bW_34 bX0_34 bX1_34 bG_34 oW_34 oWe_34 oX0_34 oX1_34 oG_34 oGe_34 hn35; have oC1_35 := qC1; clear qC1; have bA0_35_c0 := cell_of_heap bA0_35 0; have bA0_35_c1 := cell_of_heap bA0_35 1; have bA0_35_c2 := cell_of_heap bA0_35 2; have bA1_35_c0 := cell_of_heap bA1_35 0; have bA1_35_c1 := cell_of_heap bA1_35 1; have bW_35_c0 := cell_of_heap bW_35 0; have bW_35_c1 := cell_of_heap bW_35 1; have bX0_35_c0 := cell_of_heap bX0_35 0; have bX0_35_c1 := cell_of_heap bX0_35 1; have bX0_35_c2 := cell_of_heap bX0_35 2; have bX1_35_c0 := cell_of_heap bX1_35 0; have bX1_35_c1 := cell_of_heap bX1_35 1; have bG_35_c0 := cell_of_heap bG_35 0; have bG_35_c1 := cell_of_heap bG_35 1))
        clear oC1_36
        clear bA0_36_c0 bA0_36_c1 bA0_36_c2 bA1_36_c0 bA1_36_c1 bW_36_c0 bW_36_c1 bX0_36_c0 bX0_36_c1 bX0_36_c2 bX1_36_c0 bX1_36_c1 bG_36_c0 bG_36_c1
        have bA0_36_c0 := cell_of_heap bA0_36 0
        have bA0_36_c1 := cell_of_heap bA0_36 1
        have bA0_36_c2 := cell_of_heap bA0_36 2
        have bA1_36_c0 := cell_of_heap bA1_36 0
        have bA1_36_c1 := cell_of_heap bA1_36 1
        have bW_36_c0 := cell_of_heap bW_36 0
        have bW_36_c1 := cell_of_heap bW_36 1
        have bX0_36_c0 := cell_of_heap bX0_36 0
        have bX0_36_c1 := cell_of_heap bX0_36 1
        have bX0_36_c2 := cell_of_heap bX0_36 2
        have bX1_36_c0 := cell_of_heap bX1_36 0
        have bX1_36_c1 := cell_of_heap bX1_36 1
        have bG_36_c0 := cell_of_heap bG_36 0
        have bG_36_c1 := cell_of_heap bG_36 1
        go_wp2_with fail
        refine (MarkC.markCode _ _ _ _ _ _ _ _ _ 1 oX0_36 (by omega) (by omega) (by omega) (by omega) (by omega) (by omega)).mono ?_
        rintro e w37 ⟨rfl, hk37⟩
        have z37 : w36.heap.size ≤ w37.heap.size := hk37.size
        have N37 : New w w37 := New.on N36 hk37 (fun i hi => by omega)
        have bA0_37 := (hk37.block _ (by omega) (fun e => by omega)).trans bA0_36
        have bA1_37 := (hk37.block _ (by omega) (fun e => by omega)).trans bA1_36
        have bW_37 := (hk37.block _ (by omega) (fun e => by omega)).trans bW_36
        have bX0_37 := (hk37.block _ (by omega) (fun e => by omega)).trans bX0_36
        have bX1_37 := (hk37.block _ (by omega) (fun e => by omega)).trans bX1_36
        have bG_37 := (hk37.block _ (by omega) (fun e => by omega)).trans bG_36
        have oW_37 := oW_36.kp hk37 (by omega) (fun b e => by omega)
        have oWe_37 := oWe_36.kp hk37 (by omega) (fun b e => by omega)
        have oX1_37 := oX1_36.kp hk37 (fun b e => by omega)
        have oG_37 := oG_36.kp hk37 (fun b e => by omega)
        have oGe_37 := oGe_36.kp hk37 (fun b e => by omega)
        clear bA0_36_c0 bA0_36_c1 bA0_36_c2 bA1_36_c0 bA1_36_c1 bW_36_c0 bW_36_c1 bX0_36_c0 bX0_36_c1 bX0_36_c2 bX1_36_c0 bX1_36_c1 bG_36_c0 bG_36_c1
        clear bA0_36 bA1_36 bW_36 bX0_36 bX1_36 bG_36 oW_36 oWe_36 oX0_36 oX1_36 oG_36 oGe_36 hk37
        obtain ⟨k1, ek1, bk1, ck1⟩ : ∃ nn : Int, 1 + (xa0.length : Int) + (xb0.length : Int) + 5 * (x0.length : Int) = nn ∧ 1 ≤ nn ∧ nn ≤ 10000000 := ⟨_, rfl, by omega, by omega⟩
        rw [ek1]
        have hk1 := Lib.hid ek1
        clear ek1
        have bA0_37_c0 := cell_of_heap bA0_37 0
        have bA0_37_c1 := cell_of_heap bA0_37 1
        have bA0_37_c2 := cell_of_heap bA0_37 2
        have bA1_37_c0 := cell_of_heap bA1_37 0
        have bA1_37_c1 := cell_of_heap bA1_37 1
        have bW_37_c0 := cell_of_heap bW_37 0
        have bW_37_c1 := cell_of_heap bW_37 1
        have bX0_37_c0 := cell_of_heap bX0_37 0
        have bX0_37_c1 := cell_of_heap bX0_37 1
        have bX0_37_c2 := cell_of_heap bX0_37 2
        have bX1_37_c0 := cell_of_heap bX1_37 0
        have bX1_37_c1 := cell_of_heap bX1_37 1
        have bG_37_c0 := cell_of_heap bG_37 0
        have bG_37_c1 := cell_of_heap bG_37 1
        go_wp2_with fail
        refine (MarkC.markMemory _ _ _ _ _ _ _ k1 oX1_37 (by omega) (by omega) (by omega) (by omega) (by omega)).mono ?_
        rintro e w38 ⟨rfl, hk38, _⟩
        have z38 : w37.heap.size ≤ w38.heap.size := hk38.size
        have N38 : New w w38 := New.on N37 hk38 (fun i hi => by omega)
        have bA0_38 := (hk38.block _ (by omega) (fun e => by omega)).trans bA0_37
        have bA1_38 := (hk38.block _ (by omega) (fun e => by omega)).trans bA1_37
        have bW_38 := (hk38.block _ (by omega) (fun e => by omega)).trans bW_37
        have bX0_38 := (hk38.block _ (by omega) (fun e => by omega)).trans bX0_37
        have bX1_38 := (hk38.block _ (by omega) (fun e => by omega)).trans bX1_37
        have bG_38 := (hk38.block _ (by omega) (fun e => by omega)).trans bG_37
        have oW_38 := oW_37.kp hk38 (by omega) (fun b e => by omega)
        have oWe_38 := oWe_37.kp hk38 (by omega) (fun b e => by omega)
        have oG_38 := oG_37.kp hk38 (fun b e => by omega)
        have oGe_38 := oGe_37.kp hk38 (fun b e => by omega)
        clear bA0_37_c0 bA0_37_c1 bA0_37_c2 bA1_37_c0 bA1_37_c1 bW_37_c0 bW_37_c1 bX0_37_c0 bX0_37_c1 bX0_37_c2 bX1_37_c0 bX1_37_c1 bG_37_c0 bG_37_c1
        clear bA0_37 bA1_37 bW_37 bX0_37 bX1_37 bG_37 oW_37 oWe_37 oX1_37 oG_37 oGe_37 hk38
        obtain ⟨k2, ek2, bk2, ck2⟩ : ∃ nn : Int, k1 + (ya1.length : Int) + (tot yb1 : Int) = nn ∧ 1 ≤ nn ∧ nn ≤ 100000000 := ⟨_, rfl, by omega, by omega⟩
        rw [ek2]
        have hk2 := Lib.hid ek2
        clear ek2
        have bA0_38_c0 := cell_of_heap bA0_38 0
        have bA0_38_c1 := cell_of_heap bA0_38 1
        have bA0_38_c2 := cell_of_heap bA0_38 2
        have bA1_38_c0 := cell_of_heap bA1_38 0
        have bA1_38_c1 := cell_of_heap bA1_38 1
        have bW_38_c0 := cell_of_heap bW_38 0
        have bW_38_c1 := cell_of_heap bW_38 1
        have bX0_38_c0 := cell_of_heap bX0_38 0
        have bX0_38_c1 := cell_of_heap bX0_38 1
        have bX0_38_c2 := cell_of_heap bX0_38 2
        have bX1_38_c0 := cell_of_heap bX1_38 0
        have bX1_38_c1 := cell_of_heap bX1_38 1
        have bG_38_c0 := cell_of_heap bG_38 0
        have bG_38_c1 := cell_of_heap bG_38 1
        go_wp2_with fail
        refine (Rec.eqMemory oG_38.toR oW_38 (by omega) (by omega)).mono ?_
        rintro e w39 ⟨rfl, hn39⟩
        have z39 : w38.heap.size ≤ w39.heap.size := hn39.size
        have N39 : New w w39 := N38.trans hn39
        have bA0_39 := heap_new hn39 bA0_38
        have bA1_39 := heap_new hn39 bA1_38
        have bW_39 := heap_new hn39 bW_38
        have bX0_39 := heap_new hn39 bX0_38
        have bX1_39 := heap_new hn39 bX1_38
        have bG_39 := heap_new hn39 bG_38
        have oW_39 := oW_38.new (by omega) hn39
        have oWe_39 := oWe_38.new (by omega) hn39
        have oG_39 := oG_38.new (by omega) hn39
        have oGe_39 := oGe_38.new (by omega) hn39
        clear bA0_38_c0 bA0_38_c1 bA0_38_c2 bA1_38_c0 bA1_38_c1 bW_38_c0 bW_38_c1 bX0_38_c0 bX0_38_c1 bX0_38_c2 bX1_38_c0 bX1_38_c1 bG_38_c0 bG_38_c1
        clear bA0_38 bA1_38 bW_38 bX0_38 bX1_38 bG_38 oW_38 oWe_38 oG_38 oGe_38 hn39
        have bA0_39_c0 := cell_of_heap bA0_39 0
        have bA0_39_c1 := cell_of_heap bA0_39 1
        have bA0_39_c2 := cell_of_heap bA0_39 2
        have bA1_39_c0 := cell_of_heap bA1_39 0
        have bA1_39_c1 := cell_of_heap bA1_39 1
        have bW_39_c0 := cell_of_heap bW_39 0
        have bW_39_c1 := cell_of_heap bW_39 1
        have bX0_39_c0 := cell_of_heap bX0_39 0
        have bX0_39_c1 := cell_of_heap bX0_39 1
        have bX0_39_c2 := cell_of_heap bX0_39 2
        have bX1_39_c0 := cell_of_heap bX1_39 0
        have bX1_39_c1 := cell_of_heap bX1_39 1
        have bG_39_c0 := cell_of_heap bG_39 0
        have bG_39_c1 := cell_of_heap bG_39 1
        go_wp2_with fail
        refine (eqEv oGe_39.reads oWe_39 (by omega) (by omega)).mono ?_
        rintro e w40 ⟨rfl, hn40⟩
        have z40 : w39.heap.size ≤ w40.heap.size := hn40.size
        have N40 : New w w40 := N39.trans hn40
        have bA0_40 := heap_new hn40 bA0_39
        have bA1_40 := heap_new hn40 bA1_39
        have bW_40 := heap_new hn40 bW_39
        have bX0_40 := heap_new hn40 bX0_39
        have bX1_40 := heap_new hn40 bX1_39
        have bG_40 := heap_new hn40 bG_39
        have oW_40 := oW_39.new (by omega) hn40
        have oWe_40 := oWe_39.new (by omega) hn40
        have oG_40 := oG_39.new (by omega) hn40
        have oGe_40 := oGe_39.new (by omega) hn40
        clear bA0_39_c0 bA0_39_c1 bA0_39_c2 bA1_39_c0 bA1_39_c1 bW_39_c0 bW_39_c1 bX0_39_c0 bX0_39_c1 bX0_39_c2 bX1_39_c0 bX1_39_c1 bG_39_c0 bG_39_c1
        clear bA0_39 bA1_39 bW_39 bX0_39 bX1_39 bG_39 oW_39 oWe_39 oG_39 oGe_39 hn40
        have bA0_40_c0 := cell_of_heap bA0_40 0
        have bA0_40_c1 := cell_of_heap bA0_40 1
        have bA0_40_c2 := cell_of_heap bA0_40 2
        have bA1_40_c0 := cell_of_heap bA1_40 0
        have bA1_40_c1 := cell_of_heap bA1_40 1
        have bW_40_c0 := cell_of_heap bW_40 0
        have bW_40_c1 := cell_of_heap bW_40 1
        have bX0_40_c0 := cell_of_heap bX0_40 0
        have bX0_40_c1 := cell_of_heap bX0_40 1
        have bX0_40_c2 := cell_of_heap bX0_40 2
        have bX1_40_c0 := cell_of_heap bX1_40 0
        have bX1_40_c1 := cell_of_heap bX1_40 1
        have bG_40_c0 := cell_of_heap bG_40 0
        have bG_40_c1 := cell_of_heap bG_40 1
        go_wp2_with fail
        refine (MarkC.markMemory _ _ _ _ _ _ _ 1 oG_40 (by omega) (by omega) (by omega) (by omega) (by omega)).mono ?_
        rintro e w41 ⟨rfl, hk41, oG_41⟩
        have z41 : w40.heap.size ≤ w41.heap.size := hk41.size
        have N41 : New w w41 := New.on N40 hk41 (fun i hi => by omega)
        have bA0_41 := (hk41.block _ (by omega) (fun e => by omega)).trans bA0_40
        have bA1_41 := (hk41.block _ (by omega) (fun e => by omega)).trans bA1_40
        have bW_41 := (hk41.block _ (by omega) (fun e => by omega)).trans bW_40
        have bX0_41 := (hk41.block _ (by omega) (fun e => by omega)).trans bX0_40
        have bX1_41 := (hk41.block _ (by omega) (fun e => by omega)).trans bX1_40
        have bG_41 := (hk41.block _ (by omega) (fun e => by omega)).trans bG_40
        have oW_41 := oW_40.kp hk41 (by omega) (fun b e => by omega)
        have oWe_41 := oWe_40.kp hk41 (by omega) (fun b e => by omega)
        have oGe_41 := oGe_40.kp hk41 (fun b e => by omega)
        clear bA0_40_c0 bA0_40_c1 bA0_40_c2 bA1_40_c0 bA1_40_c1 bW_40_c0 bW_40_c1 bX0_40_c0 bX0_40_c1 bX0_40_c2 bX1_40_c0 bX1_40_c1 bG_40_c0 bG_40_c1
        clear bA0_40 bA1_40 bW_40 bX0_40 bX1_40 bG_40 oW_40 oWe_40 oG_40 oGe_40 hk41
        obtain ⟨m1, em1, bm1, cm1⟩ : ∃ nn : Int, (1 + (z.v.length : Int) + (tot z.a : Int)) = nn ∧ 1 ≤ nn ∧ nn ≤ 10000000 := ⟨_, rfl, by omega, by omega⟩
        rw [em1]
        have hm1 := Lib.hid em1
        clear em1
        have bA0_41_c0 := cell_of_heap bA0_41 0
        have bA0_41_c1 := cell_of_heap bA0_41 1
        have bA0_41_c2 := cell_of_heap bA0_41 2
        have bA1_41_c0 := cell_of_heap bA1_41 0
        have bA1_41_c1 := cell_of_heap bA1_41 1
        have bW_41_c0 := cell_of_heap bW_41 0
        have bW_41_c1 := cell_of_heap bW_41 1
        have bX0_41_c0 := cell_of_heap bX0_41 0
        have bX0_41_c1 := cell_of_heap bX0_41 1
        have bX0_41_c2 := cell_of_heap bX0_41 2
        have bX1_41_c0 := cell_of_heap bX1_41 0
        have bX1_41_c1 := cell_of_heap bX1_41 1
        have bG_41_c0 := cell_of_heap bG_41 0
        have bG_41_c1 := cell_of_heap bG_41 1
        go_wp2_with fail
        refine (markEv m1 oGe_41 (by omega) (by omega) (by omega)).mono ?_
        rintro e w42 ⟨rfl, hk42, oGe_42⟩
        have z42 : w41.heap.size ≤ w42.heap.size := hk42.size
        have N42 : New w w42 := New.on N41 hk42 (fun i hi => by omega)
        have bA0_42 := (hk42.block _ (by omega) (fun e => by omega)).trans bA0_41
        have bA1_42 := (hk42.block _ (by omega) (fun e => by omega)).trans bA1_41
        have bW_42 := (hk42.block _ (by omega) (fun e => by omega)).trans bW_41
        have bX0_42 := (hk42.block _ (by omega) (fun e => by omega)).trans bX0_41
        have bX1_42 := (hk42.block _ (by omega) (fun e => by omega)).trans bX1_41
        have bG_42 := (hk42.block _ (by omega) (fun e => by omega)).trans bG_41
        have oW_42 := oW_41.kp hk42 (by omega) (fun b e => by omega)
        have oWe_42 := oWe_41.kp hk42 (by omega) (fun b e => by omega)
        have oG_42 := oG_41.kp hk42 (fun b e => by omega)
        clear bA0_41_c0 bA0_41_c1 bA0_41_c2 bA1_41_c0 bA1_41_c1 bW_41_c0 bW_41_c1 bX0_41_c0 bX0_41_c1 bX0_41_c2 bX1_41_c0 bX1_41_c1 bG_41_c0 bG_41_c1
        clear bA0_41 bA1_41 bW_41 bX0_41 bX1_41 bG_41 oW_41 oWe_41 oG_41 oGe_41 hk42
        obtain ⟨m2, em2, bm2, cm2⟩ : ∃ nn : Int, m1 + 2 * (zl.length : Int) = nn ∧ 1 ≤ nn ∧ nn ≤ 100000000 := ⟨_, rfl, by omega, by omega⟩
        rw [em2]
        have hm2 := Lib.hid em2
        clear em2
        have bA0_42_c0 := cell_of_heap bA0_42 0
        have bA0_42_c1 := cell_of_heap bA0_42 1
        have bA0_42_c2 := cell_of_heap bA0_42 2
        have bA1_42_c0 := cell_of_heap bA1_42 0
        have bA1_42_c1 := cell_of_heap bA1_42 1
        have bW_42_c0 := cell_of_heap bW_42 0
        have bW_42_c1 := cell_of_heap bW_42 1
        have bX0_42_c0 := cell_of_heap bX0_42 0
        have bX0_42_c1 := cell_of_heap bX0_42 1
        have bX0_42_c2 := cell_of_heap bX0_42 2
        have bX1_42_c0 := cell_of_heap bX1_42 0
        have bX1_42_c1 := cell_of_heap bX1_42 1
        have bG_42_c0 := cell_of_heap bG_42 0
        have bG_42_c1 := cell_of_heap bG_42 1
        go_wp2_with fail
        refine (MarkC.heldMemory _ _ _ _ _ z.v.length z.a 1 oG_42.toR.1 oG_42.toR.2 (by omega) (by omega) (by omega) (by omega) (by omega)).mono ?_
        rintro e w43 ⟨rfl, hn43⟩
        have z43 : w42.heap.size ≤ w43.heap.size := hn43.size
        have N43 : New w w43 := N42.trans hn43
        have bA0_43 := heap_new hn43 bA0_42
        have bA1_43 := heap_new hn43 bA1_42
        have bW_43 := heap_new hn43 bW_42
        have bX0_43 := heap_new hn43 bX0_42
        have bX1_43 := heap_new hn43 bX1_42
        have bG_43 := heap_new hn43 bG_42
        have oW_43 := oW_42.new (by omega) hn43
        have oWe_43 := oWe_42.new (by omega) hn43
        have oG_43 := oG_42.new (by omega) hn43
        have oGe_43 := oGe_42.new (by omega) hn43
        clear bA0_42_c0 bA0_42_c1 bA0_42_c2 bA1_42_c0 bA1_42_c1 bW_42_c0 bW_42_c1 bX0_42_c0 bX0_42_c1 bX0_42_c2 bX1_42_c0 bX1_42_c1 bG_42_c0 bG_42_c1
        clear bA0_42 bA1_42 bW_42 bX0_42 bX1_42 bG_42 oW_42 oWe_42 oG_42 oGe_42 hn43
        rw [hm1.out]
        have bA0_43_c0 := cell_of_heap bA0_43 0
        have bA0_43_c1 := cell_of_heap bA0_43 1
        have bA0_43_c2 := cell_of_heap bA0_43 2
        have bA1_43_c0 := cell_of_heap bA1_43 0
        have bA1_43_c1 := cell_of_heap bA1_43 1
        have bW_43_c0 := cell_of_heap bW_43 0
        have bW_43_c1 := cell_of_heap bW_43 1
        have bX0_43_c0 := cell_of_heap bX0_43 0
        have bX0_43_c1 := cell_of_heap bX0_43 1
        have bX0_43_c2 := cell_of_heap bX0_43 2
        have bX1_43_c0 := cell_of_heap bX1_43 0
        have bX1_43_c1 := cell_of_heap bX1_43 1
        have bG_43_c0 := cell_of_heap bG_43 0
        have bG_43_c1 := cell_of_heap bG_43 1
        go_wp2_with fail
        refine (heldEv zl.length m1 oGe_43.reads (by omega) (by omega) (by omega)).mono ?_
        rintro e w44 ⟨rfl, hn44⟩
        have z44 : w43.heap.size ≤ w44.heap.size := hn44.size
        have N44 : New w w44 := N43.trans hn44
        have bA0_44 := heap_new hn44 bA0_43
        have bA1_44 := heap_new hn44 bA1_43
        have bW_44 := heap_new hn44 bW_43
        have bX0_44 := heap_new hn44 bX0_43
        have bX1_44 := heap_new hn44 bX1_43
        have bG_44 := heap_new hn44 bG_43
        have oW_44 := oW_43.new (by omega) hn44
        have oWe_44 := oWe_43.new (by omega) hn44
        have oG_44 := oG_43.new (by omega) hn44
        have oGe_44 := oGe_43.new (by omega) hn44
        clear bA0_43_c0 bA0_43_c1 bA0_43_c2 bA1_43_c0 bA1_43_c1 bW_43_c0 bW_43_c1 bX0_43_c0 bX0_43_c1 bX0_43_c2 bX1_43_c0 bX1_43_c1 bG_43_c0 bG_43_c1
        clear bA0_43 bA1_43 bW_43 bX0_43 bX1_43 bG_43 oW_43 oWe_43 oG_43 oGe_43 hn44
        rw [hm2.out]
        have bA0_44_c0 := cell_of_heap bA0_44 0
        have bA0_44_c1 := cell_of_heap bA0_44 1
        have bA0_44_c2 := cell_of_heap bA0_44 2
        have bA1_44_c0 := cell_of_heap bA1_44 0
        have bA1_44_c1 := cell_of_heap bA1_44 1
        have bW_44_c0 := cell_of_heap bW_44 0
        have bW_44_c1 := cell_of_heap bW_44 1
        have bG_44_c0 := cell_of_heap bG_44 0
        have bG_44_c1 := cell_of_heap bG_44 1
        go_wp2_with fail
        go_cut [17, 18, 19] (fun p6 p7 p8 wx => ∃ b6 aHa dHa aHb dHb vHe, p6 = .pointer (some ⟨b6, 0, none⟩) ∧ vHe = p7 ∧ p8 = .bool t ∧ New w wx ∧ w44.heap.size ≤ wx.heap.size ∧ w.heap.size + 1 < b6 ∧ b6 < wx.heap.size ∧ wx.heap[b6]? = some (.cells #[.slice aHa z.v.length dHa, .slice aHb z.a.length dHb] 29) ∧ Rec.MemR wx w.heap.size wx.heap.size (.slice aHa z.v.length dHa) (.slice aHb z.a.length dHb) z.v z.a ∧ EvsR wx w.heap.size wx.heap.size vHe zl ∧ wx.heap[w.heap.size]? = some (.cells #[ta0, tb0, tc0] 57) ∧ wx.heap[w.heap.size + 1]? = some (.cells #[ma1, mb1] 58) ∧ wx.heap[bW]? = some (.cells #[.slice aWa z.v.length dWa, .slice aWb z.a.length dWb] 29) ∧ wx.heap[w27.heap.size]? = some (.cells #[.slice aGa z.v.length dGa, .slice aGb z.a.length dGb] 29) ∧ Rec.MemR wx w.heap.size wc8.heap.size (.slice aWa z.v.length dWa) (.slice aWb z.a.length dWb) z.v z.a ∧ EvsR wx w.heap.size wc8.heap.size vWe zl ∧ MarkC.MemO wx pG qG (.slice aGa z.v.length dGa) (.slice aGb z.a.length dGb) (marksI 1 z.v.length) (marksM (1 + (z.v.length : Int)) z.a) ∧ OwnR 2 encE wx rG sG 41 vGe (marksE m1 zl.length))
        case first =>
          have hn45 : New w44 w44.drew := (Kp.refl _ _).drew
          have z45 : w44.heap.size ≤ w44.drew.heap.size := hn45.size
          have N45 : New w w44.drew := N44.trans hn45
          have bA0_45 := heap_new hn45 bA0_44
          have bA1_45 := heap_new hn45 bA1_44
          have bW_45 := heap_new hn45 bW_44
          have bG_45 := heap_new hn45 bG_44
          have oW_45 := oW_44.new (by omega) hn45
          have oWe_45 := oWe_44.new (by omega) hn45
          have oG_45 := oG_44.new (by omega) hn45
          have oGe_45 := oGe_44.new (by omega) hn45
          clear bA0_44_c0 bA0_44_c1 bA0_44_c2 bA1_44_c0 bA1_44_c1 bW_44_c0 bW_44_c1 bG_44_c0 bG_44_c1
          clear bA0_44 bA1_44 bW_44 bG_44 oW_44 oWe_44 oG_44 oGe_44 hn45
          have bA0_45_c0 := cell_of_heap bA0_45 0
          have bA0_45_c1 := cell_of_heap bA0_45 1
          have bA0_45_c2 := cell_of_heap bA0_45 2
          have bA1_45_c0 := cell_of_heap bA1_45 0
          have bA1_45_c1 := cell_of_heap bA1_45 1
          refine wp_region_tail (k := 10) (S := fun w' => w'.cell? ⟨w.heap.size, 0, none⟩ = some (ta0) ∧ w'.cell? ⟨w.heap.size, 1, none⟩ = some (tb0) ∧ w'.cell? ⟨w.heap.size, 2, none⟩ = some (tc0) ∧ w'.cell? ⟨w.heap.size + 1, 0, none⟩ = some (ma1) ∧ w'.cell? ⟨w.heap.size + 1, 1, none⟩ = some (mb1)) (by kernel_rfl) ?_ (fun hHeld => ?_)
          · exact ⟨bA0_45_c0, bA0_45_c1, bA0_45_c2, bA1_45_c0, bA1_45_c1⟩
          refine AnyK.take (i := 0) (v := ?vq19) rfl (by kernel_rfl) (by kernel_rfl) (by kernel_rfl) (by kernel_rfl) (fun _ _ _ h => h) (Or.inl ⟨by kernel_rfl, ?yq19⟩) (by assumption) ?rq19
          case yq19 =>
            intro w hSw
            try dsimp only at hSw
            go_simp
            try with_reducible rfl
          try simp only [Act.put, List.getElem_toArray, List.getElem_cons_zero, List.setIfInBounds_toArray, List.set_cons_zero, List.set_cons_succ]
          refine AnyK.take (i := 2) (v := ?vq20) rfl (by kernel_rfl) (by kernel_rfl) (by kernel_rfl) (by kernel_rfl) (fun _ _ _ h => h) (Or.inl ⟨by kernel_rfl, ?yq20⟩) (by assumption) ?rq20
          case yq20 =>
            intro w hSw
            try dsimp only at hSw
            go_simp
            try with_reducible rfl
          try simp only [Act.put, List.getElem_toArray, List.getElem_cons_zero, List.getElem_cons_succ, List.setIfInBounds_toArray, List.set_cons_zero, List.set_cons_succ]
          refine AnyK.two (i := 1) (j := 9) (by kernel_rfl) rfl rfl (fun K hK => ?_) (fun K hK => ?_)
          · go_simp
            refine (ToO.toCode _ 0 w.heap.size _ _ _ _ _ _ (sa0.new (Nat.le_refl _) N45) (sb0.new (Nat.le_refl _) N45) (s0.new (Nat.le_refl _) N45) (by omega) (by omega) (by omega) (by omega)).mono ?_
            rintro e w46 ⟨vP0a, vP0b, vP0c, rfl, hn46, qP0⟩
            have z46 : w44.drew.heap.size ≤ w46.heap.size := hn46.size
            have N46 : New w w46 := N45.trans hn46
            have bA0_46 := heap_new hn46 bA0_45
            have bA1_46 := heap_new hn46 bA1_45
            have bW_46 := heap_new hn46 bW_45
            have bG_46 := heap_new hn46 bG_45
            have oW_46 := oW_45.new (by omega) hn46
            have oWe_46 := oWe_45.new (by omega) hn46
            have oG_46 := oG_45.new (by omega) hn46
            have oGe_46 := oGe_45.new (by omega) hn46
            clear bA0_45_c0 bA0_45_c1 bA0_45_c2 bA1_45_c0 bA1_45_c1
            clear bA0_45 bA1_45 bW_45 bG_45 oW_45 oWe_45 oG_45 oGe_45 hn46
            have oP0_46 := qP0
            clear qP0
            have bA0_46_c0 := cell_of_heap bA0_46 0
            have bA0_46_c1 := cell_of_heap bA0_46 1
            have bA0_46_c2 := cell_of_heap bA0_46 2
            have bA1_46_c0 := cell_of_heap bA1_46 0
            have bA1_46_c1 := cell_of_heap bA1_46 1
            refine hK.out _ _ ?_ (fun hHeld2 => ?_)
            · exact ⟨bA0_46_c0, bA0_46_c1, bA0_46_c2, bA1_46_c0, bA1_46_c1⟩
            clear hK K hHeld
            have hHeld := hHeld2
            clear hHeld2
            try simp only [Act.put, List.getElem_toArray, List.getElem_cons_zero, List.getElem_cons_succ, List.setIfInBounds_toArray, List.set_cons_zero, List.set_cons_succ]
            refine AnyK.two (i := 3) (j := 9) (by kernel_rfl) rfl rfl (fun K hK => ?_) (fun K hK => ?_)
            · go_simp
              refine (ToO.toMemory _ 0 w.heap.size _ _ _ _ (ra1.new (Nat.le_refl _) N46) (rb1.new (Nat.le_refl _) N46) (by omega) (by omega) (by omega)).mono ?_
              rintro e w47 ⟨vP1a, vP1b, rfl, hn47, qP1⟩
              have z47 : w46.heap.size ≤ w47.heap.size := hn47.size
              have N47 : New w w47 := N46.trans hn47
              have bA0_47 := heap_new hn47 bA0_46
              have bA1_47 := heap_new hn47 bA1_46
              have bW_47 := heap_new hn47 bW_46
              have bG_47 := heap_new hn47 bG_46
              have oW_47 := oW_46.new (by omega) hn47
              have oWe_47 := oWe_46.new (by omega) hn47
              have oG_47 := oG_46.new (by omega) hn47
              have oGe_47 := oGe_46.new (by omega) hn47
              have oP0_47 := oP0_46.new (by omega) hn47
              clear bA0_46_c0 bA0_46_c1 bA0_46_c2 bA1_46_c0 bA1_46_c1
              clear bA0_46 bA1_46 bW_46 bG_46 oW_46 oWe_46 oG_46 oGe_46 oP0_46 hn47
              have oP1_47 := qP1
              clear qP1
              have bA0_47_c0 := cell_of_heap bA0_47 0
              have bA0_47_c1 := cell_of_heap bA0_47 1
              have bA0_47_c2 := cell_of_heap bA0_47 2
              have bA1_47_c0 := cell_of_heap bA1_47 0
              have bA1_47_c1 := cell_of_heap bA1_47 1
              refine hK.out _ _ ?_ (fun hHeld2 => ?_)
              · exact ⟨bA0_47_c0, bA0_47_c1, bA0_47_c2, bA1_47_c0, bA1_47_c1⟩
              clear hK K hHeld
              have hHeld := hHeld2
              clear hHeld2
              try simp only [Act.put, List.getElem_toArray, List.getElem_cons_zero, List.getElem_cons_succ, List.setIfInBounds_toArray, List.set_cons_zero, List.set_cons_succ]
              refine AnyK.two (i := 4) (j := 9) (by kernel_rfl) rfl rfl (fun K hK => ?_) (fun K hK => ?_)
              · go_simp
                refine ((RunM2.implA _ _ _ _ _ _ _ _ _ _ xa0 xb0 ya1 x0 yb1 oP0_47.toR.1 oP0_47.toR.2.1 oP0_47.toR.2.2 (by omega) oP1_47 (by omega) (by omega) (by omega) hrow.out ht.out hz.out hl.out)).mono ?_
                rintro e w48 ⟨vHa, vHb, vHe, pH, qH, rH, sH, rfl, hn48, xH, yH, hH1, hH2, hH3, hH4, hH5⟩
                have z48 : w47.heap.size ≤ w48.heap.size := hn48.size
                have N48 : New w w48 := N47.trans hn48
                have bA0_48 := heap_new hn48 bA0_47
                have bA1_48 := heap_new hn48 bA1_47
                have bW_48 := heap_new hn48 bW_47
                have bG_48 := heap_new hn48 bG_47
                have oW_48 := oW_47.new (by omega) hn48
                have oWe_48 := oWe_47.new (by omega) hn48
                have oG_48 := oG_47.new (by omega) hn48
                have oGe_48 := oGe_47.new (by omega) hn48
                have oP0_48 := oP0_47.new (by omega) hn48
                have oP1_48 := oP1_47.new (by omega) hn48
                clear bA0_47_c0 bA0_47_c1 bA0_47_c2 bA1_47_c0 bA1_47_c1
                clear bA0_47 bA1_47 bW_47 bG_47 oW_47 oWe_47 oG_47 oGe_47 oP0_47 oP1_47 hn48
                have oH_48 := xH
                clear xH
                have oHe_48 := yH
                clear yH
                obtain ⟨⟨aHa, dHa, eHa⟩, aHb, dHb, eHb⟩ := oH_48.toR.lens
                subst eHa
                subst eHb
                have bA0_48_c0 := cell_of_heap bA0_48 0
                have bA0_48_c1 := cell_of_heap bA0_48 1
                have bA0_48_c2 := cell_of_heap bA0_48 2
                have bA1_48_c0 := cell_of_heap bA1_48 0
                have bA1_48_c1 := cell_of_heap bA1_48 1
                refine hK.out _ _ ?_ (fun hHeld2 => ?_)
                · exact ⟨bA0_48_c0, bA0_48_c1, bA0_48_c2, bA1_48_c0, bA1_48_c1⟩
                clear hK K hHeld
                have hHeld := hHeld2
                clear hHeld2
                try simp only [Act.put, List.getElem_toArray, List.getElem_cons_zero, List.getElem_cons_succ, List.setIfInBounds_toArray, List.set_cons_zero, List.set_cons_succ]
                refine AnyK.takeW (i := 5) (v := ?vq21) rfl (by kernel_rfl) (by kernel_rfl) (by kernel_rfl) (by kernel_rfl) (fun _ _ _ h => h) (Or.inl ⟨by kernel_rfl, ?yq21⟩) (by assumption) ?rq21
                case yq21 =>
                  intro w hSw
                  try dsimp only at hSw
                  go_simp
                  try with_reducible rfl
                try simp only [Act.put, List.getElem_toArray, List.getElem_cons_zero, List.getElem_cons_succ, List.setIfInBounds_toArray, List.set_cons_zero, List.set_cons_succ]
                refine AnyK.takeW (i := 6) (v := ?vq22) rfl (by kernel_rfl) (by kernel_rfl) (by kernel_rfl) (by kernel_rfl) (fun _ _ _ h => h) (Or.inl ⟨by kernel_rfl, ?yq22⟩) (by assumption) ?rq22
                case yq22 =>
                  intro w hSw
                  try dsimp only at hSw
                  go_simp
                  try with_reducible rfl
                try simp only [Act.put, List.getElem_toArray, List.getElem_cons_zero, List.getElem_cons_succ, List.setIfInBounds_toArray, List.set_cons_zero, List.set_cons_succ]
                refine AnyK.takeW (i := 7) (v := ?vq23) rfl (by kernel_rfl) (by kernel_rfl) (by kernel_rfl) (by kernel_rfl) (fun _ _ _ h => h) (Or.inl ⟨by kernel_rfl, ?yq23⟩) (by assumption) ?rq23
                case yq23 =>
                  intro w hSw
                  try dsimp only at hSw
                  go_simp
                  try with_reducible rfl
                try simp only [Act.put, List.getElem_toArray, List.getElem_cons_zero, List.getElem_cons_succ, List.setIfInBounds_toArray, List.set_cons_zero, List.set_cons_succ]
                refine AnyK.takeW (i := 8) (v := ?vq24) rfl (by kernel_rfl) (by kernel_rfl) (by kernel_rfl) (by kernel_rfl) (fun _ _ _ h => h) (Or.inl ⟨by kernel_rfl, ?yq24⟩) (by assumption) ?rq24
                case yq24 =>
                  intro w hSw
                  try dsimp only at hSw
                  go_simp
                  try with_reducible rfl
                try simp only [Act.put, List.getElem_toArray, List.getElem_cons_zero, List.getElem_cons_succ, List.setIfInBounds_toArray, List.set_cons_zero, List.set_cons_succ]
                refine AnyK.step (i := 9) (by kernel_rfl) rfl (fun K hK => ?_)
                go_simp
                have hn49 : New w48 (w48.alloc (.cells #[.slice none 0 0, .slice none 0 0] 29)) := (show New w48 (w48.alloc (.cells #[.slice none 0 0, .slice none 0 0] 29)) from (Kp.refl _ _).alloc _)
                have z49 : w48.heap.size < (w48.alloc (.cells #[.slice none 0 0, .slice none 0 0] 29)).heap.size := (show w48.heap.size < (w48.alloc (.cells #[.slice none 0 0, .slice none 0 0] 29)).heap.size from Rec.lt_alloc _ _)
                have N49 := N48.trans hn49
                have bA0_49 := heap_new hn49 bA0_48
                have bA1_49 := heap_new hn49 bA1_48
                have bW_49 := heap_new hn49 bW_48
                have bG_49 := heap_new hn49 bG_48
                have oW_49 := oW_48.new (by omega) hn49
                have oWe_49 := oWe_48.new (by omega) hn49
                have oG_49 := oG_48.new (by omega) hn49
                have oGe_49 := oGe_48.new (by omega) hn49
                have oP0_49 := oP0_48.new (by omega) hn49
                have oP1_49 := oP1_48.new (by omega) hn49
                have oH_49 := oH_48.new (by omega) hn49
                have oHe_49 := oHe_48.new (by omega) hn49
                have bZ_49 : (w48.alloc (.cells #[.slice none 0 0, .slice none 0 0] 29)).heap[w48.heap.size]? = some (.cells #[.slice none 0 0, .slice none 0 0] 29) := (show (w48.alloc (.cells #[.slice none 0 0, .slice none 0 0] 29)).heap[w48.heap.size]? = _ from alloc_heap _ _)
                clear bA0_48_c0 bA0_48_c1 bA0_48_c2 bA1_48_c0 bA1_48_c1
                clear bA0_48 bA1_48 bW_48 bG_48 oW_48 oWe_48 oG_48 oGe_48 oP0_48 oP1_48 oH_48 oHe_48 hn49
                generalize (w48.alloc (.cells #[.slice none 0 0, .slice none 0 0] 29)) = w49 at *
                have bA0_49_c0 := cell_of_heap bA0_49 0
                have bA0_49_c1 := cell_of_heap bA0_49 1
                have bA0_49_c2 := cell_of_heap bA0_49 2
                have bA1_49_c0 := cell_of_heap bA1_49 0
                have bA1_49_c1 := cell_of_heap bA1_49 1
                refine hK.out _ _ ?_ (fun hHeld2 => ?_)
                · exact ⟨bA0_49_c0, bA0_49_c1, bA0_49_c2, bA1_49_c0, bA1_49_c1⟩
                clear hK K hHeld
                have hHeld := hHeld2
                clear hHeld2
                try simp only [Act.put, List.getElem_toArray, List.getElem_cons_zero, List.getElem_cons_succ, List.setIfInBounds_toArray, List.set_cons_zero, List.set_cons_succ]
                refine AnyK.last (by kernel_rfl) ?_
                simp only [List.drop_succ_cons, List.drop_zero]
                clear hHeld
                have bZ_49_c0 := cell_of_heap bZ_49 0
                have bZ_49_c1 := cell_of_heap bZ_49 1
                have bZ_49_f := frozen_of_heap bZ_49
                go_wp2_with fail
                go_meet
                have hkz := setMany_kp (w48.heap.size) [.slice aHa z.v.length dHa, .slice aHb z.a.length dHb] w49 0
                have zs := setMany_size (w48.heap.size) [.slice aHa z.v.length dHa, .slice aHb z.a.length dHb] w49 0
                have hR := setMany_row [.slice aHa z.v.length dHa, .slice aHb z.a.length dHb] bZ_49 rfl
                have zb := heap_lt bZ_49
                have hMO := (oH_49.toR.kp hkz (by omega) (fun x e => by omega)).mono (lo' := w.heap.size) (hi' := (setMany w49 (w48.heap.size) 0 [.slice aHa z.v.length dHa, .slice aHb z.a.length dHb]).heap.size) (by omega) (by omega)
                have hEO := (oHe_49.reads.kp hkz (by omega) (fun x e => by omega)).mono (lo' := w.heap.size) (hi' := (setMany w49 (w48.heap.size) 0 [.slice aHa z.v.length dHa, .slice aHb z.a.length dHb]).heap.size) (by omega) (by omega)
                have hpz : w44.heap.size ≤ (setMany w49 (w48.heap.size) 0 [.slice aHa z.v.length dHa, .slice aHb z.a.length dHb]).heap.size := by omega
                exact ⟨w48.heap.size, _, _, _, _, _, rfl, rfl, rfl, New.one N49 hkz (by omega), hpz, by omega, zb2 zb zs, hR, hMO, hEO, setMany_other [.slice aHa z.v.length dHa, .slice aHb z.a.length dHb] 0 bA0_49 (by omega), setMany_other [.slice aHa z.v.length dHa, .slice aHb z.a.length dHb] 0 bA1_49 (by omega), setMany_other [.slice aHa z.v.length dHa, .slice aHb z.a.length dHb] 0 bW_49 (by omega), setMany_other [.slice aHa z.v.length dHa, .slice aHb z.a.length dHb] 0 bG_49 (by omega), oW_49.kp hkz (by omega) (fun x e => by omega), oWe_49.kp hkz (by omega) (fun x e => by omega), oG_49.kp hkz (fun x e => by omega), oGe_49.kp hkz (fun x e => by omega)⟩
              · go_simp
                have hn48 : New w47 (w47.alloc (.cells #[.slice none 0 0, .slice none 0 0] 29)) := (show New w47 (w47.alloc (.cells #[.slice none 0 0, .slice none 0 0] 29)) from (Kp.refl _ _).alloc _)
                have z48 : w47.heap.size < (w47.alloc (.cells #[.slice none 0 0, .slice none 0 0] 29)).heap.size := (show w47.heap.size < (w47.alloc (.cells #[.slice none 0 0, .slice none 0 0] 29)).heap.size from Rec.lt_alloc _ _)
                have N48 := N47.trans hn48
                have bA0_48 := heap_new hn48 bA0_47
                have bA1_48 := heap_new hn48 bA1_47
                have bW_48 := heap_new hn48 bW_47
                have bG_48 := heap_new hn48 bG_47
                have oW_48 := oW_47.new (by omega) hn48
                have oWe_48 := oWe_47.new (by omega) hn48
                have oG_48 := oG_47.new (by omega) hn48
                have oGe_48 := oGe_47.new (by omega) hn48
                have oP0_48 := oP0_47.new (by omega) hn48
                have oP1_48 := oP1_47.new (by omega) hn48
                have bZ_48 : (w47.alloc (.cells #[.slice none 0 0, .slice none 0 0] 29)).heap[w47.heap.size]? = some (.cells #[.slice none 0 0, .slice none 0 0] 29) := (show (w47.alloc (.cells #[.slice none 0 0, .slice none 0 0] 29)).heap[w47.heap.size]? = _ from alloc_heap _ _)
                clear bA0_47_c0 bA0_47_c1 bA0_47_c2 bA1_47_c0 bA1_47_c1
                clear bA0_47 bA1_47 bW_47 bG_47 oW_47 oWe_47 oG_47 oGe_47 oP0_47 oP1_47 hn48
                generalize (w47.alloc (.cells #[.slice none 0 0, .slice none 0 0] 29)) = w48 at *
                have bA0_48_c0 := cell_of_heap bA0_48 0
                have bA0_48_c1 := cell_of_heap bA0_48 1
                have bA0_48_c2 := cell_of_heap bA0_48 2
                have bA1_48_c0 := cell_of_heap bA1_48 0
                have bA1_48_c1 := cell_of_heap bA1_48 1
                refine hK.out _ _ ?_ (fun hHeld2 => ?_)
                · exact ⟨bA0_48_c0, bA0_48_c1, bA0_48_c2, bA1_48_c0, bA1_48_c1⟩
                clear hK K hHeld
                have hHeld := hHeld2
                clear hHeld2
                try simp only [Act.put, List.getElem_toArray, List.getElem_cons_zero, List.getElem_cons_succ, List.setIfInBounds_toArray, List.set_cons_zero, List.set_cons_succ]
                refine AnyK.step (i := 4) (by kernel_rfl) rfl (fun K hK => ?_)
                go_simp
                refine ((RunM2.implA _ _ _ _ _ _ _ _ _ _ xa0 xb0 ya1 x0 yb1 oP0_48.toR.1 oP0_48.toR.2.1 oP0_48.toR.2.2 (by omega) oP1_48 (by omega) (by omega) (by omega) hrow.out ht.out hz.out hl.out)).mono ?_
                rintro e w49 ⟨vHa, vHb, vHe, pH, qH, rH, sH, rfl, hn49, xH, yH, hH1, hH2, hH3, hH4, hH5⟩
                have z49 : w48.heap.size ≤ w49.heap.size := hn49.size
                have N49 : New w w49 := N48.trans hn49
                have bA0_49 := heap_new hn49 bA0_48
                have bA1_49 := heap_new hn49 bA1_48
                have bW_49 := heap_new hn49 bW_48
                have bG_49 := heap_new hn49 bG_48
                have bZ_49 := heap_new hn49 bZ_48
                have oW_49 := oW_48.new (by omega) hn49
                have oWe_49 := oWe_48.new (by omega) hn49
                have oG_49 := oG_48.new (by omega) hn49
                have oGe_49 := oGe_48.new (by omega) hn49
                have oP0_49 := oP0_48.new (by omega) hn49
                have oP1_49 := oP1_48.new (by omega) hn49
                clear bA0_48_c0 bA0_48_c1 bA0_48_c2 bA1_48_c0 bA1_48_c1
                clear bA0_48 bA1_48 bW_48 bG_48 bZ_48 oW_48 oWe_48 oG_48 oGe_48 oP0_48 oP1_48 hn49
                have oH_49 := xH
                clear xH
                have oHe_49 := yH
                clear yH
                obtain ⟨⟨aHa, dHa, eHa⟩, aHb, dHb, eHb⟩ := oH_49.toR.lens
                subst eHa
                subst eHb
                have bA0_49_c0 := cell_of_heap bA0_49 0
                have bA0_49_c1 := cell_of_heap bA0_49 1
                have bA0_49_c2 := cell_of_heap bA0_49 2
                have bA1_49_c0 := cell_of_heap bA1_49 0
                have bA1_49_c1 := cell_of_heap bA1_49 1
                refine hK.out _ _ ?_ (fun hHeld2 => ?_)
                · exact ⟨bA0_49_c0, bA0_49_c1, bA0_49_c2, bA1_49_c0, bA1_49_c1⟩
                clear hK K hHeld
                have hHeld := hHeld2
                clear hHeld2
                try simp only [Act.put, List.getElem_toArray, List.getElem_cons_zero, List.getElem_cons_succ, List.setIfInBounds_toArray, List.set_cons_zero, List.set_cons_succ]
                refine AnyK.takeW (i := 5) (v := ?vq25) rfl (by kernel_rfl) (by kernel_rfl) (by kernel_rfl) (by kernel_rfl) (fun _ _ _ h => h) (Or.inl ⟨by kernel_rfl, ?yq25⟩) (by assumption) ?rq25
                case yq25 =>
                  intro w hSw
                  try dsimp only at hSw
                  go_simp
                  try with_reducible rfl
                try simp only [Act.put, List.getElem_toArray, List.getElem_cons_zero, List.getElem_cons_succ, List.setIfInBounds_toArray, List.set_cons_zero, List.set_cons_succ]
                refine AnyK.takeW (i := 6) (v := ?vq26) rfl (by kernel_rfl) (by kernel_rfl) (by kernel_rfl) (by kernel_rfl) (fun _ _ _ h => h) (Or.inl ⟨by kernel_rfl, ?yq26⟩) (by assumption) ?rq26
                case yq26 =>
                  intro w hSw
                  try dsimp only at hSw
                  go_simp
                  try with_reducible rfl
                try simp only [Act.put, List.getElem_toArray, List.getElem_cons_zero, List.getElem_cons_succ, List.setIfInBounds_toArray, List.set_cons_zero, List.set_cons_succ]
                refine AnyK.takeW (i := 7) (v := ?vq27) rfl (by kernel_rfl) (by kernel_rfl) (by kernel_rfl) (by kernel_rfl) (fun _ _ _ h => h) (Or.inl ⟨by kernel_rfl, ?yq27⟩) (by assumption) ?rq27
                case yq27 =>
                  intro w hSw
                  try dsimp only at hSw
                  go_simp
                  try with_reducible rfl
                try simp only [Act.put, List.getElem_toArray, List.getElem_cons_zero, List.getElem_cons_succ, List.setIfInBounds_toArray, List.set_cons_zero, List.set_cons_succ]
                refine AnyK.takeW (i := 8) (v := ?vq28) rfl (by kernel_rfl) (by kernel_rfl) (by kernel_rfl) (by kernel_rfl) (fun _ _ _ h => h) (Or.inl ⟨by kernel_rfl, ?yq28⟩) (by assumption) ?rq28
                case yq28 =>
                  intro w hSw
                  try dsimp only at hSw
                  go_simp
                  try with_reducible rfl
                try simp only [Act.put, List.getElem_toArray, List.getElem_cons_zero, List.getElem_cons_succ, List.setIfInBounds_toArray, List.set_cons_zero, List.set_cons_succ]
                refine AnyK.last (by kernel_rfl) ?_
                simp only [List.drop_succ_cons, List.drop_zero]
                clear hHeld
                have bZ_49_c0 := cell_of_heap bZ_49 0
                have bZ_49_c1 := cell_of_heap bZ_49 1
                have bZ_49_f := frozen_of_heap bZ_49
                go_wp2_with fail
                go_meet
                have hkz := setMany_kp (w47.heap.size) [.slice aHa z.v.length dHa, .slice aHb z.a.length dHb] w49 0
                have zs := setMany_size (w47.heap.size) [.slice aHa z.v.length dHa, .slice aHb z.a.length dHb] w49 0
                have hR := setMany_row [.slice aHa z.v.length dHa, .slice aHb z.a.length dHb] bZ_49 rfl
                have zb := heap_lt bZ_49
                have hMO := (oH_49.toR.kp hkz (by omega) (fun x e => by omega)).mono (lo' := w.heap.size) (hi' := (setMany w49 (w47.heap.size) 0 [.slice aHa z.v.length dHa, .slice aHb z.a.length dHb]).heap.size) (by omega) (by omega)
                have hEO := (oHe_49.reads.kp hkz (by omega) (fun x e => by omega)).mono (lo' := w.heap.size) (hi' := (setMany w49 (w47.heap.size) 0 [.slice aHa z.v.length dHa, .slice aHb z.a.length dHb]).heap.size) (by omega) (by omega)
                have hpz : w44.heap.size ≤ (setMany w49 (w47.heap.size) 0 [.slice aHa z.v.length dHa, .slice aHb z.a.length dHb]).heap.size := by omega
                exact ⟨w47.heap.size, _, _, _, _, _, rfl, rfl, rfl, New.one N49 hkz (by omega), hpz, by omega, zb2 zb zs, hR, hMO, hEO, setMany_other [.slice aHa z.v.length dHa, .slice aHb z.a.length dHb] 0 bA0_49 (by omega), setMany_other [.slice aHa z.v.length dHa, .slice aHb z.a.length dHb] 0 bA1_49 (by omega), setMany_other [.slice aHa z.v.length dHa, .slice aHb z.a.length dHb] 0 bW_49 (by omega), setMany_other [.slice aHa z.v.length dHa, .slice aHb z.a.length dHb] 0 bG_49 (by omega), oW_49.kp hkz (by omega) (fun x e => by omega), oWe_49.kp hkz (by omega) (fun x e => by omega), oG_49.kp hkz (fun x e => by omega), oGe_49.kp hkz (fun x e => by omega)⟩
            · go_simp
              have hn47 : New w46 (w46.alloc (.cells #[.slice none 0 0, .slice none 0 0] 29)) := (show New w46 (w46.alloc (.cells #[.slice none 0 0, .slice none 0 0] 29)) from (Kp.refl _ _).alloc _)
              have z47 : w46.heap.size < (w46.alloc (.cells #[.slice none 0 0, .slice none 0 0] 29)).heap.size := (show w46.heap.size < (w46.alloc (.cells #[.slice none 0 0, .slice none 0 0] 29)).heap.size from Rec.lt_alloc _ _)
              have N47 := N46.trans hn47
              have bA0_47 := heap_new hn47 bA0_46
              have bA1_47 := heap_new hn47 bA1_46
              have bW_47 := heap_new hn47 bW_46
              have bG_47 := heap_new hn47 bG_46
              have oW_47 := oW_46.new (by omega) hn47
              have oWe_47 := oWe_46.new (by omega) hn47
              have oG_47 := oG_46.new (by omega) hn47
              have oGe_47 := oGe_46.new (by omega) hn47
              have oP0_47 := oP0_46.new (by omega) hn47
              have bZ_47 : (w46.alloc (.cells #[.slice none 0 0, .slice none 0 0] 29)).heap[w46.heap.size]? = some (.cells #[.slice none 0 0, .slice none 0 0] 29) := (show (w46.alloc (.cells #[.slice none 0 0, .slice none 0 0] 29)).heap[w46.heap.size]? = _ from alloc_heap _ _)
              clear bA0_46_c0 bA0_46_c1 bA0_46_c2 bA1_46_c0 bA1_46_c1
              clear bA0_46 bA1_46 bW_46 bG_46 oW_46 oWe_46 oG_46 oGe_46 oP0_46 hn47
              generalize (w46.alloc (.cells #[.slice none 0 0, .slice none 0 0] 29)) = w47 at *
              have bA0_47_c0 := cell_of_heap bA0_47 0
              have bA0_47_c1 := cell_of_heap bA0_47 1
              have bA0_47_c2 := cell_of_heap bA0_47 2
              have bA1_47_c0 := cell_of_heap bA1_47 0
              have bA1_47_c1 := cell_of_heap bA1_47 1
              refine hK.out _ _ ?_ (fun hHeld2 => ?_)
              · exact ⟨bA0_47_c0, bA0_47_c1, bA0_47_c2, bA1_47_c0, bA1_47_c1⟩
              clear hK K hHeld
              have hHeld := hHeld2
              clear hHeld2
              try simp only [Act.put, List.getElem_toArray, List.getElem_cons_zero, List.getElem_cons_succ, List.setIfInBounds_toArray, List.set_cons_zero, List.set_cons_succ]
              refine AnyK.step (i := 3) (by kernel_rfl) rfl (fun K hK => ?_)
              go_simp
              refine (ToO.toMemory _ 0 w.heap.size _ _ _ _ (ra1.new (Nat.le_refl _) N47) (rb1.new (Nat.le_refl _) N47) (by omega) (by omega) (by omega)).mono ?_
              rintro e w48 ⟨vP1a, vP1b, rfl, hn48, qP1⟩
              have z48 : w47.heap.size ≤ w48.heap.size := hn48.size
              have N48 : New w w48 := N47.trans hn48
              have bA0_48 := heap_new hn48 bA0_47
              have bA1_48 := heap_new hn48 bA1_47
              have bW_48 := heap_new hn48 bW_47
              have bG_48 := heap_new hn48 bG_47
              have bZ_48 := heap_new hn48 bZ_47
              have oW_48 := oW_47.new (by omega) hn48
              have oWe_48 := oWe_47.new (by omega) hn48
              have oG_48 := oG_47.new (by omega) hn48
              have oGe_48 := oGe_47.new (by omega) hn48
              have oP0_48 := oP0_47.new (by omega) hn48
              clear bA0_47_c0 bA0_47_c1 bA0_47_c2 bA1_47_c0 bA1_47_c1
              clear bA0_47 bA1_47 bW_47 bG_47 bZ_47 oW_47 oWe_47 oG_47 oGe_47 oP0_47 hn48
              have oP1_48 := qP1
              clear qP1
              have bA0_48_c0 := cell_of_heap bA0_48 0
              have bA0_48_c1 := cell_of_heap bA0_48 1
              have bA0_48_c2 := cell_of_heap bA0_48 2
              have bA1_48_c0 := cell_of_heap bA1_48 0
              have bA1_48_c1 := cell_of_heap bA1_48 1
              refine hK.out _ _ ?_ (fun hHeld2 => ?_)
              · exact ⟨bA0_48_c0, bA0_48_c1, bA0_48_c2, bA1_48_c0, bA1_48_c1⟩
              clear hK K hHeld
              have hHeld := hHeld2
              clear hHeld2
              try simp only [Act.put, List.getElem_toArray, List.getElem_cons_zero, List.getElem_cons_succ, List.setIfInBounds_toArray, List.set_cons_zero, List.set_cons_succ]
              refine AnyK.step (i := 4) (by kernel_rfl) rfl (fun K hK => ?_)
              go_simp
              refine ((RunM2.implA _ _ _ _ _ _ _ _ _ _ xa0 xb0 ya1 x0 yb1 oP0_48.toR.1 oP0_48.toR.2.1 oP0_48.toR.2.2 (by omega) oP1_48 (by omega) (by omega) (by omega) hrow.out ht.out hz.out hl.out)).mono ?_
              rintro e w49 ⟨vHa, vHb, vHe, pH, qH, rH, sH, rfl, hn49, xH, yH, hH1, hH2, hH3, hH4, hH5⟩
              have z49 : w48.heap.size ≤ w49.heap.size := hn49.size
              have N49 : New w w49 := N48.trans hn49
              have bA0_49 := heap_new hn49 bA0_48
              have bA1_49 := heap_new hn49 bA1_48
              have bW_49 := heap_new hn49 bW_48
              have bG_49 := heap_new hn49 bG_48
              have bZ_49 := heap_new hn49 bZ_48
              have oW_49 := oW_48.new (by omega) hn49
              have oWe_49 := oWe_48.new (by omega) hn49
              have oG_49 := oG_48.new (by omega) hn49
              have oGe_49 := oGe_48.new (by omega) hn49
              have oP0_49 := oP0_48.new (by omega) hn49
              have oP1_49 := oP1_48.new (by omega) hn49
              clear bA0_48_c0 bA0_48_c1 bA0_48_c2 bA1_48_c0 bA1_48_c1
              clear bA0_48 bA1_48 bW_48 bG_48 bZ_48 oW_48 oWe_48 oG_48 oGe_48 oP0_48 oP1_48 hn49
              have oH_49 := xH
              clear xH
              have oHe_49 := yH
              clear yH
              obtain ⟨⟨aHa, dHa, eHa⟩, aHb, dHb, eHb⟩ := oH_49.toR.lens
              subst eHa
              subst eHb
              have bA0_49_c0 := cell_of_heap bA0_49 0
              have bA0_49_c1 := cell_of_heap bA0_49 1
              have bA0_49_c2 := cell_of_heap bA0_49 2
              have bA1_49_c0 := cell_of_heap bA1_49 0
              have bA1_49_c1 := cell_of_heap bA1_49 1
              refine hK.out _ _ ?_ (fun hHeld2 => ?_)
              · exact ⟨bA0_49_c0, bA0_49_c1, bA0_49_c2, bA1_49_c0, bA1_49_c1⟩
              clear hK K hHeld
              have hHeld := hHeld2
              clear hHeld2
              try simp only [Act.put, List.getElem_toArray, List.getElem_cons_zero, List.getElem_cons_succ, List.setIfInBounds_toArray, List.set_cons_zero, List.set_cons_succ]
              refine AnyK.takeW (i := 5) (v := ?vq29) rfl (by kernel_rfl) (by kernel_rfl) (by kernel_rfl) (by kernel_rfl) (fun _ _ _ h => h) (Or.inl ⟨by kernel_rfl, ?yq29⟩) (by assumption) ?rq29
              case yq29 =>
                intro w hSw
                try dsimp only at hSw
                go_simp
                try with_reducible rfl
              try simp only [Act.put, List.getElem_toArray, List.getElem_cons_zero, List.getElem_cons_succ, List.setIfInBounds_toArray, List.set_cons_zero, List.set_cons_succ]
              refine AnyK.takeW (i := 6) (v := ?vq30) rfl (by kernel_rfl) (by kernel_rfl) (by kernel_rfl) (by kernel_rfl) (fun _ _ _ h => h) (Or.inl ⟨by kernel_rfl, ?yq30⟩) (by assumption) ?rq30
              case yq30 =>
                intro w hSw
                try dsimp only at hSw
                go_simp
                try with_reducible rfl
              try simp only [Act.put, List.getElem_toArray, List.getElem_cons_zero, List.getElem_cons_succ, List.setIfInBounds_toArray, List.set_cons_zero, List.set_cons_succ]
              refine AnyK.takeW (i := 7) (v := ?vq31) rfl (by kernel_rfl) (by kernel_rfl) (by kernel_rfl) (by kernel_rfl) (fun _ _ _ h => h) (Or.inl ⟨by kernel_rfl, ?yq31⟩) (by assumption) ?rq31
              case yq31 =>
                intro w hSw
                try dsimp only at hSw
                go_simp
                try with_reducible rfl
              try simp only [Act.put, List.getElem_toArray, List.getElem_cons_zero, List.getElem_cons_succ, List.setIfInBounds_toArray, List.set_cons_zero, List.set_cons_succ]
              refine AnyK.takeW (i := 8) (v := ?vq32) rfl (by kernel_rfl) (by kernel_rfl) (by kernel_rfl) (by kernel_rfl) (fun _ _ _ h => h) (Or.inl ⟨by kernel_rfl, ?yq32⟩) (by assumption) ?rq32
              case yq32 =>
                intro w hSw
                try dsimp only at hSw
                go_simp
                try with_reducible rfl
              try simp only [Act.put, List.getElem_toArray, List.getElem_cons_zero, List.getElem_cons_succ, List.setIfInBounds_toArray, List.set_cons_zero, List.set_cons_succ]
              refine AnyK.last (by kernel_rfl) ?_
              simp only [List.drop_succ_cons, List.drop_zero]
              clear hHeld
              have bZ_49_c0 := cell_of_heap bZ_49 0
              have bZ_49_c1 := cell_of_heap bZ_49 1
              have bZ_49_f := frozen_of_heap bZ_49
              go_wp2_with fail
              go_meet
              have hkz := setMany_kp (w46.heap.size) [.slice aHa z.v.length dHa, .slice aHb z.a.length dHb] w49 0
              have zs := setMany_size (w46.heap.size) [.slice aHa z.v.length dHa, .slice aHb z.a.length dHb] w49 0
              have hR := setMany_row [.slice aHa z.v.length dHa, .slice aHb z.a.length dHb] bZ_49 rfl
              have zb := heap_lt bZ_49
              have hMO := (oH_49.toR.kp hkz (by omega) (fun x e => by omega)).mono (lo' := w.heap.size) (hi' := (setMany w49 (w46.heap.size) 0 [.slice aHa z.v.length dHa, .slice aHb z.a.length dHb]).heap.size) (by omega) (by omega)
              have hEO := (oHe_49.reads.kp hkz (by omega) (fun x e => by omega)).mono (lo' := w.heap.size) (hi' := (setMany w49 (w46.heap.size) 0 [.slice aHa z.v.length dHa, .slice aHb z.a.length dHb]).heap.size) (by omega) (by omega)
              have hpz : w44.heap.size ≤ (setMany w49 (w46.heap.size) 0 [.slice aHa z.v.length dHa, .slice aHb z.a.length dHb]).heap.size := by omega
              exact ⟨w46.heap.size, _, _, _, _, _, rfl, rfl, rfl, New.one N49 hkz (by omega), hpz, by omega, zb2 zb zs, hR, hMO, hEO, setMany_other [.slice aHa z.v.length dHa, .slice aHb z.a.length dHb] 0 bA0_49 (by omega), setMany_other [.slice aHa z.v.length dHa, .slice aHb z.a.length dHb] 0 bA1_49 (by omega), setMany_other [.slice aHa z.v.length dHa, .slice aHb z.a.length dHb] 0 bW_49 (by omega), setMany_other [.slice aHa z.v.length dHa, .slice aHb z.a.length dHb] 0 bG_49 (by omega), oW_49.kp hkz (by omega) (fun x e => by omega), oWe_49.kp hkz (by omega) (fun x e => by omega), oG_49.kp hkz (fun x e => by omega), oGe_49.kp hkz (fun x e => by omega)⟩
          · go_simp
            have hn46 : New w44.drew (w44.alloc (.cells #[.slice none 0 0, .slice none 0 0] 29)).drew := (show New w44.drew (w44.drew.alloc (.cells #[.slice none 0 0, .slice none 0 0] 29)) from (Kp.refl _ _).alloc _)
            have z46 : w44.drew.heap.size < (w44.alloc (.cells #[.slice none 0 0, .slice none 0 0] 29)).drew.heap.size := (show w44.drew.heap.size < (w44.drew.alloc (.cells #[.slice none 0 0, .slice none 0 0] 29)).heap.size from Rec.lt_alloc _ _)
            have N46 := N45.trans hn46
            have bA0_46 := heap_new hn46 bA0_45
            have bA1_46 := heap_new hn46 bA1_45
            have bW_46 := heap_new hn46 bW_45
            have bG_46 := heap_new hn46 bG_45
            have oW_46 := oW_45.new (by omega) hn46
            have oWe_46 := oWe_45.new (by omega) hn46
            have oG_46 := oG_45.new (by omega) hn46
            have oGe_46 := oGe_45.new (by omega) hn46
            have bZ_46 : (w44.alloc (.cells #[.slice none 0 0, .slice none 0 0] 29)).drew.heap[w44.heap.size]? = some (.cells #[.slice none 0 0, .slice none 0 0] 29) := (show (w44.drew.alloc (.cells #[.slice none 0 0, .slice none 0 0] 29)).heap[w44.drew.heap.size]? = _ from alloc_heap _ _)
            clear bA0_45_c0 bA0_45_c1 bA0_45_c2 bA1_45_c0 bA1_45_c1
            clear bA0_45 bA1_45 bW_45 bG_45 oW_45 oWe_45 oG_45 oGe_45 hn46
            generalize (w44.alloc (.cells #[.slice none 0 0, .slice none 0 0] 29)).drew = w46 at *
            have bA0_46_c0 := cell_of_heap bA0_46 0
            have bA0_46_c1 := cell_of_heap bA0_46 1
            have bA0_46_c2 := cell_of_heap bA0_46 2
            have bA1_46_c0 := cell_of_heap bA1_46 0
            have bA1_46_c1 := cell_of_heap bA1_46 1
            refine hK.out _ _ ?_ (fun hHeld2 => ?_)
            · exact ⟨bA0_46_c0, bA0_46_c1, bA0_46_c2, bA1_46_c0, bA1_46_c1⟩
            clear hK K hHeld
            have hHeld := hHeld2
            clear hHeld2
            try simp only [Act.put, List.getElem_toArray, List.getElem_cons_zero, List.getElem_cons_succ, List.setIfInBounds_toArray, List.set_cons_zero, List.set_cons_succ]
            refine AnyK.step (i := 1) (by kernel_rfl) rfl (fun K hK => ?_)
            go_simp
            refine (ToO.toCode _ 0 w.heap.size _ _ _ _ _ _ (sa0.new (Nat.le_refl _) N46) (sb0.new (Nat.le_refl _) N46) (s0.new (Nat.le_refl _) N46) (by omega) (by omega) (by omega) (by omega)).mono ?_
            rintro e w47 ⟨vP0a, vP0b, vP0c, rfl, hn47, qP0⟩
            have z47 : w46.heap.size ≤ w47.heap.size := hn47.size
            have N47 : New w w47 := N46.trans hn47
            have bA0_47 := heap_new hn47 bA0_46
            have bA1_47 := heap_new hn47 bA1_46
            have bW_47 := heap_new hn47 bW_46
            have bG_47 := heap_new hn47 bG_46
            have bZ_47 := heap_new hn47 bZ_46
            have oW_47 := oW_46.new (by omega) hn47
            have oWe_47 := oWe_46.new (by omega) hn47
            have oG_47 := oG_46.new (by omega) hn47
            have oGe_47 := oGe_46.new (by omega) hn47
            clear bA0_46_c0 bA0_46_c1 bA0_46_c2 bA1_46_c0 bA1_46_c1
            clear bA0_46 bA1_46 bW_46 bG_46 bZ_46 oW_46 oWe_46 oG_46 oGe_46 hn47
            have oP0_47 := qP0
            clear qP0
            have bA0_47_c0 := cell_of_heap bA0_47 0
            have bA0_47_c1 := cell_of_heap bA0_47 1
            have bA0_47_c2 := cell_of_heap bA0_47 2
            have bA1_47_c0 := cell_of_heap bA1_47 0
            have bA1_47_c1 := cell_of_heap bA1_47 1
            refine hK.out _ _ ?_ (fun hHeld2 => ?_)
            · exact ⟨bA0_47_c0, bA0_47_c1, bA0_47_c2, bA1_47_c0, bA1_47_c1⟩
            clear hK K hHeld
            have hHeld := hHeld2
            clear hHeld2
            try simp only [Act.put, List.getElem_toArray, List.getElem_cons_zero, List.getElem_cons_succ, List.setIfInBounds_toArray, List.set_cons_zero, List.set_cons_succ]
            refine AnyK.step (i := 3) (by kernel_rfl) rfl (fun K hK => ?_)
            go_simp
            refine (ToO.toMemory _ 0 w.heap.size _ _ _ _ (ra1.new (Nat.le_refl _) N47) (rb1.new (Nat.le_refl _) N47) (by omega) (by omega) (by omega)).mono ?_
            rintro e w48 ⟨vP1a, vP1b, rfl, hn48, qP1⟩
            have z48 : w47.heap.size ≤ w48.heap.size := hn48.size
            have N48 : New w w48 := N47.trans hn48
            have bA0_48 := heap_new hn48 bA0_47
            have bA1_48 := heap_new hn48 bA1_47
            have bW_48 := heap_new hn48 bW_47
            have bG_48 := heap_new hn48 bG_47
            have bZ_48 := heap_new hn48 bZ_47
            have oW_48 := oW_47.new (by omega) hn48
            have oWe_48 := oWe_47.new (by omega) hn48
            have oG_48 := oG_47.new (by omega) hn48
            have oGe_48 := oGe_47.new (by omega) hn48
            have oP0_48 := oP0_47.new (by omega) hn48
            clear bA0_47_c0 bA0_47_c1 bA0_47_c2 bA1_47_c0 bA1_47_c1
            clear bA0_47 bA1_47 bW_47 bG_47 bZ_47 oW_47 oWe_47 oG_47 oGe_47 oP0_47 hn48
            have oP1_48 := qP1
            clear qP1
            have bA0_48_c0 := cell_of_heap bA0_48 0
            have bA0_48_c1 := cell_of_heap bA0_48 1
            have bA0_48_c2 := cell_of_heap bA0_48 2
            have bA1_48_c0 := cell_of_heap bA1_48 0
            have bA1_48_c1 := cell_of_heap bA1_48 1
            refine hK.out _ _ ?_ (fun hHeld2 => ?_)
            · exact ⟨bA0_48_c0, bA0_48_c1, bA0_48_c2, bA1_48_c0, bA1_48_c1⟩
            clear hK K hHeld
            have hHeld := hHeld2
            clear hHeld2
            try simp only [Act.put, List.getElem_toArray, List.getElem_cons_zero, List.getElem_cons_succ, List.setIfInBounds_toArray, List.set_cons_zero, List.set_cons_succ]
            refine AnyK.step (i := 4) (by kernel_rfl) rfl (fun K hK => ?_)
            go_simp
            refine ((RunM2.implA _ _ _ _ _ _ _ _ _ _ xa0 xb0 ya1 x0 yb1 oP0_48.toR.1 oP0_48.toR.2.1 oP0_48.toR.2.2 (by omega) oP1_48 (by omega) (by omega) (by omega) hrow.out ht.out hz.out hl.out)).mono ?_
            rintro e w49 ⟨vHa, vHb, vHe, pH, qH, rH, sH, rfl, hn49, xH, yH, hH1, hH2, hH3, hH4, hH5⟩
            have z49 : w48.heap.size ≤ w49.heap.size := hn49.size
            have N49 : New w w49 := N48.trans hn49
            have bA0_49 := heap_new hn49 bA0_48
            have bA1_49 := heap_new hn49 bA1_48
            have bW_49 := heap_new hn49 bW_48
            have bG_49 := heap_new hn49 bG_48
            have bZ_49 := heap_new hn49 bZ_48
            have oW_49 := oW_48.new (by omega) hn49
            have oWe_49 := oWe_48.new (by omega) hn49
            have oG_49 := oG_48.new (by omega) hn49
            have oGe_49 := oGe_48.new (by omega) hn49
            have oP0_49 := oP0_48.new (by omega) hn49
            have oP1_49 := oP1_48.new (by omega) hn49
            clear bA0_48_c0 bA0_48_c1 bA0_48_c2 bA1_48_c0 bA1_48_c1
            clear bA0_48 bA1_48 bW_48 bG_48 bZ_48 oW_48 oWe_48 oG_48 oGe_48 oP0_48 oP1_48 hn49
            have oH_49 := xH
            clear xH
            have oHe_49 := yH
            clear yH
            obtain ⟨⟨aHa, dHa, eHa⟩, aHb, dHb, eHb⟩ := oH_49.toR.lens
            subst eHa
            subst eHb
            have bA0_49_c0 := cell_of_heap bA0_49 0
            have bA0_49_c1 := cell_of_heap bA0_49 1
            have bA0_49_c2 := cell_of_heap bA0_49 2
            have bA1_49_c0 := cell_of_heap bA1_49 0
            have bA1_49_c1 := cell_of_heap bA1_49 1
            refine hK.out _ _ ?_ (fun hHeld2 => ?_)
            · exact ⟨bA0_49_c0, bA0_49_c1, bA0_49_c2, bA1_49_c0, bA1_49_c1⟩
            clear hK K hHeld
            have hHeld := hHeld2
            clear hHeld2
            try simp only [Act.put, List.getElem_toArray, List.getElem_cons_zero, List.getElem_cons_succ, List.setIfInBounds_toArray, List.set_cons_zero, List.set_cons_succ]
            refine AnyK.takeW (i := 5) (v := ?vq33) rfl (by kernel_rfl) (by kernel_rfl) (by kernel_rfl) (by kernel_rfl) (fun _ _ _ h => h) (Or.inl ⟨by kernel_rfl, ?yq33⟩) (by assumption) ?rq33
            case yq33 =>
              intro w hSw
              try dsimp only at hSw
              go_simp
              try with_reducible rfl
            try simp only [Act.put, List.getElem_toArray, List.getElem_cons_zero, List.getElem_cons_succ, List.setIfInBounds_toArray, List.set_cons_zero, List.set_cons_succ]
            refine AnyK.takeW (i := 6) (v := ?vq34) rfl (by kernel_rfl) (by kernel_rfl) (by kernel_rfl) (by kernel_rfl) (fun _ _ _ h => h) (Or.inl ⟨by kernel_rfl, ?yq34⟩) (by assumption) ?rq34
            case yq34 =>
              intro w hSw
              try dsimp only at hSw
              go_simp
              try with_reducible rfl
            try simp only [Act.put, List.getElem_toArray, List.getElem_cons_zero, List.getElem_cons_succ, List.setIfInBounds_toArray, List.set_cons_zero, List.set_cons_succ]
            refine AnyK.takeW (i := 7) (v := ?vq35) rfl (by kernel_rfl) (by kernel_rfl) (by kernel_rfl) (by kernel_rfl) (fun _ _ _ h => h) (Or.inl ⟨by kernel_rfl, ?yq35⟩) (by assumption) ?rq35
            case yq35 =>
              intro w hSw
              try dsimp only at hSw
              go_simp
              try with_reducible rfl
            try simp only [Act.put, List.getElem_toArray, List.getElem_cons_zero, List.getElem_cons_succ, List.setIfInBounds_toArray, List.set_cons_zero, List.set_cons_succ]
            refine AnyK.takeW (i := 8) (v := ?vq36) rfl (by kernel_rfl) (by kernel_rfl) (by kernel_rfl) (by kernel_rfl) (fun _ _ _ h => h) (Or.inl ⟨by kernel_rfl, ?yq36⟩) (by assumption) ?rq36
            case yq36 =>
              intro w hSw
              try dsimp only at hSw
              go_simp
              try with_reducible rfl
            try simp only [Act.put, List.getElem_toArray, List.getElem_cons_zero, List.getElem_cons_succ, List.setIfInBounds_toArray, List.set_cons_zero, List.set_cons_succ]
            refine AnyK.last (by kernel_rfl) ?_
            simp only [List.drop_succ_cons, List.drop_zero]
            clear hHeld
            have bZ_49_c0 := cell_of_heap bZ_49 0
            have bZ_49_c1 := cell_of_heap bZ_49 1
            have bZ_49_f := frozen_of_heap bZ_49
            go_wp2_with fail
            go_meet
            have hkz := setMany_kp (w44.heap.size) [.slice aHa z.v.length dHa, .slice aHb z.a.length dHb] w49 0
            have zs := setMany_size (w44.heap.size) [.slice aHa z.v.length dHa, .slice aHb z.a.length dHb] w49 0
            have hR := setMany_row [.slice aHa z.v.length dHa, .slice aHb z.a.length dHb] bZ_49 rfl
            have zb := heap_lt bZ_49
            have hMO := (oH_49.toR.kp hkz (by omega) (fun x e => by omega)).mono (lo' := w.heap.size) (hi' := (setMany w49 (w44.heap.size) 0 [.slice aHa z.v.length dHa, .slice aHb z.a.length dHb]).heap.size) (by omega) (by omega)
            have hEO := (oHe_49.reads.kp hkz (by omega) (fun x e => by omega)).mono (lo' := w.heap.size) (hi' := (setMany w49 (w44.heap.size) 0 [.slice aHa z.v.length dHa, .slice aHb z.a.length dHb]).heap.size) (by omega) (by omega)
            have hpz : w44.heap.size ≤ (setMany w49 (w44.heap.size) 0 [.slice aHa z.v.length dHa, .slice aHb z.a.length dHb]).heap.size := by omega
            exact ⟨w44.heap.size, _, _, _, _, _, rfl, rfl, rfl, New.one N49 hkz (by omega), hpz, by omega, zb2 zb zs, hR, hMO, hEO, setMany_other [.slice aHa z.v.length dHa, .slice aHb z.a.length dHb] 0 bA0_49 (by omega), setMany_other [.slice aHa z.v.length dHa, .slice aHb z.a.length dHb] 0 bA1_49 (by omega), setMany_other [.slice aHa z.v.length dHa, .slice aHb z.a.length dHb] 0 bW_49 (by omega), setMany_other [.slice aHa z.v.length dHa, .slice aHb z.a.length dHb] 0 bG_49 (by omega), oW_49.kp hkz (by omega) (fun x e => by omega), oWe_49.kp hkz (by omega) (fun x e => by omega), oG_49.kp hkz (fun x e => by omega), oGe_49.kp hkz (fun x e => by omega)⟩
        case rest =>
          clear bA0_44_c0 bA0_44_c1 bA0_44_c2 bA1_44_c0 bA1_44_c1 bW_44_c0 bW_44_c1 bG_44_c0 bG_44_c1
          clear bA0_44 bA1_44 bW_44 bG_44 oW_44 oWe_44 oG_44 oGe_44
          obtain ⟨bH, aHa, dHa, aHb, dHb, vHe, rfl, rfl, rfl, N64, hpH, hbH, zbH, bH_64, oH_64, oHe_64, bA0_64, bA1_64, bW_64, bG_64, oW_64, oWe_64, oG_64, oGe_64⟩ := hcut
          obtain ⟨wc35, hwc⟩ : ∃ x, x = wc := ⟨_, rfl⟩
          subst hwc
          have bA0_64_c0 := cell_of_heap bA0_64 0
          have bA0_64_c1 := cell_of_heap bA0_64 1
          have bA0_64_c2 := cell_of_heap bA0_64 2
          have bA1_64_c0 := cell_of_heap bA1_64 0
          have bA1_64_c1 := cell_of_heap bA1_64 1
          have bW_64_c0 := cell_of_heap bW_64 0
          have bW_64_c1 := cell_of_heap bW_64 1
          have bG_64_c0 := cell_of_heap bG_64 0
          have bG_64_c1 := cell_of_heap bG_64 1
          have bH_64_c0 := cell_of_heap bH_64 0
          have bH_64_c1 := cell_of_heap bH_64 1
          go_wp2_with fail
          refine (Rec.eqMemory oH_64 oW_64 (by omega) (by omega)).mono ?_
          rintro e w65 ⟨rfl, hn65⟩
          have z65 : wc35.heap.size ≤ w65.heap.size := hn65.size
          have N65 : New w w65 := N64.trans hn65
          have bA0_65 := heap_new hn65 bA0_64
          have bA1_65 := heap_new hn65 bA1_64
          have bW_65 := heap_new hn65 bW_64
          have bG_65 := heap_new hn65 bG_64
          have bH_65 := heap_new hn65 bH_64
          have oW_65 := oW_64.new (by omega) hn65
          have oWe_65 := oWe_64.new (by omega) hn65
          have oG_65 := oG_64.new (by omega) hn65
          have oGe_65 := oGe_64.new (by omega) hn65
          have oH_65 := oH_64.new (by omega) hn65
          have oHe_65 := oHe_64.new (by omega) hn65
          clear bA0_64_c0 bA0_64_c1 bA0_64_c2 bA1_64_c0 bA1_64_c1 bW_64_c0 bW_64_c1 bG_64_c0 bG_64_c1 bH_64_c0 bH_64_c1
          clear bA0_64 bA1_64 bW_64 bG_64 bH_64 oW_64 oWe_64 oG_64 oGe_64 oH_64 oHe_64 hn65
          have bA0_65_c0 := cell_of_heap bA0_65 0
          have bA0_65_c1 := cell_of_heap bA0_65 1
          have bA0_65_c2 := cell_of_heap bA0_65 2
          have bA1_65_c0 := cell_of_heap bA1_65 0
          have bA1_65_c1 := cell_of_heap bA1_65 1
          have bW_65_c0 := cell_of_heap bW_65 0
          have bW_65_c1 := cell_of_heap bW_65 1
          have bG_65_c0 := cell_of_heap bG_65 0
          have bG_65_c1 := cell_of_heap bG_65 1
          have bH_65_c0 := cell_of_heap bH_65 0
          have bH_65_c1 := cell_of_heap bH_65 1
          go_wp2_with fail
          refine (eqEv oHe_65 oWe_65 (by omega) (by omega)).mono ?_
          rintro e w66 ⟨rfl, hn66⟩
          have z66 : w65.heap.size ≤ w66.heap.size := hn66.size
          have N66 : New w w66 := N65.trans hn66
          have bA0_66 := heap_new hn66 bA0_65
          have bA1_66 := heap_new hn66 bA1_65
          have bW_66 := heap_new hn66 bW_65
          have bG_66 := heap_new hn66 bG_65
          have bH_66 := heap_new hn66 bH_65
          have oW_66 := oW_65.new (by omega) hn66
          have oWe_66 := oWe_65.new (by omega) hn66
          have oG_66 := oG_65.new (by omega) hn66
          have oGe_66 := oGe_65.new (by omega) hn66
          have oH_66 := oH_65.new (by omega) hn66
          have oHe_66 := oHe_65.new (by omega) hn66
          clear bA0_65_c0 bA0_65_c1 bA0_65_c2 bA1_65_c0 bA1_65_c1 bW_65_c0 bW_65_c1 bG_65_c0 bG_65_c1 bH_65_c0 bH_65_c1
          clear bA0_65 bA1_65 bW_65 bG_65 bH_65 oW_65 oWe_65 oG_65 oGe_65 oH_65 oHe_65 hn66
          have bA0_66_c0 := cell_of_heap bA0_66 0
          have bA0_66_c1 := cell_of_heap bA0_66 1
          have bA0_66_c2 := cell_of_heap bA0_66 2
          have bA1_66_c0 := cell_of_heap bA1_66 0
          have bA1_66_c1 := cell_of_heap bA1_66 1
          have bW_66_c0 := cell_of_heap bW_66 0
          have bW_66_c1 := cell_of_heap bW_66 1
          have bG_66_c0 := cell_of_heap bG_66 0
          have bG_66_c1 := cell_of_heap bG_66 1
          have bH_66_c0 := cell_of_heap bH_66 0
          have bH_66_c1 := cell_of_heap bH_66 1
          go_wp2_with fail
          refine (MarkC.heldMemory _ _ _ _ _ z.v.length z.a 1 oG_66.toR.1 oG_66.toR.2 (by omega) (by omega) (by omega) (by omega) (by omega)).mono ?_
          rintro e w67 ⟨rfl, hn67⟩
          have z67 : w66.heap.size ≤ w67.heap.size := hn67.size
          have N67 : New w w67 := N66.trans hn67
          have bA0_67 := heap_new hn67 bA0_66
          have bA1_67 := heap_new hn67 bA1_66
          have bW_67 := heap_new hn67 bW_66
          have bG_67 := heap_new hn67 bG_66
          have bH_67 := heap_new hn67 bH_66
          have oW_67 := oW_66.new (by omega) hn67
          have oWe_67 := oWe_66.new (by omega) hn67
          have oG_67 := oG_66.new (by omega) hn67
          have oGe_67 := oGe_66.new (by omega) hn67
          have oH_67 := oH_66.new (by omega) hn67
          have oHe_67 := oHe_66.new (by omega) hn67
          clear bA0_66_c0 bA0_66_c1 bA0_66_c2 bA1_66_c0 bA1_66_c1 bW_66_c0 bW_66_c1 bG_66_c0 bG_66_c1 bH_66_c0 bH_66_c1
          clear bA0_66 bA1_66 bW_66 bG_66 bH_66 oW_66 oWe_66 oG_66 oGe_66 oH_66 oHe_66 hn67
          rw [hm1.out]
          have bA0_67_c0 := cell_of_heap bA0_67 0
          have bA0_67_c1 := cell_of_heap bA0_67 1
          have bA0_67_c2 := cell_of_heap bA0_67 2
          have bA1_67_c0 := cell_of_heap bA1_67 0
          have bA1_67_c1 := cell_of_heap bA1_67 1
          have bW_67_c0 := cell_of_heap bW_67 0
          have bW_67_c1 := cell_of_heap bW_67 1
          have bG_67_c0 := cell_of_heap bG_67 0
          have bG_67_c1 := cell_of_heap bG_67 1
          have bH_67_c0 := cell_of_heap bH_67 0
          have bH_67_c1 := cell_of_heap bH_67 1
          go_wp2_with fail
          refine (heldEv zl.length m1 oGe_67.reads (by omega) (by omega) (by omega)).mono ?_
          rintro e w68 ⟨rfl, hn68⟩
          have z68 : w67.heap.size ≤ w68.heap.size := hn68.size
          have N68 : New w w68 := N67.trans hn68
          have bA0_68 := heap_new hn68 bA0_67
          have bA1_68 := heap_new hn68 bA1_67
          have bW_68 := heap_new hn68 bW_67
          have bG_68 := heap_new hn68 bG_67
          have bH_68 := heap_new hn68 bH_67
          have oW_68 := oW_67.new (by omega) hn68
          have oWe_68 := oWe_67.new (by omega) hn68
          have oG_68 := oG_67.new (by omega) hn68
          have oGe_68 := oGe_67.new (by omega) hn68
          have oH_68 := oH_67.new (by omega) hn68
          have oHe_68 := oHe_67.new (by omega) hn68
          clear bA0_67_c0 bA0_67_c1 bA0_67_c2 bA1_67_c0 bA1_67_c1 bW_67_c0 bW_67_c1 bG_67_c0 bG_67_c1 bH_67_c0 bH_67_c1
          clear bA0_67 bA1_67 bW_67 bG_67 bH_67 oW_67 oWe_67 oG_67 oGe_67 oH_67 oHe_67 hn68
          rw [hm2.out]
          have bA0_68_c0 := cell_of_heap bA0_68 0
          have bA0_68_c1 := cell_of_heap bA0_68 1
          have bA0_68_c2 := cell_of_heap bA0_68 2
          have bA1_68_c0 := cell_of_heap bA1_68 0
          have bA1_68_c1 := cell_of_heap bA1_68 1
          have bW_68_c0 := cell_of_heap bW_68 0
          have bW_68_c1 := cell_of_heap bW_68 1
          have bG_68_c0 := cell_of_heap bG_68 0
          have bG_68_c1 := cell_of_heap bG_68 1
          have bH_68_c0 := cell_of_heap bH_68 0
          have bH_68_c1 := cell_of_heap bH_68 1
          go_wp2
          go_ret
          exact ⟨rfl, N68.toBelow⟩
    · go_enter Try.func12, Try.ntmps12
      go_wp2_with fail
      have N0 : New w ((w.alloc (.cells #[ta0, tb0, tc0] 57)).alloc (.cells #[ma1, mb1] 58)) := (((Kp.refl _ _).alloc _).alloc _)
      have bA0_0 : ((w.alloc (.cells #[ta0, tb0, tc0] 57)).alloc (.cells #[ma1, mb1] 58)).heap[w.heap.size]? = some (.cells #[ta0, tb0, tc0] 57) := heap_old (alloc_heap _ _)
      have bA1_0 : ((w.alloc (.cells #[ta0, tb0, tc0] 57)).alloc (.cells #[ma1, mb1] 58)).heap[w.heap.size + 1]? = some (.cells #[ma1, mb1] 58) := heap_at (by simp)
      have z0 : w.heap.size + 1 < ((w.alloc (.cells #[ta0, tb0, tc0] 57)).alloc (.cells #[ma1, mb1] 58)).heap.size := by simp
      generalize ((w.alloc (.cells #[ta0, tb0, tc0] 57)).alloc (.cells #[ma1, mb1] 58)) = w0 at *
      have bA0_0_c0 := cell_of_heap bA0_0 0
      have bA0_0_c1 := cell_of_heap bA0_0 1
      have bA0_0_c2 := cell_of_heap bA0_0 2
      have bA1_0_c0 := cell_of_heap bA1_0 0
      have bA1_0_c1 := cell_of_heap bA1_0 1
      refine (CodeF.szCode _ 0 w.heap.size _ _ _ _ _ _ (sa0.new (Nat.le_refl _) N0) (sb0.new (Nat.le_refl _) N0) (s0.new (Nat.le_refl _) N0) (1048576) (by omega) (by omega)).mono ?_
      rintro e w1 ⟨rfl, hn1⟩
      have z1 : w0.heap.size ≤ w1.heap.size := hn1.size
      have N1 : New w w1 := N0.trans hn1
      have bA0_1 := heap_new hn1 bA0_0
      have bA1_1 := heap_new hn1 bA1_0
      clear bA0_0_c0 bA0_0_c1 bA0_0_c2 bA1_0_c0 bA1_0_c1
      clear bA0_0 bA1_0 hn1
      rw [szOf_hi (by omega)]
      have bA0_1_c0 := cell_of_heap bA0_1 0
      have bA0_1_c1 := cell_of_heap bA0_1 1
      have bA0_1_c2 := cell_of_heap bA0_1 2
      have bA1_1_c0 := cell_of_heap bA1_1 0
      have bA1_1_c1 := cell_of_heap bA1_1 1
      go_wp2_with fail
      refine (MemF.szMemory _ 0 w.heap.size _ _ _ _ (ra1.new (Nat.le_refl _) N1) (rb1.new (Nat.le_refl _) N1) (1048576 - ((xa0.length + xb0.length + x0.length) : Nat)) (by omega) (by omega) (by omega)).mono ?_
      rintro e w2 ⟨rfl, hn2⟩
      have z2 : w1.heap.size ≤ w2.heap.size := hn2.size
      have N2 : New w w2 := N1.trans hn2
      have bA0_2 := heap_new hn2 bA0_1
      have bA1_2 := heap_new hn2 bA1_1
      clear bA0_1_c0 bA0_1_c1 bA0_1_c2 bA1_1_c0 bA1_1_c1
      clear bA0_1 bA1_1 hn2
      rw [szOf_lo (by omega)]
      have bA0_2_c0 := cell_of_heap bA0_2 0
      have bA0_2_c1 := cell_of_heap bA0_2 1
      have bA0_2_c2 := cell_of_heap bA0_2 2
      have bA1_2_c0 := cell_of_heap bA1_2 0
      have bA1_2_c1 := cell_of_heap bA1_2 1
      go_wp2
      go_ret
      exact ⟨rfl, N2.toBelow⟩
  · go_enter Try.func12, Try.ntmps12
    go_wp2_with fail
    have N0 : New w ((w.alloc (.cells #[ta0, tb0, tc0] 57)).alloc (.cells #[ma1, mb1] 58)) := (((Kp.refl _ _).alloc _).alloc _)
    have bA0_0 : ((w.alloc (.cells #[ta0, tb0, tc0] 57)).alloc (.cells #[ma1, mb1] 58)).heap[w.heap.size]? = some (.cells #[ta0, tb0, tc0] 57) := heap_old (alloc_heap _ _)
    have bA1_0 : ((w.alloc (.cells #[ta0, tb0, tc0] 57)).alloc (.cells #[ma1, mb1] 58)).heap[w.heap.size + 1]? = some (.cells #[ma1, mb1] 58) := heap_at (by simp)
    have z0 : w.heap.size + 1 < ((w.alloc (.cells #[ta0, tb0, tc0] 57)).alloc (.cells #[ma1, mb1] 58)).heap.size := by simp
    generalize ((w.alloc (.cells #[ta0, tb0, tc0] 57)).alloc (.cells #[ma1, mb1] 58)) = w0 at *
    have bA0_0_c0 := cell_of_heap bA0_0 0
    have bA0_0_c1 := cell_of_heap bA0_0 1
    have bA0_0_c2 := cell_of_heap bA0_0 2
    have bA1_0_c0 := cell_of_heap bA1_0 0
    have bA1_0_c1 := cell_of_heap bA1_0 1
    refine (CodeF.szCode _ 0 w.heap.size _ _ _ _ _ _ (sa0.new (Nat.le_refl _) N0) (sb0.new (Nat.le_refl _) N0) (s0.new (Nat.le_refl _) N0) (1048576) (by omega) (by omega)).mono ?_
    rintro e w1 ⟨rfl, hn1⟩
    have z1 : w0.heap.size ≤ w1.heap.size := hn1.size
    have N1 : New w w1 := N0.trans hn1
    have bA0_1 := heap_new hn1 bA0_0
    have bA1_1 := heap_new hn1 bA1_0
    clear bA0_0_c0 bA0_0_c1 bA0_0_c2 bA1_0_c0 bA1_0_c1
    clear bA0_0 bA1_0 hn1
    rw [szOf_lo (by omega)]
    have bA0_1_c0 := cell_of_heap bA0_1 0
    have bA0_1_c1 := cell_of_heap bA0_1 1
    have bA0_1_c2 := cell_of_heap bA0_1 2
    have bA1_1_c0 := cell_of_heap bA1_1 0
    have bA1_1_c1 := cell_of_heap bA1_1 1
    go_wp2
    go_ret
    exact ⟨rfl, N1.toBelow⟩
end Go.Proofs.Ytljokgoghphgdaa.fnExactRunCode
