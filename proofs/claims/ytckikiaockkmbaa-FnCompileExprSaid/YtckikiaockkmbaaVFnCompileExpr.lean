/- FnCompileExpr: for every input the law returns true, and the arguments read as they did. No conditions. -/
import Derived.Test.YtckikiaockkmbaaRows
import Derived.Test.YtckikiaockkmbaaVDrawZ
import Derived.Test.YtckikiaockkmbaaVCmpK
import Derived.Test.YtckikiaockkmbaaVCmpN
import Derived.Test.YtckikiaockkmbaaVLawC
import Derived.Test.YtckikiaockkmbaaVLawT
import Derived.Test.YtckikiaockkmbaaVP1
import Derived.WalkKit
import Derived.ProofKit
import Derived.OpenShut
import Derived.ShutString
import Derived.ChangeOld
import Derived.Below
namespace Go.Proofs.Ytckikiaockkmbaa.fnCompileExpr
open Go.ChangeShapes Go.WideShapes Go.ChangeAt Go.RowKit Kit MarkC
open Go.ChangeMaps (open_string shut_string)
set_option linter.unusedVariables false
theorem own : ownKnob Try.prog.godebug = none := by kernel_rfl
theorem laidOut : laidOutB Try.prog = true := by kernel_rfl
set_option maxHeartbeats 8000000 in
set_option maxRecDepth 100000 in
theorem walk (a0 : Option Addr) (l0 c0 : Nat) (w : World) (s0 : Kit.Src w a0 l0 c0) :
    Calls Try.prog 7 #[.slice a0 l0 c0] w fun e w' => e = .returned (.bool true) ∧ Below w.heap.size w w' := by
  by_cases hl : 1048576 < l0
  · go_enter Try.func7, Try.ntmps7
    go_wp2
    go_ret
    exact ⟨rfl, Below.refl _ _⟩
  · go_enter Try.func7, Try.ntmps7
    go_wp2_with fail
    refine (DrawZ.drawCompileExpr _ a0 l0 c0 s0).mono ?_
    rintro e w1 ⟨va, vb, vc, ya, yb, m, k, v, s, ks, rfl, N1, hA, hB, hC, hK, hl2, hk2⟩
    obtain ⟨e1, f1, rfl, _⟩ := hA.len
    obtain ⟨e2, f2, rfl, _⟩ := hB.len
    obtain ⟨e3, f3, rfl, _⟩ := hC.len
    obtain ⟨e4, f4, rfl, _⟩ := hK.len
    have oA_1 := Lib.hid hA
    have oB_1 := Lib.hid hB
    have oC_1 := Lib.hid hC
    have oK_1 := Lib.hid hK
    clear hA hB hC hK
    have zw := N1.size
    have hn2 : New w1 ((w1.alloc (.cells #[.slice e1 ya.length f1, .slice e2 yb.length f2, .slice e3 m.length f3] 37)).alloc (.cells #[.int .i64 k, .int .i64 v, .slice e4 ks.length f4] 58)) := ((Kp.refl _ _).alloc _).alloc _
    have bA_2 : ((w1.alloc (.cells #[.slice e1 ya.length f1, .slice e2 yb.length f2, .slice e3 m.length f3] 37)).alloc (.cells #[.int .i64 k, .int .i64 v, .slice e4 ks.length f4] 58)).heap[w1.heap.size]? = some (.cells #[.slice e1 ya.length f1, .slice e2 yb.length f2, .slice e3 m.length f3] 37) := heap_old (alloc_heap _ _)
    have bB_2 : ((w1.alloc (.cells #[.slice e1 ya.length f1, .slice e2 yb.length f2, .slice e3 m.length f3] 37)).alloc (.cells #[.int .i64 k, .int .i64 v, .slice e4 ks.length f4] 58)).heap[w1.heap.size + 1]? = some (.cells #[.int .i64 k, .int .i64 v, .slice e4 ks.length f4] 58) := heap_at (by simp)
    have y2 : w1.heap.size + 1 < ((w1.alloc (.cells #[.slice e1 ya.length f1, .slice e2 yb.length f2, .slice e3 m.length f3] 37)).alloc (.cells #[.int .i64 k, .int .i64 v, .slice e4 ks.length f4] 58)).heap.size := by simp
    go_upto_region 4 with fail
    generalize ((w1.alloc (.cells #[.slice e1 ya.length f1, .slice e2 yb.length f2, .slice e3 m.length f3] 37)).alloc (.cells #[.int .i64 k, .int .i64 v, .slice e4 ks.length f4] 58)) = w2 at *
    have z2 := hn2.size
    have oA_2 := Lib.hid (oA_1.out.new (by omega) hn2)
    have oB_2 := Lib.hid (oB_1.out.new (by omega) hn2)
    have oC_2 := Lib.hid (oC_1.out.new (by omega) hn2)
    have oK_2 := Lib.hid (oK_1.out.new (by omega) hn2)
    have N2 : New w w2 := N1.trans hn2
    clear oA_1 oB_1 oC_1 oK_1 N1 hn2
    cases ht : Val.exprB ya yb (.node k v ks)
    · have hfh := Lib.hid ht
      clear ht
      obtain ⟨cA0, cA1, cA2⟩ := cells3 bA_2
      have lA := heap_lt bA_2
      obtain ⟨cB0, cB1, cB2⟩ := cells3 bB_2
      have lB := heap_lt bB_2
      go_wp2_with fail
      clear cA0 cA1 cA2 lA cB0 cB1 cB2 lB
      refine (CmpK.implX (xa := ya) (xb := yb) (k := k) (v := v) (ks := ks) oA_2.out oB_2.out ⟨_, _, _, rfl⟩ oK_2.out (by omega) (by omega) (by omega)).mono ?_
      rintro e w3 ⟨uX, rfl, hn3, hUX⟩
      rw [hfh.out]
      rw [hfh.out] at hUX
      have z3 := hn3.size
      have bA_3 := hn3.bk bA_2
      have bB_3 := hn3.bk bB_2
      have oA_3 := Lib.hid (oA_2.out.new (by omega) hn3)
      have oB_3 := Lib.hid (oB_2.out.new (by omega) hn3)
      have oC_3 := Lib.hid (oC_2.out.new (by omega) hn3)
      have oK_3 := Lib.hid (oK_2.out.new (by omega) hn3)
      have N3 : New w w3 := N2.trans hn3
      clear bA_2 bB_2 oA_2 oB_2 oC_2 oK_2 N2 hn3
      replace hUX := hUX.reads
      simp only [Bool.false_eq_true, if_false] at hUX
      obtain ⟨aX, dX, rfl, _⟩ := hUX.len
      have oX_3 := Lib.hid hUX
      clear hUX
      obtain ⟨cA0, cA1, cA2⟩ := cells3 bA_3
      have lA := heap_lt bA_3
      obtain ⟨cB0, cB1, cB2⟩ := cells3 bB_3
      have lB := heap_lt bB_3
      go_wp2_with fail
      clear cA0 cA1 cA2 lA cB0 cB1 cB2 lB
      refine (CmpX.specX (xa := ya) (xb := yb) (k := k) (v := v) (ks := ks) oA_3.out oB_3.out ⟨_, _, _, rfl⟩ oK_3.out (by omega) (by omega) (by omega)).mono ?_
      rintro e w4 ⟨uY, rfl, hn4, hUY⟩
      rw [hfh.out]
      rw [hfh.out] at hUY
      have z4 := hn4.size
      have bA_4 := hn4.bk bA_3
      have bB_4 := hn4.bk bB_3
      have oA_4 := Lib.hid (oA_3.out.new (by omega) hn4)
      have oB_4 := Lib.hid (oB_3.out.new (by omega) hn4)
      have oC_4 := Lib.hid (oC_3.out.new (by omega) hn4)
      have oK_4 := Lib.hid (oK_3.out.new (by omega) hn4)
      have oX_4 := Lib.hid (oX_3.out.new (by omega) hn4)
      have N4 : New w w4 := N3.trans hn4
      clear bA_3 bB_3 oA_3 oB_3 oC_3 oK_3 oX_3 N3 hn4
      replace hUY := hUY.reads
      simp only [Bool.false_eq_true, if_false] at hUY
      obtain ⟨aY, dY, rfl, _⟩ := hUY.len
      have oY_4 := Lib.hid hUY
      clear hUY
      obtain ⟨cA0, cA1, cA2⟩ := cells3 bA_4
      have lA := heap_lt bA_4
      obtain ⟨cB0, cB1, cB2⟩ := cells3 bB_4
      have lB := heap_lt bB_4
      go_wp2
      go_ret
      exact ⟨rfl, N4.toBelow⟩
    · have hyl : ya.length ≤ 12 ∧ yb.length ≤ 2 := by have := ht; simp only [Val.exprB, Val.declB, Bool.and_eq_true, decide_eq_true_eq] at this; omega
      have hylh := Lib.hid hyl
      clear hyl
      have hth := Lib.hid ht
      have hf1 := Lib.hid (LawC.fine_one ht)
      obtain ⟨X, hX⟩ : ∃ X, CmpP.cex (.node k v ks) 0 = X := ⟨_, rfl⟩
      have hXh := Lib.hid hX
      have hXl := CmpP.cex_len (.node k v ks) 0
      rw [hX] at hXl
      have hXs : X.length ≤ 1001 := by simp only [Ex.size] at hXl; omega
      clear ht hX hXl
      obtain ⟨cA0, cA1, cA2⟩ := cells3 bA_2
      have lA := heap_lt bA_2
      obtain ⟨cB0, cB1, cB2⟩ := cells3 bB_2
      have lB := heap_lt bB_2
      go_wp2_with fail
      clear cA0 cA1 cA2 lA cB0 cB1 cB2 lB
      refine (CmpK.implX (xa := ya) (xb := yb) (k := k) (v := v) (ks := ks) oA_2.out oB_2.out ⟨_, _, _, rfl⟩ oK_2.out (by omega) (by omega) (by omega)).mono ?_
      rintro e w3 ⟨uX, rfl, hn3, hUX⟩
      rw [hth.out]
      rw [hth.out] at hUX
      have z3 := hn3.size
      have bA_3 := hn3.bk bA_2
      have bB_3 := hn3.bk bB_2
      have oA_3 := Lib.hid (oA_2.out.new (by omega) hn3)
      have oB_3 := Lib.hid (oB_2.out.new (by omega) hn3)
      have oC_3 := Lib.hid (oC_2.out.new (by omega) hn3)
      have oK_3 := Lib.hid (oK_2.out.new (by omega) hn3)
      have N3 : New w w3 := N2.trans hn3
      clear bA_2 bB_2 oA_2 oB_2 oC_2 oK_2 N2 hn3
      replace hUX := hUX.reads
      simp only [if_true] at hUX
      rw [hXh.out] at hUX
      obtain ⟨aX, dX, rfl, _⟩ := hUX.len
      have oX_3 := Lib.hid hUX
      clear hUX
      obtain ⟨cA0, cA1, cA2⟩ := cells3 bA_3
      have lA := heap_lt bA_3
      obtain ⟨cB0, cB1, cB2⟩ := cells3 bB_3
      have lB := heap_lt bB_3
      go_wp2_with fail
      clear cA0 cA1 cA2 lA cB0 cB1 cB2 lB
      refine (CmpX.specX (xa := ya) (xb := yb) (k := k) (v := v) (ks := ks) oA_3.out oB_3.out ⟨_, _, _, rfl⟩ oK_3.out (by omega) (by omega) (by omega)).mono ?_
      rintro e w4 ⟨uY, rfl, hn4, hUY⟩
      rw [hth.out]
      rw [hth.out] at hUY
      have z4 := hn4.size
      have bA_4 := hn4.bk bA_3
      have bB_4 := hn4.bk bB_3
      have oA_4 := Lib.hid (oA_3.out.new (by omega) hn4)
      have oB_4 := Lib.hid (oB_3.out.new (by omega) hn4)
      have oC_4 := Lib.hid (oC_3.out.new (by omega) hn4)
      have oK_4 := Lib.hid (oK_3.out.new (by omega) hn4)
      have oX_4 := Lib.hid (oX_3.out.new (by omega) hn4)
      have N4 : New w w4 := N3.trans hn4
      clear bA_3 bB_3 oA_3 oB_3 oC_3 oK_3 oX_3 N3 hn4
      replace hUY := hUY.reads
      simp only [if_true] at hUY
      rw [hXh.out] at hUY
      obtain ⟨aY, dY, rfl, _⟩ := hUY.len
      have oY_4 := Lib.hid hUY
      clear hUY
      obtain ⟨cA0, cA1, cA2⟩ := cells3 bA_4
      have lA := heap_lt bA_4
      obtain ⟨cB0, cB1, cB2⟩ := cells3 bB_4
      have lB := heap_lt bB_4
      have hne : (X.length != X.length) = false := by simp
      have hS := Lib.hid (LawC.one_stmt (k := k) (v := v) ((oK_4.out).mono (hi' := w4.heap.size) (Nat.le_refl _) (by omega)) (by omega) 74)
      have kS : New w4 (w4.alloc (.cells #[.int .i64 1, .int .i64 0, .int .i64 0, .int .i64 0, .slice none 0 0, .int .i64 k, .int .i64 v, .slice e4 ks.length f4, .int .i64 0, .slice none 0 0, .slice none 0 0] 74)) := (Kp.refl _ _).alloc _
      have zS : (w4.alloc (.cells #[.int .i64 1, .int .i64 0, .int .i64 0, .int .i64 0, .slice none 0 0, .int .i64 k, .int .i64 v, .slice e4 ks.length f4, .int .i64 0, .slice none 0 0, .slice none 0 0] 74)).heap.size = w4.heap.size + 1 := by simp
      have sA := Lib.hid ((oA_4.out.new (by omega) kS).mono (lo' := w.heap.size) (hi' := (w4.alloc (.cells #[.int .i64 1, .int .i64 0, .int .i64 0, .int .i64 0, .slice none 0 0, .int .i64 k, .int .i64 v, .slice e4 ks.length f4, .int .i64 0, .slice none 0 0, .slice none 0 0] 74)).heap.size) (Nat.le_refl _) (by omega))
      have sB := Lib.hid ((oB_4.out.new (by omega) kS).mono (lo' := w.heap.size) (hi' := (w4.alloc (.cells #[.int .i64 1, .int .i64 0, .int .i64 0, .int .i64 0, .slice none 0 0, .int .i64 k, .int .i64 v, .slice e4 ks.length f4, .int .i64 0, .slice none 0 0, .slice none 0 0] 74)).heap.size) (Nat.le_refl _) (by omega))
      rw [← zS] at hS
      go_wp2_with fail
      clear zS hne
      clear cA0 cA1 cA2 lA cB0 cB1 cB2 lB
      have hz8 : w4.heap.size ≤ (w4.alloc (.cells #[.int .i64 1, .int .i64 0, .int .i64 0, .int .i64 0, .slice none 0 0, .int .i64 k, .int .i64 v, .slice e4 ks.length f4, .int .i64 0, .slice none 0 0, .slice none 0 0] 74)).heap.size := kS.size
      refine (CmpN.implC (xa := ya) (xb := yb) (l := [LawC.stA k v ks]) sA.out sB.out hS.out (Nat.le_refl _) (by have := hylh.out; omega) (by have := hylh.out; omega)).mono ?_
      rintro e w5 ⟨va3, vb3, vl3, rfl, hnn, hP, hQ, hL⟩
      rw [hf1.out]
      rw [hf1.out] at hP hQ hL
      simp only [if_true] at hP hQ hL
      have hn5 := kS.trans hnn
      have hmono : w4.heap.size ≤ (w4.alloc (.cells #[.int .i64 1, .int .i64 0, .int .i64 0, .int .i64 0, .slice none 0 0, .int .i64 k, .int .i64 v, .slice e4 ks.length f4, .int .i64 0, .slice none 0 0, .slice none 0 0] 74)).heap.size := hz8
      replace hL := hL.mono (lo' := 0) (Nat.zero_le _) (Nat.le_refl _)
      clear kS sA sB hS hnn
      have z5 := hn5.size
      have bA_5 := hn5.bk bA_4
      have bB_5 := hn5.bk bB_4
      have oA_5 := Lib.hid (oA_4.out.new (by omega) hn5)
      have oB_5 := Lib.hid (oB_4.out.new (by omega) hn5)
      have oC_5 := Lib.hid (oC_4.out.new (by omega) hn5)
      have oK_5 := Lib.hid (oK_4.out.new (by omega) hn5)
      have oX_5 := Lib.hid (oX_4.out.new (by omega) hn5)
      have oY_5 := Lib.hid (oY_4.out.new (by omega) hn5)
      have N5 : New w w5 := N4.trans hn5
      clear bA_4 bB_4 oA_4 oB_4 oC_4 oK_4 oX_4 oY_4 N4 hn5
      obtain ⟨a6, d6, rfl, _⟩ := hP.len
      obtain ⟨a7, d7, rfl, _⟩ := hQ.len
      obtain ⟨a8, d8, hv8, _⟩ := hL.len
      have hlen : (CmpP.csts [LawC.stA k v ks] 0 0 ++ [CmpP.halt]).length = X.length + 2 := by rw [LawC.csts_one, hXh.out]; simp
      rw [hlen] at hv8
      subst hv8
      have hlenh := Lib.hid hlen
      clear hP hQ hlen hz8 hmono
      have oL_5 := Lib.hid hL
      clear hL
      obtain ⟨cA0, cA1, cA2⟩ := cells3 bA_5
      have lA := heap_lt bA_5
      obtain ⟨cB0, cB1, cB2⟩ := cells3 bB_5
      have lB := heap_lt bB_5
      obtain ⟨hn6, y6, bD_6⟩ := newb w5 (.cells #[.slice a6 ya.length d6, .slice a7 yb.length d7, .slice a8 (X.length + 2) d8] 70)
      go_upto_region 9 with fail
      generalize hbD : w5.heap.size = bD at bD_6 y6 ⊢
      generalize (w5.alloc (.cells #[.slice a6 ya.length d6, .slice a7 yb.length d7, .slice a8 (X.length + 2) d8] 70)) = w6 at *
      have z6 := hn6.size
      have bA_6 := hn6.bk bA_5
      have bB_6 := hn6.bk bB_5
      have oA_6 := Lib.hid (oA_5.out.new (by omega) hn6)
      have oB_6 := Lib.hid (oB_5.out.new (by omega) hn6)
      have oC_6 := Lib.hid (oC_5.out.new (by omega) hn6)
      have oK_6 := Lib.hid (oK_5.out.new (by omega) hn6)
      have oX_6 := Lib.hid (oX_5.out.new (by omega) hn6)
      have oY_6 := Lib.hid (oY_5.out.new (by omega) hn6)
      have oL_6 := Lib.hid (oL_5.out.new (by omega) hn6)
      have N6 : New w w6 := N5.trans hn6
      clear cA0 cA1 cA2 lA cB0 cB1 cB2 lB
      clear bA_5 bB_5 oA_5 oB_5 oC_5 oK_5 oX_5 oY_5 oL_5 N5 hn6
      obtain ⟨cD0, cD1, cD2⟩ := cells3 bD_6
      have lD := heap_lt bD_6
      obtain ⟨cA0, cA1, cA2⟩ := cells3 bA_6
      have lA := heap_lt bA_6
      have hne : (((X.length : Int) + 2) != ((X.length : Int) + 2)) = false := by simp
      go_upto_region 12 with fail
      clear hne
      clear cD0 cD1 cD2 lD cA0 cA1 cA2 lA
      go_loopw [11] (fun i wr => ∃ j : Nat, j ≤ X.length ∧ i = .int .i64 j ∧ ∃ q, wr = w6.drewN q) (fun i _ => X.length - (intOf i).toNat)
      case atStart => exact ⟨0, Nat.zero_le _, rfl, 0, rfl⟩
      case round =>
        obtain ⟨j, hj, rfl, kd, rfl⟩ := hrel
        by_cases hlt : j < X.length
        · have ltL : j < (CmpP.csts [LawC.stA k v ks] 0 0 ++ [CmpP.halt]).length := by have := hlenh.out; omega
          have hlt2 : j < X.length + 2 := by omega
          have ltL : j < (CmpP.csts [LawC.stA k v ks] 0 0 ++ [CmpP.halt]).length := by have := hlenh.out; omega
          have hget : (CmpP.csts [LawC.stA k v ks] 0 0 ++ [CmpP.halt])[j] = X[j] := by
            have hx := hXh.out
            subst hx
            exact LawC.get_one hlt ltL
          obtain ⟨g0, p0, x0, -, -, c00, c01, c02, c03, c04⟩ := InssR.at oX_6.out j hlt
          obtain ⟨g1, p1, x1, -, -, c10, c11, c12, c13, c14⟩ := InssR.at oY_6.out j hlt
          obtain ⟨g2, p2, x2, -, -, c20, c21, c22, c23, c24⟩ := InssR.at oL_6.out j ltL
          cases x0
          cases x1
          cases x2
          rw [hget] at c20 c21 c22 c23 c24
          clear hget ltL
          generalize X[j] = x at *
          obtain ⟨cD0, cD1, cD2⟩ := cells3 bD_6
          have lD := heap_lt bD_6
          go_wp2_with fail
          go_quiet (fail)
          go_wp2
          go_roundw
          case rel => exact ⟨j + 1, by omega, by go_num, _, by first | rfl | exact World.drewN_drewN _ _ _⟩
          case measure => simp [intOf]; omega
        · have hge : X.length ≤ j := by omega
          clear hlt
          have hn7 : New w6 (w6.drewN kd) := drewN_kp _ kd (Kp.refl _ _)
          go_wp2
          go_ret
          exact ⟨rfl, (N6.trans hn7).toBelow⟩
set_option maxRecDepth 100000 in
theorem lifted (os : Os) (started : os.Started) (H : Type) (enc : TypeId × Value → H) :
    ReturnsInHanded {} Try.checked os 7 .any (Rows.fnCompileExprSpec.pre6 enc Try.prog Try.f7 Rows.fnCompileExprRow.domain false) (Rows.fnCompileExprSpec.post enc Try.prog Try.f7 false true false false) := by
  refine returnsInHanded_of_change (C := Try.checked) own started (by kernel_rfl) Try.func7
    (ChangeSpec.witness6 (enc := enc) (C := Try.checked) false ⟨#[], #[.slice none 0 0], []⟩ 8 (by kernel_rfl) (by kernel_rfl) (by kernel_rfl) (by kernel_rfl)) ?_
  intro W base args ds gs before hval0 hW hcnd _
  have hval : ∀ (j : Nat) t v, Try.f7.params[j]? = some t → args[j]? = some v → Value.okWide Try.prog W .any base t v := hval0
  have hW' := hW
  obtain ⟨p, q, hA0, hV, rfl, hfz, hnd⟩ := hW
  have hA : DataW.TrodAll enc Try.prog W 0 (fun _ => true) true Try.f7.params.toList args.toList ds p := hA0
  rw [Try.params7] at hA hval
  obtain ⟨v0, vs0, d0, ds0, p0, q0, hargs, rfl, rfl, h0, r0⟩ := trodAll_cons hA
  obtain ⟨rfl, rfl, rfl⟩ := trodAll_nil r0
  obtain rfl : args = #[v0] := by cases args; simp_all
  obtain ⟨rfl, rfl⟩ := trodVars_none hV
  have kk0 := h0
  have lt0 : ∀ x ∈ p0, x.block < W.heap.size := by obtain ⟨m, hm⟩ := kk0; exact DataW.trod_lt m _ _ _ hm
  obtain ⟨a0, l0, c0, rfl, s0⟩ := Kit.open_bytes Try.underlying22 Try.underlying5 (by kernel_rfl) (hval 0 22 v0 rfl rfl) h0
  clear hA0 hval0
  refine (walk a0 l0 c0 W s0).mono fun e W' ⟨he, bel⟩ => ?_
  subst he
  exact ⟨_, rfl, _, _, _, [], _, [], hW', trodAll_mk1 (shut_bool Try.underlying4 _), (trodAll_cons_mk (Below.trod laidOut (by kernel_rfl) (of_decide_eq_true (by kernel_rfl)) kk0 bel lt0) trodAll_mk0), rfl, bel.frame _, fun h => by cases h⟩
theorem over : Rows.fnCompileExprRow.holds Try.pinned (OpenSpec.ofChange Rows.fnCompileExprSpec) :=
  OpenClaim.holds_of_wide 7 Try.f7 rfl rfl rfl rfl rfl rfl rfl ⟨rfl, rfl, rfl, rfl, rfl⟩ rfl rfl rfl rfl rfl (by kernel_rfl) Try.func7 (by kernel_rfl)
    (of_decide_eq_true (by kernel_rfl)) (by unfold Func.isWrapper; first | (rw [if_pos (by decide +kernel)]; kernel_rfl) | (rw [if_neg (by decide +kernel)]; exact ⟨rfl, rfl⟩))
    (fun os started H enc _ => lifted os started H enc)
theorem proved : Rows.FnCompileExprSaid := over
#print axioms proved
end Go.Proofs.Ytckikiaockkmbaa.fnCompileExpr
