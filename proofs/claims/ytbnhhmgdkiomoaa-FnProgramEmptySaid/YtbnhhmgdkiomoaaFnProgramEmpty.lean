/- FnProgramEmpty: for every input the law returns true, and the arguments read as they did. No conditions. -/
import Derived.Test.YtbnhhmgdkiomoaaRows
import Derived.Test.YtbnhhmgdkiomoaaDrawZ
import Derived.Test.YtbnhhmgdkiomoaaExprV
import Derived.Test.YtbnhhmgdkiomoaaPgmV
import Derived.Test.YtbnhhmgdkiomoaaCountC
import Derived.Test.YtbnhhmgdkiomoaaLawT
import Derived.Test.YtbnhhmgdkiomoaaShort
import Derived.WalkKit
import Derived.ProofKit
import Derived.OpenShut
import Derived.ShutString
import Derived.ChangeOld
import Derived.Below
namespace Go.Proofs.Ytbnhhmgdkiomoaa.fnProgramEmpty
open Go.ChangeShapes Go.WideShapes Go.ChangeAt Go.RowKit Kit MarkC
open Go.ChangeMaps (open_string shut_string)
set_option linter.unusedVariables false
theorem own : ownKnob Try.prog.godebug = none := by kernel_rfl
theorem laidOut : laidOutB Try.prog = true := by kernel_rfl
set_option maxHeartbeats 1000000 in
theorem walk (a0 : Option Addr) (l0 c0 : Nat) (w : World) (s0 : Kit.Src w a0 l0 c0) :
    Calls Try.prog 5 #[.slice a0 l0 c0] w fun e w' => e = .returned (.bool true) ∧ Below w.heap.size w w' := by
  by_cases hl : 1048576 < l0
  · go_enter Try.func5, Try.ntmps5
    go_wp2
    go_ret
    exact ⟨rfl, Below.refl _ _⟩
  · go_enter Try.func5, Try.ntmps5
    go_wp2_with fail
    refine (DrawZ.drawExprValid _ a0 l0 c0 s0).mono ?_
    rintro e w1 ⟨va, vb, vc, ya, yb, m, k, v, s, ks, rfl, N1, hA, hB, hC, hK, hl2, hk2⟩
    obtain ⟨e1, f1, rfl, _⟩ := hA.len
    obtain ⟨e2, f2, rfl, _⟩ := hB.len
    obtain ⟨e3, f3, rfl, _⟩ := hC.len
    obtain ⟨e4, f4, rfl, _⟩ := hK.len
    have oA_1 := Lib.hid hA
    have oB_1 := Lib.hid hB
    have oC_1 := Lib.hid hC
    have oK_1 := Lib.hid hK
    clear hA hB hC hK
    have zw := N1.size
    have hn2 : New w1 ((w1.alloc (.cells #[.slice e1 ya.length f1, .slice e2 yb.length f2, .slice e3 m.length f3] 33)).alloc (.cells #[.int .i64 k, .int .i64 v, .slice e4 ks.length f4] 25)) := ((Kp.refl _ _).alloc _).alloc _
    have bA_2 : ((w1.alloc (.cells #[.slice e1 ya.length f1, .slice e2 yb.length f2, .slice e3 m.length f3] 33)).alloc (.cells #[.int .i64 k, .int .i64 v, .slice e4 ks.length f4] 25)).heap[w1.heap.size]? = some (.cells #[.slice e1 ya.length f1, .slice e2 yb.length f2, .slice e3 m.length f3] 33) := heap_old (alloc_heap _ _)
    have bB_2 : ((w1.alloc (.cells #[.slice e1 ya.length f1, .slice e2 yb.length f2, .slice e3 m.length f3] 33)).alloc (.cells #[.int .i64 k, .int .i64 v, .slice e4 ks.length f4] 25)).heap[w1.heap.size + 1]? = some (.cells #[.int .i64 k, .int .i64 v, .slice e4 ks.length f4] 25) := heap_at (by simp)
    have y2 : w1.heap.size + 1 < ((w1.alloc (.cells #[.slice e1 ya.length f1, .slice e2 yb.length f2, .slice e3 m.length f3] 33)).alloc (.cells #[.int .i64 k, .int .i64 v, .slice e4 ks.length f4] 25)).heap.size := by simp
    go_upto_region 4 with fail
    generalize ((w1.alloc (.cells #[.slice e1 ya.length f1, .slice e2 yb.length f2, .slice e3 m.length f3] 33)).alloc (.cells #[.int .i64 k, .int .i64 v, .slice e4 ks.length f4] 25)) = w2 at *
    have z2 := hn2.size
    have oA_2 := Lib.hid (oA_1.out.new (by omega) hn2)
    have oB_2 := Lib.hid (oB_1.out.new (by omega) hn2)
    have oC_2 := Lib.hid (oC_1.out.new (by omega) hn2)
    have oK_2 := Lib.hid (oK_1.out.new (by omega) hn2)
    have N2 : New w w2 := N1.trans hn2
    clear oA_1 oB_1 oC_1 oK_1 N1 hn2
    obtain ⟨cA0, cA1, cA2⟩ := cells3 bA_2
    have lA := heap_lt bA_2
    obtain ⟨hn3, y3, bQ_3⟩ := newb w2 (.cells #[.slice e1 ya.length f1, .slice e2 yb.length f2, .slice none 0 0] 33)
    go_upto_region 5 with fail
    generalize hbQ : w2.heap.size = bQ at bQ_3 y3 ⊢
    generalize (w2.alloc (.cells #[.slice e1 ya.length f1, .slice e2 yb.length f2, .slice none 0 0] 33)) = w3 at *
    have z3 := hn3.size
    have bA_3 := hn3.bk bA_2
    have bB_3 := hn3.bk bB_2
    have oA_3 := Lib.hid (oA_2.out.new (by omega) hn3)
    have oB_3 := Lib.hid (oB_2.out.new (by omega) hn3)
    have oC_3 := Lib.hid (oC_2.out.new (by omega) hn3)
    have oK_3 := Lib.hid (oK_2.out.new (by omega) hn3)
    have N3 : New w w3 := N2.trans hn3
    clear cA0 cA1 cA2 lA
    clear bA_2 bB_2 oA_2 oB_2 oC_2 oK_2 N2 hn3
    obtain ⟨t, ht⟩ : ∃ t, Val.declB ya yb = t := ⟨_, rfl⟩
    have htq := (LawT.progB_nil ya yb).trans ht
    have hth := Lib.hid ht
    have htqh := Lib.hid htq
    clear ht htq
    obtain ⟨cQ0, cQ1, cQ2⟩ := cells3 bQ_3
    have lQ := heap_lt bQ_3
    obtain ⟨cA0, cA1, cA2⟩ := cells3 bA_3
    have lA := heap_lt bA_3
    obtain ⟨cB0, cB1, cB2⟩ := cells3 bB_3
    have lB := heap_lt bB_3
    go_wp2_with fail
    clear cQ0 cQ1 cQ2 lQ cA0 cA1 cA2 lA cB0 cB1 cB2 lB
    refine (PgmV.implP (xa := ya) (xb := yb) (l := []) oA_3.out oB_3.out (.nil (lo := w.heap.size) (hi := w1.heap.size) _ _) (by omega)).mono ?_
    rintro e w4 ⟨rfl, hn4⟩
    have z4 := hn4.size
    have bA_4 := hn4.bk bA_3
    have bB_4 := hn4.bk bB_3
    have bQ_4 := hn4.bk bQ_3
    have oA_4 := Lib.hid (oA_3.out.new (by omega) hn4)
    have oB_4 := Lib.hid (oB_3.out.new (by omega) hn4)
    have oC_4 := Lib.hid (oC_3.out.new (by omega) hn4)
    have oK_4 := Lib.hid (oK_3.out.new (by omega) hn4)
    have N4 : New w w4 := N3.trans hn4
    clear bA_3 bB_3 bQ_3 oA_3 oB_3 oC_3 oK_3 N3 hn4
    rw [htqh.out]
    cases t
    · obtain ⟨cQ0, cQ1, cQ2⟩ := cells3 bQ_4
      have lQ := heap_lt bQ_4
      obtain ⟨cA0, cA1, cA2⟩ := cells3 bA_4
      have lA := heap_lt bA_4
      obtain ⟨cB0, cB1, cB2⟩ := cells3 bB_4
      have lB := heap_lt bB_4
      go_wp2_with fail
      clear cQ0 cQ1 cQ2 lQ cA0 cA1 cA2 lA cB0 cB1 cB2 lB
      refine (PgmV.specP (xa := ya) (xb := yb) (l := []) oA_4.out oB_4.out (.nil (lo := w.heap.size) (hi := w1.heap.size) _ _) (by omega) (by simp [St.sizes])).mono ?_
      rintro e w5 ⟨rfl, hn5⟩
      have z5 := hn5.size
      have bA_5 := hn5.bk bA_4
      have bB_5 := hn5.bk bB_4
      have bQ_5 := hn5.bk bQ_4
      have oA_5 := Lib.hid (oA_4.out.new (by omega) hn5)
      have oB_5 := Lib.hid (oB_4.out.new (by omega) hn5)
      have oC_5 := Lib.hid (oC_4.out.new (by omega) hn5)
      have oK_5 := Lib.hid (oK_4.out.new (by omega) hn5)
      have N5 : New w w5 := N4.trans hn5
      clear bA_4 bB_4 bQ_4 oA_4 oB_4 oC_4 oK_4 N4 hn5
      rw [htqh.out]
      obtain ⟨cQ0, cQ1, cQ2⟩ := cells3 bQ_5
      have lQ := heap_lt bQ_5
      obtain ⟨cA0, cA1, cA2⟩ := cells3 bA_5
      have lA := heap_lt bA_5
      obtain ⟨cB0, cB1, cB2⟩ := cells3 bB_5
      have lB := heap_lt bB_5
      go_wp2_with fail
      clear cQ0 cQ1 cQ2 lQ cA0 cA1 cA2 lA cB0 cB1 cB2 lB
      refine (PgmV.implP (xa := ya) (xb := yb) (l := m) oA_5.out oB_5.out oC_5.out (by omega)).mono ?_
      rintro e w6 ⟨rfl, hn6⟩
      have z6 := hn6.size
      have bA_6 := hn6.bk bA_5
      have bB_6 := hn6.bk bB_5
      have bQ_6 := hn6.bk bQ_5
      have oA_6 := Lib.hid (oA_5.out.new (by omega) hn6)
      have oB_6 := Lib.hid (oB_5.out.new (by omega) hn6)
      have oC_6 := Lib.hid (oC_5.out.new (by omega) hn6)
      have oK_6 := Lib.hid (oK_5.out.new (by omega) hn6)
      have N6 : New w w6 := N5.trans hn6
      clear bA_5 bB_5 bQ_5 oA_5 oB_5 oC_5 oK_5 N5 hn6
      rw [LawT.progB_decl hth.out]
      obtain ⟨cQ0, cQ1, cQ2⟩ := cells3 bQ_6
      have lQ := heap_lt bQ_6
      obtain ⟨cA0, cA1, cA2⟩ := cells3 bA_6
      have lA := heap_lt bA_6
      obtain ⟨cB0, cB1, cB2⟩ := cells3 bB_6
      have lB := heap_lt bB_6
      go_wp2_with fail
      clear cQ0 cQ1 cQ2 lQ cA0 cA1 cA2 lA cB0 cB1 cB2 lB
      refine (ExprV.implV (xa := ya) (xb := yb) (k := k) (v := v) (l := ks) oA_6.out oB_6.out oK_6.out (by omega) (by omega)).mono ?_
      rintro e w7 ⟨rfl, hn7⟩
      have z7 := hn7.size
      have bA_7 := hn7.bk bA_6
      have bB_7 := hn7.bk bB_6
      have bQ_7 := hn7.bk bQ_6
      have oA_7 := Lib.hid (oA_6.out.new (by omega) hn7)
      have oB_7 := Lib.hid (oB_6.out.new (by omega) hn7)
      have oC_7 := Lib.hid (oC_6.out.new (by omega) hn7)
      have oK_7 := Lib.hid (oK_6.out.new (by omega) hn7)
      have N7 : New w w7 := N6.trans hn7
      clear bA_6 bB_6 bQ_6 oA_6 oB_6 oC_6 oK_6 N6 hn7
      rw [LawT.exprB_decl hth.out]
      obtain ⟨cQ0, cQ1, cQ2⟩ := cells3 bQ_7
      have lQ := heap_lt bQ_7
      obtain ⟨cA0, cA1, cA2⟩ := cells3 bA_7
      have lA := heap_lt bA_7
      obtain ⟨cB0, cB1, cB2⟩ := cells3 bB_7
      have lB := heap_lt bB_7
      go_wp2_with fail
      clear cQ0 cQ1 cQ2 lQ cA0 cA1 cA2 lA cB0 cB1 cB2 lB
      refine (CountC.implC (xa := ya) (xb := yb) (l := []) oA_7.out oB_7.out (.nil (lo := w.heap.size) (hi := w1.heap.size) _ _) (by omega)).mono ?_
      rintro e w8 ⟨rfl, hn8⟩
      have z8 := hn8.size
      have bA_8 := hn8.bk bA_7
      have bB_8 := hn8.bk bB_7
      have bQ_8 := hn8.bk bQ_7
      have oA_8 := Lib.hid (oA_7.out.new (by omega) hn8)
      have oB_8 := Lib.hid (oB_7.out.new (by omega) hn8)
      have oC_8 := Lib.hid (oC_7.out.new (by omega) hn8)
      have oK_8 := Lib.hid (oK_7.out.new (by omega) hn8)
      have N8 : New w w8 := N7.trans hn8
      clear bA_7 bB_7 bQ_7 oA_7 oB_7 oC_7 oK_7 N7 hn8
      rw [show Val.cntB ya yb [] = 0 by unfold Val.cntB; split <;> simp [Val.stsN]]
      obtain ⟨cQ0, cQ1, cQ2⟩ := cells3 bQ_8
      have lQ := heap_lt bQ_8
      obtain ⟨cA0, cA1, cA2⟩ := cells3 bA_8
      have lA := heap_lt bA_8
      obtain ⟨cB0, cB1, cB2⟩ := cells3 bB_8
      have lB := heap_lt bB_8
      go_wp2
      go_ret
      exact ⟨rfl, N8.toBelow⟩
    · obtain ⟨cQ0, cQ1, cQ2⟩ := cells3 bQ_4
      have lQ := heap_lt bQ_4
      obtain ⟨cA0, cA1, cA2⟩ := cells3 bA_4
      have lA := heap_lt bA_4
      obtain ⟨cB0, cB1, cB2⟩ := cells3 bB_4
      have lB := heap_lt bB_4
      go_wp2_with fail
      clear cQ0 cQ1 cQ2 lQ cA0 cA1 cA2 lA cB0 cB1 cB2 lB
      refine (PgmV.specP (xa := ya) (xb := yb) (l := []) oA_4.out oB_4.out (.nil (lo := w.heap.size) (hi := w1.heap.size) _ _) (by omega) (by simp [St.sizes])).mono ?_
      rintro e w5 ⟨rfl, hn5⟩
      have z5 := hn5.size
      have bA_5 := hn5.bk bA_4
      have bB_5 := hn5.bk bB_4
      have bQ_5 := hn5.bk bQ_4
      have oA_5 := Lib.hid (oA_4.out.new (by omega) hn5)
      have oB_5 := Lib.hid (oB_4.out.new (by omega) hn5)
      have oC_5 := Lib.hid (oC_4.out.new (by omega) hn5)
      have oK_5 := Lib.hid (oK_4.out.new (by omega) hn5)
      have N5 : New w w5 := N4.trans hn5
      clear bA_4 bB_4 bQ_4 oA_4 oB_4 oC_4 oK_4 N4 hn5
      rw [htqh.out]
      obtain ⟨cQ0, cQ1, cQ2⟩ := cells3 bQ_5
      have lQ := heap_lt bQ_5
      obtain ⟨cA0, cA1, cA2⟩ := cells3 bA_5
      have lA := heap_lt bA_5
      obtain ⟨cB0, cB1, cB2⟩ := cells3 bB_5
      have lB := heap_lt bB_5
      go_wp2_with fail
      clear cQ0 cQ1 cQ2 lQ cA0 cA1 cA2 lA cB0 cB1 cB2 lB
      refine (CountC.implC (xa := ya) (xb := yb) (l := []) oA_5.out oB_5.out (.nil (lo := w.heap.size) (hi := w1.heap.size) _ _) (by omega)).mono ?_
      rintro e w6 ⟨rfl, hn6⟩
      have z6 := hn6.size
      have bA_6 := hn6.bk bA_5
      have bB_6 := hn6.bk bB_5
      have bQ_6 := hn6.bk bQ_5
      have oA_6 := Lib.hid (oA_5.out.new (by omega) hn6)
      have oB_6 := Lib.hid (oB_5.out.new (by omega) hn6)
      have oC_6 := Lib.hid (oC_5.out.new (by omega) hn6)
      have oK_6 := Lib.hid (oK_5.out.new (by omega) hn6)
      have N6 : New w w6 := N5.trans hn6
      clear bA_5 bB_5 bQ_5 oA_5 oB_5 oC_5 oK_5 N5 hn6
      rw [show Val.cntB ya yb [] = 0 by unfold Val.cntB; split <;> simp [Val.stsN]]
      obtain ⟨cQ0, cQ1, cQ2⟩ := cells3 bQ_6
      have lQ := heap_lt bQ_6
      obtain ⟨cA0, cA1, cA2⟩ := cells3 bA_6
      have lA := heap_lt bA_6
      obtain ⟨cB0, cB1, cB2⟩ := cells3 bB_6
      have lB := heap_lt bB_6
      go_wp2
      go_ret
      exact ⟨rfl, N6.toBelow⟩
set_option maxRecDepth 100000 in
theorem lifted (os : Os) (started : os.Started) (H : Type) (enc : TypeId × Value → H) :
    ReturnsInHanded {} Try.checked os 5 .any (Rows.fnProgramEmptySpec.pre6 enc Try.prog Try.f5 Rows.fnProgramEmptyRow.domain false) (Rows.fnProgramEmptySpec.post enc Try.prog Try.f5 false true false false) := by
  refine returnsInHanded_of_change (C := Try.checked) own started (by kernel_rfl) Try.func5
    (ChangeSpec.witness6 (enc := enc) (C := Try.checked) false ⟨#[], #[.slice none 0 0], []⟩ 8 (by kernel_rfl) (by kernel_rfl) (by kernel_rfl) (by kernel_rfl)) ?_
  intro W base args ds gs before hval0 hW hcnd _
  have hval : ∀ (j : Nat) t v, Try.f5.params[j]? = some t → args[j]? = some v → Value.okWide Try.prog W .any base t v := hval0
  have hW' := hW
  obtain ⟨p, q, hA0, hV, rfl, hfz, hnd⟩ := hW
  have hA : DataW.TrodAll enc Try.prog W 0 (fun _ => true) true Try.f5.params.toList args.toList ds p := hA0
  rw [Try.params5] at hA hval
  obtain ⟨v0, vs0, d0, ds0, p0, q0, hargs, rfl, rfl, h0, r0⟩ := trodAll_cons hA
  obtain ⟨rfl, rfl, rfl⟩ := trodAll_nil r0
  obtain rfl : args = #[v0] := by cases args; simp_all
  obtain ⟨rfl, rfl⟩ := trodVars_none hV
  have kk0 := h0
  have lt0 : ∀ x ∈ p0, x.block < W.heap.size := by obtain ⟨m, hm⟩ := kk0; exact DataW.trod_lt m _ _ _ hm
  obtain ⟨a0, l0, c0, rfl, s0⟩ := Kit.open_bytes Try.underlying22 Try.underlying5 (by kernel_rfl) (hval 0 22 v0 rfl rfl) h0
  clear hA0 hval0
  refine (walk a0 l0 c0 W s0).mono fun e W' ⟨he, bel⟩ => ?_
  subst he
  exact ⟨_, rfl, _, _, _, [], _, [], hW', trodAll_mk1 (shut_bool Try.underlying4 _), (trodAll_cons_mk (Below.trod laidOut (by kernel_rfl) (of_decide_eq_true (by kernel_rfl)) kk0 bel lt0) trodAll_mk0), rfl, bel.frame _, fun h => by cases h⟩
theorem over : Rows.fnProgramEmptyRow.holds Try.pinned (OpenSpec.ofChange Rows.fnProgramEmptySpec) :=
  OpenClaim.holds_of_wide 5 Try.f5 rfl rfl rfl rfl rfl rfl rfl ⟨rfl, rfl, rfl, rfl, rfl⟩ rfl rfl rfl rfl rfl (by kernel_rfl) Try.func5 (by kernel_rfl)
    (of_decide_eq_true (by kernel_rfl)) (by unfold Func.isWrapper; first | (rw [if_pos (by decide +kernel)]; kernel_rfl) | (rw [if_neg (by decide +kernel)]; exact ⟨rfl, rfl⟩))
    (fun os started H enc _ => lifted os started H enc)
theorem proved : Rows.FnProgramEmptySaid := over
#print axioms proved
end Go.Proofs.Ytbnhhmgdkiomoaa.fnProgramEmpty
