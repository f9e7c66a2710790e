/- FnExprSame: for every input the law returns true, and the arguments read as they did. No conditions. -/
import Derived.Test.YtbnhhmgdkiomoaaRows
import Derived.Test.YtbnhhmgdkiomoaaDrawZ
import Derived.Test.YtbnhhmgdkiomoaaSameE
import Derived.Test.YtbnhhmgdkiomoaaLawT
import Derived.Test.YtbnhhmgdkiomoaaShort
import Derived.WalkKit
import Derived.ProofKit
import Derived.OpenShut
import Derived.ShutString
import Derived.ChangeOld
import Derived.Below
namespace Go.Proofs.Ytbnhhmgdkiomoaa.fnExprSame
open Go.ChangeShapes Go.WideShapes Go.ChangeAt Go.RowKit Kit MarkC
open Go.ChangeMaps (open_string shut_string)
set_option linter.unusedVariables false
theorem own : ownKnob Try.prog.godebug = none := by kernel_rfl
theorem laidOut : laidOutB Try.prog = true := by kernel_rfl
set_option maxHeartbeats 1000000 in
theorem walk (a0 : Option Addr) (l0 c0 : Nat) (w : World) (s0 : Kit.Src w a0 l0 c0) :
    Calls Try.prog 3 #[.slice a0 l0 c0] w fun e w' => e = .returned (.bool true) ∧ Below w.heap.size w w' := by
  by_cases hl : 1048576 < l0
  · go_enter Try.func3, Try.ntmps3
    go_wp2
    go_ret
    exact ⟨rfl, Below.refl _ _⟩
  · go_enter Try.func3, Try.ntmps3
    go_wp2_with fail
    refine (DrawZ.drawExprSame _ a0 l0 c0 s0).mono ?_
    rintro e w1 ⟨kS, vS, sS, lS, kT, vT, sT, lT, rfl, N1, hS, hT, -, -⟩
    obtain ⟨aS, tS, rfl, _⟩ := hS.len
    obtain ⟨aT, tT, rfl, _⟩ := hT.len
    have oS_1 := Lib.hid hS
    have oT_1 := Lib.hid hT
    clear hS hT
    have zw := N1.size
    have hn2 : New w1 ((w1.alloc (.cells #[.int .i64 kS, .int .i64 vS, .slice aS lS.length tS] 25)).alloc (.cells #[.int .i64 kT, .int .i64 vT, .slice aT lT.length tT] 25)) := ((Kp.refl _ _).alloc _).alloc _
    have bA_2 : ((w1.alloc (.cells #[.int .i64 kS, .int .i64 vS, .slice aS lS.length tS] 25)).alloc (.cells #[.int .i64 kT, .int .i64 vT, .slice aT lT.length tT] 25)).heap[w1.heap.size]? = some (.cells #[.int .i64 kS, .int .i64 vS, .slice aS lS.length tS] 25) := heap_old (alloc_heap _ _)
    have bB_2 : ((w1.alloc (.cells #[.int .i64 kS, .int .i64 vS, .slice aS lS.length tS] 25)).alloc (.cells #[.int .i64 kT, .int .i64 vT, .slice aT lT.length tT] 25)).heap[w1.heap.size + 1]? = some (.cells #[.int .i64 kT, .int .i64 vT, .slice aT lT.length tT] 25) := heap_at (by simp)
    have y2 : w1.heap.size + 1 < ((w1.alloc (.cells #[.int .i64 kS, .int .i64 vS, .slice aS lS.length tS] 25)).alloc (.cells #[.int .i64 kT, .int .i64 vT, .slice aT lT.length tT] 25)).heap.size := by simp
    go_upto_region 4 with fail
    generalize ((w1.alloc (.cells #[.int .i64 kS, .int .i64 vS, .slice aS lS.length tS] 25)).alloc (.cells #[.int .i64 kT, .int .i64 vT, .slice aT lT.length tT] 25)) = w2 at *
    have z2 := hn2.size
    have oS_2 := Lib.hid (oS_1.out.new (by omega) hn2)
    have oT_2 := Lib.hid (oT_1.out.new (by omega) hn2)
    have N2 : New w w2 := N1.trans hn2
    clear oS_1 oT_1 N1 hn2
    obtain ⟨t, ht⟩ : ∃ t, Ex.same (.node kS vS lS) (.node kT vT lT) = t := ⟨_, rfl⟩
    have ht2 := (Ex.same_comm (.node kT vT lT) (.node kS vS lS)).trans ht
    have ht3 := Ex.same_refl (.node kS vS lS)
    have hth := Lib.hid ht
    have ht2h := Lib.hid ht2
    have ht3h := Lib.hid ht3
    clear ht ht2 ht3
    obtain ⟨cA0, cA1, cA2⟩ := cells3 bA_2
    have lA := heap_lt bA_2
    obtain ⟨cB0, cB1, cB2⟩ := cells3 bB_2
    have lB := heap_lt bB_2
    go_wp2_with fail
    clear cA0 cA1 cA2 lA cB0 cB1 cB2 lB
    refine (SameE.implSame _ _ _ _ _ kS vS kT vT _ _ lS lT oS_2.out oT_2.out (by omega) (by omega)).mono ?_
    rintro e w3 ⟨rfl, hn3⟩
    have z3 := hn3.size
    have bA_3 := hn3.bk bA_2
    have bB_3 := hn3.bk bB_2
    have oS_3 := Lib.hid (oS_2.out.new (by omega) hn3)
    have oT_3 := Lib.hid (oT_2.out.new (by omega) hn3)
    have N3 : New w w3 := N2.trans hn3
    clear bA_2 bB_2 oS_2 oT_2 N2 hn3
    rw [hth.out]
    cases t
    all_goals
      obtain ⟨cA0, cA1, cA2⟩ := cells3 bA_3
      have lA := heap_lt bA_3
      obtain ⟨cB0, cB1, cB2⟩ := cells3 bB_3
      have lB := heap_lt bB_3
      go_wp2_with fail
      clear cA0 cA1 cA2 lA cB0 cB1 cB2 lB
      refine (SameE.specSame _ _ _ _ _ kS vS kT vT _ _ lS lT oS_3.out oT_3.out (by omega) (by omega)).mono ?_
      rintro e w4 ⟨rfl, hn4⟩
      have z4 := hn4.size
      have bA_4 := hn4.bk bA_3
      have bB_4 := hn4.bk bB_3
      have oS_4 := Lib.hid (oS_3.out.new (by omega) hn4)
      have oT_4 := Lib.hid (oT_3.out.new (by omega) hn4)
      have N4 : New w w4 := N3.trans hn4
      clear bA_3 bB_3 oS_3 oT_3 N3 hn4
      rw [hth.out]
      obtain ⟨cA0, cA1, cA2⟩ := cells3 bA_4
      have lA := heap_lt bA_4
      obtain ⟨cB0, cB1, cB2⟩ := cells3 bB_4
      have lB := heap_lt bB_4
      go_wp2_with fail
      clear cA0 cA1 cA2 lA cB0 cB1 cB2 lB
      refine (SameE.implSame _ _ _ _ _ kT vT kS vS _ _ lT lS oT_4.out oS_4.out (by omega) (by omega)).mono ?_
      rintro e w5 ⟨rfl, hn5⟩
      have z5 := hn5.size
      have bA_5 := hn5.bk bA_4
      have bB_5 := hn5.bk bB_4
      have oS_5 := Lib.hid (oS_4.out.new (by omega) hn5)
      have oT_5 := Lib.hid (oT_4.out.new (by omega) hn5)
      have N5 : New w w5 := N4.trans hn5
      clear bA_4 bB_4 oS_4 oT_4 N4 hn5
      rw [ht2h.out]
      obtain ⟨cA0, cA1, cA2⟩ := cells3 bA_5
      have lA := heap_lt bA_5
      obtain ⟨cB0, cB1, cB2⟩ := cells3 bB_5
      have lB := heap_lt bB_5
      go_wp2_with fail
      clear cA0 cA1 cA2 lA cB0 cB1 cB2 lB
      refine (SameE.implSame _ _ _ _ _ kS vS kS vS _ _ lS lS oS_5.out oS_5.out (by omega) (by omega)).mono ?_
      rintro e w6 ⟨rfl, hn6⟩
      have z6 := hn6.size
      have bA_6 := hn6.bk bA_5
      have bB_6 := hn6.bk bB_5
      have oS_6 := Lib.hid (oS_5.out.new (by omega) hn6)
      have oT_6 := Lib.hid (oT_5.out.new (by omega) hn6)
      have N6 : New w w6 := N5.trans hn6
      clear bA_5 bB_5 oS_5 oT_5 N5 hn6
      rw [ht3h.out]
      obtain ⟨cA0, cA1, cA2⟩ := cells3 bA_6
      have lA := heap_lt bA_6
      obtain ⟨cB0, cB1, cB2⟩ := cells3 bB_6
      have lB := heap_lt bB_6
      go_wp2
      go_ret
      exact ⟨rfl, N6.toBelow⟩
set_option maxRecDepth 100000 in
theorem lifted (os : Os) (started : os.Started) (H : Type) (enc : TypeId × Value → H) :
    ReturnsInHanded {} Try.checked os 3 .any (Rows.fnExprSameSpec.pre6 enc Try.prog Try.f3 Rows.fnExprSameRow.domain false) (Rows.fnExprSameSpec.post enc Try.prog Try.f3 false true false false) := by
  refine returnsInHanded_of_change (C := Try.checked) own started (by kernel_rfl) Try.func3
    (ChangeSpec.witness6 (enc := enc) (C := Try.checked) false ⟨#[], #[.slice none 0 0], []⟩ 8 (by kernel_rfl) (by kernel_rfl) (by kernel_rfl) (by kernel_rfl)) ?_
  intro W base args ds gs before hval0 hW hcnd _
  have hval : ∀ (j : Nat) t v, Try.f3.params[j]? = some t → args[j]? = some v → Value.okWide Try.prog W .any base t v := hval0
  have hW' := hW
  obtain ⟨p, q, hA0, hV, rfl, hfz, hnd⟩ := hW
  have hA : DataW.TrodAll enc Try.prog W 0 (fun _ => true) true Try.f3.params.toList args.toList ds p := hA0
  rw [Try.params3] at hA hval
  obtain ⟨v0, vs0, d0, ds0, p0, q0, hargs, rfl, rfl, h0, r0⟩ := trodAll_cons hA
  obtain ⟨rfl, rfl, rfl⟩ := trodAll_nil r0
  obtain rfl : args = #[v0] := by cases args; simp_all
  obtain ⟨rfl, rfl⟩ := trodVars_none hV
  have kk0 := h0
  have lt0 : ∀ x ∈ p0, x.block < W.heap.size := by obtain ⟨m, hm⟩ := kk0; exact DataW.trod_lt m _ _ _ hm
  obtain ⟨a0, l0, c0, rfl, s0⟩ := Kit.open_bytes Try.underlying22 Try.underlying5 (by kernel_rfl) (hval 0 22 v0 rfl rfl) h0
  clear hA0 hval0
  refine (walk a0 l0 c0 W s0).mono fun e W' ⟨he, bel⟩ => ?_
  subst he
  exact ⟨_, rfl, _, _, _, [], _, [], hW', trodAll_mk1 (shut_bool Try.underlying4 _), (trodAll_cons_mk (Below.trod laidOut (by kernel_rfl) (of_decide_eq_true (by kernel_rfl)) kk0 bel lt0) trodAll_mk0), rfl, bel.frame _, fun h => by cases h⟩
theorem over : Rows.fnExprSameRow.holds Try.pinned (OpenSpec.ofChange Rows.fnExprSameSpec) :=
  OpenClaim.holds_of_wide 3 Try.f3 rfl rfl rfl rfl rfl rfl rfl ⟨rfl, rfl, rfl, rfl, rfl⟩ rfl rfl rfl rfl rfl (by kernel_rfl) Try.func3 (by kernel_rfl)
    (of_decide_eq_true (by kernel_rfl)) (by unfold Func.isWrapper; first | (rw [if_pos (by decide +kernel)]; kernel_rfl) | (rw [if_neg (by decide +kernel)]; exact ⟨rfl, rfl⟩))
    (fun os started H enc _ => lifted os started H enc)
theorem proved : Rows.FnExprSameSaid := over
#print axioms proved
end Go.Proofs.Ytbnhhmgdkiomoaa.fnExprSame
