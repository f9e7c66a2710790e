/- FnExactCheckFlow: for every input the law returns true, and the arguments read as they did. No conditions. -/
import Derived.Test.YtbnhhmgdkiomoaaRows
import Derived.Test.YtbnhhmgdkiomoaaMany
import Derived.Test.YtbnhhmgdkiomoaaOpenT
import Derived.Test.YtbnhhmgdkiomoaaPgmF
import Derived.Test.YtbnhhmgdkiomoaaFlowI
import Derived.Test.YtbnhhmgdkiomoaaFlowS
import Derived.Deep.RegionHeld3
import Derived.WalkKit
import Derived.ProofKit
import Derived.OpenShut
import Derived.ShutString
import Derived.ChangeOld
import Derived.Below
namespace Go.Proofs.Ytbnhhmgdkiomoaa.fnExactCheckFlow
open Go.ChangeShapes Go.WideShapes Go.ChangeAt Go.RowKit Kit
open Go.ChangeMaps (open_string shut_string)
set_option linter.unusedVariables false
theorem own : ownKnob Try.prog.godebug = none := by kernel_rfl
theorem laidOut : laidOutB Try.prog = true := by kernel_rfl
set_option maxHeartbeats 1000000 in
theorem walk (ta0 : Value) (tb0 : Value) (tc0 : Value) (xa0 : List Int) (xb0 : List Int) (x0 : List St) (w : World) (sa0 : IntsR w 0 w.heap.size ta0 xa0) (sb0 : IntsR w 0 w.heap.size tb0 xb0) (s0 : StsR w 0 w.heap.size tc0 x0) :
    Calls Try.prog 11 #[.agg #[ta0, tb0, tc0]] w fun e w' => e = .returned (.bool true) ∧ Below w.heap.size w w' := by
  obtain ⟨bb, hbb⟩ : ∃ bb, (Val.flowB xa0 xb0 x0) = bb := ⟨_, rfl⟩
  by_cases q0 : (xa0.length + (xb0.length + St.sizes x0)) ≤ 1048576
  · go_enter Try.func11, Try.ntmps11
    go_wp2_with fail
    have N0 : New w (w.alloc (.cells #[ta0, tb0, tc0] 47)) := ((Kp.refl _ _).alloc _)
    have bA0_0 : (w.alloc (.cells #[ta0, tb0, tc0] 47)).heap[w.heap.size]? = some (.cells #[ta0, tb0, tc0] 47) := alloc_heap _ _
    have z0 : w.heap.size < (w.alloc (.cells #[ta0, tb0, tc0] 47)).heap.size := by simp
    generalize (w.alloc (.cells #[ta0, tb0, tc0] 47)) = w0 at *
    have bA0_0_c0 := cell_of_heap bA0_0 0
    have bA0_0_c1 := cell_of_heap bA0_0 1
    have bA0_0_c2 := cell_of_heap bA0_0 2
    refine (PgmF.szProgram _ 0 w.heap.size _ _ _ _ _ _ (sa0.new (Nat.le_refl _) N0) (sb0.new (Nat.le_refl _) N0) (s0.new (Nat.le_refl _) N0) (1048576) (by omega) (by omega) (by omega)).mono ?_
    rintro e w1 ⟨rfl, hn1⟩
    have z1 : w0.heap.size ≤ w1.heap.size := hn1.size
    have N1 : New w w1 := N0.trans hn1
    have bA0_1 := heap_new hn1 bA0_0
    clear bA0_0_c0 bA0_0_c1 bA0_0_c2
    clear bA0_0 hn1
    rw [szOf_hi (by omega)]
    have bA0_1_c0 := cell_of_heap bA0_1 0
    have bA0_1_c1 := cell_of_heap bA0_1 1
    have bA0_1_c2 := cell_of_heap bA0_1 2
    go_wp2_with fail
    refine (PgmF.toProgram _ 0 w.heap.size _ _ _ _ _ _ (sa0.new (Nat.le_refl _) N1) (sb0.new (Nat.le_refl _) N1) (s0.new (Nat.le_refl _) N1) (by omega) (by omega) (by omega) (by omega)).mono ?_
    rintro e w2 ⟨vP0a, vP0b, vP0c, rfl, hn2, oP0a, oP0b, oP0c⟩
    have z2 : w1.heap.size ≤ w2.heap.size := hn2.size
    have N2 : New w w2 := N1.trans hn2
    have bA0_2 := heap_new hn2 bA0_1
    clear bA0_1_c0 bA0_1_c1 bA0_1_c2
    clear bA0_1 hn2
    have oP0a_2 := oP0a
    clear oP0a
    have oP0b_2 := oP0b
    clear oP0b
    have oP0c_2 := oP0c
    clear oP0c
    have bA0_2_c0 := cell_of_heap bA0_2 0
    have bA0_2_c1 := cell_of_heap bA0_2 1
    have bA0_2_c2 := cell_of_heap bA0_2 2
    go_wp2_with fail
    refine (FlowS.specC oP0a_2 oP0b_2 oP0c_2 (by omega) (by omega)).mono ?_
    rintro e w3 ⟨rfl, hn3⟩
    have z3 : w2.heap.size ≤ w3.heap.size := hn3.size
    have N3 : New w w3 := N2.trans hn3
    have bA0_3 := heap_new hn3 bA0_2
    have oP0a_3 := oP0a_2.new (by omega) hn3
    have oP0b_3 := oP0b_2.new (by omega) hn3
    have oP0c_3 := oP0c_2.new (by omega) hn3
    clear bA0_2_c0 bA0_2_c1 bA0_2_c2
    clear bA0_2 oP0a_2 oP0b_2 oP0c_2 hn3
    rw [hbb]
    clear oP0a_3
    clear oP0b_3
    clear oP0c_3
    have bA0_3_c0 := cell_of_heap bA0_3 0
    have bA0_3_c1 := cell_of_heap bA0_3 1
    have bA0_3_c2 := cell_of_heap bA0_3 2
    go_wp2_with fail
    refine (PgmF.toProgram _ 0 w.heap.size _ _ _ _ _ _ (sa0.new (Nat.le_refl _) N3) (sb0.new (Nat.le_refl _) N3) (s0.new (Nat.le_refl _) N3) (by omega) (by omega) (by omega) (by omega)).mono ?_
    rintro e w4 ⟨vX0a, vX0b, vX0c, rfl, hn4, oX0a, oX0b, oX0c⟩
    have z4 : w3.heap.size ≤ w4.heap.size := hn4.size
    have N4 : New w w4 := N3.trans hn4
    have bA0_4 := heap_new hn4 bA0_3
    clear bA0_3_c0 bA0_3_c1 bA0_3_c2
    clear bA0_3 hn4
    have oX0a_4 := oX0a
    clear oX0a
    have oX0b_4 := oX0b
    clear oX0b
    have oX0c_4 := oX0c
    clear oX0c
    obtain ⟨aX0a, cX0a, rfl, _⟩ := oX0a_4.len
    obtain ⟨aX0b, cX0b, rfl, _⟩ := oX0b_4.len
    obtain ⟨aX0c, cX0c, rfl, _⟩ := oX0c_4.len
    have hn5 : New w4 (w4.alloc (.cells #[.slice aX0a xa0.length cX0a, .slice aX0b xb0.length cX0b, .slice aX0c x0.length cX0c] 33)) := (Kp.refl _ _).alloc _
    have z5 : w4.heap.size < (w4.alloc (.cells #[.slice aX0a xa0.length cX0a, .slice aX0b xb0.length cX0b, .slice aX0c x0.length cX0c] 33)).heap.size := by simp
    have N5 : New w (w4.alloc (.cells #[.slice aX0a xa0.length cX0a, .slice aX0b xb0.length cX0b, .slice aX0c x0.length cX0c] 33)) := N4.trans hn5
    have bA0_5 := heap_new hn5 bA0_4
    have oX0a_5 := oX0a_4.new (by omega) hn5
    have oX0b_5 := oX0b_4.new (by omega) hn5
    have oX0c_5 := oX0c_4.new (by omega) hn5
    have bX0_5 : (w4.alloc (.cells #[.slice aX0a xa0.length cX0a, .slice aX0b xb0.length cX0b, .slice aX0c x0.length cX0c] 33)).heap[w4.heap.size]? = some (.cells #[.slice aX0a xa0.length cX0a, .slice aX0b xb0.length cX0b, .slice aX0c x0.length cX0c] 33) := alloc_heap _ _
    clear bA0_4 oX0a_4 oX0b_4 oX0c_4 hn5
    have bA0_5_c0 := cell_of_heap bA0_5 0
    have bA0_5_c1 := cell_of_heap bA0_5 1
    have bA0_5_c2 := cell_of_heap bA0_5 2
    have bX0_5_c0 := cell_of_heap bX0_5 0
    have bX0_5_c1 := cell_of_heap bX0_5 1
    have bX0_5_c2 := cell_of_heap bX0_5 2
    go_wp2_with fail
    generalize (w4.alloc (.cells #[.slice aX0a xa0.length cX0a, .slice aX0b xb0.length cX0b, .slice aX0c x0.length cX0c] 33)) = w5 at *
    refine (FlowI.implC oX0a_5 oX0b_5 oX0c_5 (by omega)).mono ?_
    rintro e w6 ⟨rfl, hn6⟩
    have z6 : w5.heap.size ≤ w6.heap.size := hn6.size
    have N6 : New w w6 := N5.trans hn6
    have bA0_6 := heap_new hn6 bA0_5
    have bX0_6 := heap_new hn6 bX0_5
    have oX0a_6 := oX0a_5.new (by omega) hn6
    have oX0b_6 := oX0b_5.new (by omega) hn6
    have oX0c_6 := oX0c_5.new (by omega) hn6
    clear bA0_5_c0 bA0_5_c1 bA0_5_c2 bX0_5_c0 bX0_5_c1 bX0_5_c2
    clear bA0_5 bX0_5 oX0a_5 oX0b_5 oX0c_5 hn6
    rw [hbb]
    clear hbb
    have bA0_6_c0 := cell_of_heap bA0_6 0
    have bA0_6_c1 := cell_of_heap bA0_6 1
    have bA0_6_c2 := cell_of_heap bA0_6 2
    have bX0_6_c0 := cell_of_heap bX0_6 0
    have bX0_6_c1 := cell_of_heap bX0_6 1
    have bX0_6_c2 := cell_of_heap bX0_6 2
    go_wp2_with fail
    have hn7 : New w6 w6.drew := (Kp.refl _ _).drew
    have z7 : w6.heap.size ≤ w6.drew.heap.size := hn7.size
    have N7 : New w w6.drew := N6.trans hn7
    have bA0_7 := heap_new hn7 bA0_6
    have bX0_7 := heap_new hn7 bX0_6
    have oX0a_7 := oX0a_6.new (by omega) hn7
    have oX0b_7 := oX0b_6.new (by omega) hn7
    have oX0c_7 := oX0c_6.new (by omega) hn7
    clear bA0_6_c0 bA0_6_c1 bA0_6_c2 bX0_6_c0 bX0_6_c1 bX0_6_c2
    clear bA0_6 bX0_6 oX0a_6 oX0b_6 oX0c_6 hn7
    have bA0_7_c0 := cell_of_heap bA0_7 0
    have bA0_7_c1 := cell_of_heap bA0_7 1
    have bA0_7_c2 := cell_of_heap bA0_7 2
    have bX0_7_c0 := cell_of_heap bX0_7 0
    have bX0_7_c1 := cell_of_heap bX0_7 1
    have bX0_7_c2 := cell_of_heap bX0_7 2
    set_option maxRecDepth 100000 in
    go_region_held3 (fun w' => w'.cell? ⟨w.heap.size, 0, none⟩ = some (ta0) ∧ w'.cell? ⟨w.heap.size, 1, none⟩ = some (tb0) ∧ w'.cell? ⟨w.heap.size, 2, none⟩ = some (tc0) ∧ w'.cell? ⟨w4.heap.size, 0, none⟩ = some (.slice aX0a xa0.length cX0a) ∧ w'.cell? ⟨w4.heap.size, 1, none⟩ = some (.slice aX0b xb0.length cX0b) ∧ w'.cell? ⟨w4.heap.size, 2, none⟩ = some (.slice aX0c x0.length cX0c)) (first | (refine ⟨?_, ?_, ?_, ?_, ?_, ?_⟩ <;> assumption) | go_keep)
      (first
        | (go_at_call 32; refine (PgmF.eqProgram1 oX0a_8 oX0b_8 oX0c_8 oC0a_8 oC0b_8 oC0c_8 (by omega) (by omega)).mono ?_; rintro e w9 ⟨rfl, hn9⟩; have z9 : w8.heap.size ≤ w9.heap.size := hn9.size; have N9 : New w w9 := N8.trans hn9; have bA0_9 := heap_new hn9 bA0_8; have bX0_9 := heap_new hn9 bX0_8; have oX0a_9 := oX0a_8.new (by omega) hn9; have oX0b_9 := oX0b_8.new (by omega) hn9; have oX0c_9 := oX0c_8.new (by omega) hn9; have oC0a_9 := oC0a_8.new (by omega) hn9; have oC0b_9 := oC0b_8.new (by omega) hn9; have oC0c_9 := oC0c_8.new (by omega) hn9; clear bA0_8_c0 bA0_8_c1 bA0_8_c2 bX0_8_c0 bX0_8_c1 bX0_8_c2; clear bA0_8 bX0_8 oX0a_8 oX0b_8 oX0c_8 oC0a_8 oC0b_8 oC0c_8 hn9; have bA0_9_c0 := cell_of_heap bA0_9 0; have bA0_9_c1 := cell_of_heap bA0_9 1; have bA0_9_c2 := cell_of_heap bA0_9 2; have bX0_9_c0 := cell_of_heap bX0_9 0; have bX0_9_c1 := cell_of_heap bX0_9 1; have bX0_9_c2 := cell_of_heap bX0_9 2)
        | (go_at_call 31; refine (PgmF.toProgram _ 0 w.heap.size _ _ _ _ _ _ (sa0.new (Nat.le_refl _) N7) (sb0.new (Nat.le_refl _) N7) (s0.new (Nat.le_refl _) N7) (by omega) (by omega) (by omega) (by omega)).mono ?_; rintro e w8 ⟨vC0a, vC0b, vC0c, rfl, hn8, oC0a, oC0b, oC0c⟩; have z8 : w6.drew.heap.size ≤ w8.heap.size := hn8.size; have N8 : New w w8 := N7.trans hn8; have bA0_8 := heap_new hn8 bA0_7; have bX0_8 := heap_new hn8 bX0_7; have oX0a_8 := oX0a_7.new (by omega) hn8; have oX0b_8 := oX0b_7.new (by omega) hn8; have oX0c_8 := oX0c_7.new (by omega) hn8; clear bA0_7_c0 bA0_7_c1 bA0_7_c2 bX0_7_c0 bX0_7_c1 bX0_7_c2; clear bA0_7 bX0_7 oX0a_7 oX0b_7 oX0c_7 hn8; have oC0a_8 := oC0a; clear oC0a; have oC0b_8 := oC0b; clear oC0b; have oC0c_8 := oC0c; clear oC0c; have bA0_8_c0 := cell_of_heap bA0_8 0; have bA0_8_c1 := cell_of_heap bA0_8 1; have bA0_8_c2 := cell_of_heap bA0_8 2; have bX0_8_c0 := cell_of_heap bX0_8 0; have bX0_8_c1 := cell_of_heap bX0_8 1; have bX0_8_c2 := cell_of_heap bX0_8 2))
    clear oC0a_9
    clear oC0b_9
    clear oC0c_9
    go_wp2
    go_ret
    exact ⟨rfl, N9.toBelow⟩
  · go_enter Try.func11, Try.ntmps11
    go_wp2_with fail
    have N0 : New w (w.alloc (.cells #[ta0, tb0, tc0] 47)) := ((Kp.refl _ _).alloc _)
    have bA0_0 : (w.alloc (.cells #[ta0, tb0, tc0] 47)).heap[w.heap.size]? = some (.cells #[ta0, tb0, tc0] 47) := alloc_heap _ _
    have z0 : w.heap.size < (w.alloc (.cells #[ta0, tb0, tc0] 47)).heap.size := by simp
    generalize (w.alloc (.cells #[ta0, tb0, tc0] 47)) = w0 at *
    have bA0_0_c0 := cell_of_heap bA0_0 0
    have bA0_0_c1 := cell_of_heap bA0_0 1
    have bA0_0_c2 := cell_of_heap bA0_0 2
    refine (PgmF.szProgram _ 0 w.heap.size _ _ _ _ _ _ (sa0.new (Nat.le_refl _) N0) (sb0.new (Nat.le_refl _) N0) (s0.new (Nat.le_refl _) N0) (1048576) (by omega) (by omega) (by omega)).mono ?_
    rintro e w1 ⟨rfl, hn1⟩
    have z1 : w0.heap.size ≤ w1.heap.size := hn1.size
    have N1 : New w w1 := N0.trans hn1
    have bA0_1 := heap_new hn1 bA0_0
    clear bA0_0_c0 bA0_0_c1 bA0_0_c2
    clear bA0_0 hn1
    rw [szOf_lo (by omega)]
    have bA0_1_c0 := cell_of_heap bA0_1 0
    have bA0_1_c1 := cell_of_heap bA0_1 1
    have bA0_1_c2 := cell_of_heap bA0_1 2
    go_wp2
    go_ret
    exact ⟨rfl, N1.toBelow⟩
set_option maxRecDepth 100000 in
theorem lifted (os : Os) (started : os.Started) (H : Type) (enc : TypeId × Value → H) :
    ReturnsInHanded {} Try.checked os 11 .any (Rows.fnExactCheckFlowSpec.pre6 enc Try.prog Try.f11 Rows.fnExactCheckFlowRow.domain false) (Rows.fnExactCheckFlowSpec.post enc Try.prog Try.f11 false true false false) := by
  refine returnsInHanded_of_change (C := Try.checked) own started (by kernel_rfl) Try.func11
    (ChangeSpec.witness6 (enc := enc) (C := Try.checked) false ⟨#[], #[.agg #[.slice none 0 0, .slice none 0 0, .slice none 0 0]], []⟩ 8 (by kernel_rfl) (by kernel_rfl) (by kernel_rfl) (by kernel_rfl)) ?_
  intro W base args ds gs before hval0 hW hcnd _
  have hval : ∀ (j : Nat) t v, Try.f11.params[j]? = some t → args[j]? = some v → Value.okWide Try.prog W .any base t v := hval0
  have hW' := hW
  obtain ⟨p, q, hA0, hV, rfl, hfz, hnd⟩ := hW
  have hA : DataW.TrodAll enc Try.prog W 0 (fun _ => true) true Try.f11.params.toList args.toList ds p := hA0
  rw [Try.params11] at hA hval
  obtain ⟨v0, vs0, d0, ds0, p0, q0, hargs, rfl, rfl, h0, r0⟩ := trodAll_cons hA
  obtain ⟨rfl, rfl, rfl⟩ := trodAll_nil r0
  obtain rfl : args = #[v0] := by cases args; simp_all
  obtain ⟨rfl, rfl⟩ := trodVars_none hV
  have kk0 := h0
  have lt0 : ∀ x ∈ p0, x.block < W.heap.size := by obtain ⟨m, hm⟩ := kk0; exact DataW.trod_lt m _ _ _ hm
  obtain ⟨ta0, tb0, tc0, xa0, xb0, x0, rfl, sa0, sb0, s0⟩ := Open.programL (hval 0 47 v0 rfl rfl) h0
  clear hA0 hval0
  refine (walk ta0 tb0 tc0 xa0 xb0 x0 W sa0 sb0 s0).mono fun e W' ⟨he, bel⟩ => ?_
  subst he
  exact ⟨_, rfl, _, _, _, [], _, [], hW', trodAll_mk1 (shut_bool Try.underlying4 _), (trodAll_cons_mk (Below.trod laidOut (by kernel_rfl) (of_decide_eq_true (by kernel_rfl)) kk0 bel lt0) trodAll_mk0), rfl, bel.frame _, fun h => by cases h⟩
theorem over : Rows.fnExactCheckFlowRow.holds Try.pinned (OpenSpec.ofChange Rows.fnExactCheckFlowSpec) :=
  OpenClaim.holds_of_wide 11 Try.f11 rfl rfl rfl rfl rfl rfl rfl ⟨rfl, rfl, rfl, rfl, rfl⟩ rfl rfl rfl rfl rfl (by kernel_rfl) Try.func11 (by kernel_rfl)
    (of_decide_eq_true (by kernel_rfl)) (by unfold Func.isWrapper; first | (rw [if_pos (by decide +kernel)]; kernel_rfl) | (rw [if_neg (by decide +kernel)]; exact ⟨rfl, rfl⟩))
    (fun os started H enc _ => lifted os started H enc)
theorem proved : Rows.FnExactCheckFlowSaid := over
#print axioms proved
end Go.Proofs.Ytbnhhmgdkiomoaa.fnExactCheckFlow
