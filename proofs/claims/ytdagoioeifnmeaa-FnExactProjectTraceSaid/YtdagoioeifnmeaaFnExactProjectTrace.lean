/- FnExactProjectTrace: for every input the law returns true, and the arguments read as they did. No conditions. -/
import Derived.Test.YtdagoioeifnmeaaRows
import Derived.Test.YtdagoioeifnmeaaProj
import Derived.Test.YtdagoioeifnmeaaMark
import Derived.Test.YtdagoioeifnmeaaOpen
import Derived.WalkKit
import Derived.ProofKit
import Derived.OpenShut
import Derived.ShutString
import Derived.ChangeOld
import Derived.Below
namespace Go.Proofs.Ytdagoioeifnmeaa.fnExactProjectTrace
open Go.ChangeShapes Go.WideShapes Go.ChangeAt Go.RowKit Kit
open Go.ChangeMaps (open_string shut_string)
set_option linter.unusedVariables false
theorem own : ownKnob Try.prog.godebug = none := by kernel_rfl
theorem laidOut : laidOutB Try.prog = true := by kernel_rfl
set_option maxHeartbeats 1000000 in
theorem walk (v0 : Value) (x0 : List Ev) (w : World) (s0 : EvsR w 0 w.heap.size v0 x0) :
    Calls Try.prog 12 #[v0] w fun e w' => e = .returned (.bool true) ∧ Below w.heap.size w w' := by
  obtain ⟨a0, c0, rfl, m0⟩ := s0.len
  by_cases h0 : x0.length ≤ 1048576
  · have e0 : szOf 1048576 x0.length = 1048576 - x0.length := szOf_hi (by omega)
    go_enter Try.func12, Try.ntmps12
    go_wp2_with (go_at_call 29; refine (LawF.szEventS _ _ _ _ _ (by omega) (by omega) (by omega)).mono ?_; rintro e w' ⟨rfl, rfl⟩)
    clear e0
    refine (LawF.toEventS _ _ _ _ _ s0 (by omega) h0).mono ?_
    rintro e w1 ⟨pA, rfl, hn1, oA⟩
    have z1 : w.heap.size ≤ w1.heap.size := hn1.size
    have N1 : New w w1 := hn1
    clear hn1
    go_wp2_with fail
    refine (Proj.specProj _ _ _ _ x0 oA.reads (Nat.le_refl _) h0).mono ?_
    rintro e w2 ⟨pW, rfl, hn2, oW⟩
    have z2 : w1.heap.size ≤ w2.heap.size := hn2.size
    have N2 : New w w2 := N1.trans hn2
    clear hn2
    have rW := oW.lt
    have hl : (x0.filter Proj.keep).length ≤ 1048576 := Nat.le_trans (List.length_filter_le _ _) h0
    go_wp2_with fail
    refine (LawF.toEventS _ _ _ _ _ (s0.new (Nat.le_refl _) N2) (by omega) h0).mono ?_
    rintro e w3 ⟨pX, rfl, hn3, oX⟩
    have z3 : w2.heap.size ≤ w3.heap.size := hn3.size
    have N3 : New w w3 := N2.trans hn3
    have W_3 := oW.new hn3
    clear oW
    clear hn3
    have rX := oX.lt
    go_wp2_with fail
    refine (Proj.implProj _ _ _ _ x0 oX.reads (Nat.le_refl _) h0).mono ?_
    rintro e w4 ⟨pG, rfl, hn4, oG⟩
    have z4 : w3.heap.size ≤ w4.heap.size := hn4.size
    have N4 : New w w4 := N3.trans hn4
    have W_4 := W_3.new hn4
    clear W_3
    have X_4 := oX.new hn4
    clear oX
    clear hn4
    have rG := oG.lt
    go_wp2_with fail
    refine (LawF.eqEventS _ _ _ _ _ _ _ _ _ oG.reads W_4.reads (Nat.le_refl _) (Nat.le_refl _)).mono ?_
    rintro e w5 ⟨rfl, hn5⟩
    have z5 : w4.heap.size ≤ w5.heap.size := hn5.size
    have N5 : New w w5 := N4.trans hn5
    have W_5 := W_4.new hn5
    clear W_4
    have X_5 := X_4.new hn5
    clear X_4
    have G_5 := oG.new hn5
    clear oG
    clear hn5
    go_wp2_with fail
    refine (LawF.toEventS _ _ _ _ _ (s0.new (Nat.le_refl _) N5) (by omega) h0).mono ?_
    rintro e w6 ⟨pY, rfl, hn6, oY⟩
    have z6 : w5.heap.size ≤ w6.heap.size := hn6.size
    have N6 : New w w6 := N5.trans hn6
    have W_6 := W_5.new hn6
    clear W_5
    have X_6 := X_5.new hn6
    clear X_5
    have G_6 := G_5.new hn6
    clear G_5
    clear hn6
    have rY := oY.lt
    go_wp2_with fail
    refine (LawF.eqEventS _ _ _ _ _ _ _ _ _ X_6.reads oY.reads (Nat.le_refl _) (Nat.le_refl _)).mono ?_
    rintro e w7 ⟨rfl, hn7⟩
    have z7 : w6.heap.size ≤ w7.heap.size := hn7.size
    have N7 : New w w7 := N6.trans hn7
    have W_7 := W_6.new hn7
    clear W_6
    have X_7 := X_6.new hn7
    clear X_6
    have G_7 := G_6.new hn7
    clear G_6
    have Y_7 := oY.new hn7
    clear oY
    clear hn7
    clear Y_7
    go_wp2_with fail
    refine ((LawF.markEventS _ _ _ _ 1 X_7 (by omega) (by omega) (by omega))).mono ?_
    rintro e w8 ⟨rfl, hk8, X_8⟩
    have z8 : w7.heap.size ≤ w8.heap.size := hk8.size
    have N8 : New w w8 := New.on N7 hk8 (fun i hi => by have := rX i hi; omega)
    have W_8 := W_7.rng hk8 (fun b hb => (rW b hb).2) (fun i hi => by have := rX i hi; omega)
    clear W_7
    have G_8 := G_7.rng hk8 (fun b hb => (rG b hb).2) (fun i hi => by have := rX i hi; omega)
    clear G_7
    clear hk8 X_7
    go_wp2_with fail
    clear X_8
    refine (LawF.eqEventS _ _ _ _ _ _ _ _ _ G_8.reads W_8.reads (Nat.le_refl _) (Nat.le_refl _)).mono ?_
    rintro e w9 ⟨rfl, hn9⟩
    have z9 : w8.heap.size ≤ w9.heap.size := hn9.size
    have N9 : New w w9 := N8.trans hn9
    have W_9 := W_8.new hn9
    clear W_8
    have G_9 := G_8.new hn9
    clear G_8
    clear hn9
    go_wp2_with fail
    refine ((LawF.markEventS _ _ _ _ 1 G_9 (by omega) (by omega) (by omega))).mono ?_
    rintro e w10 ⟨rfl, hk10, G_10⟩
    have z10 : w9.heap.size ≤ w10.heap.size := hk10.size
    have N10 : New w w10 := New.on N9 hk10 (fun i hi => by have := rG i hi; omega)
    have W_10 := W_9.rng hk10 (fun b hb => (rW b hb).2) (fun i hi => by have := rG i hi; omega)
    clear W_9
    clear hk10 G_9
    go_wp2_with fail
    refine (LawF.heldEventS _ _ _ _ _ 1 G_10.reads (by omega) (by omega) (by omega)).mono ?_
    rintro e w' ⟨rfl, rfl⟩
    go_wp2_with fail
    refine (LawF.toEventS _ _ _ _ _ (s0.new (Nat.le_refl _) N10) (by omega) h0).mono ?_
    rintro e w11 ⟨pZ, rfl, hn11, oZ⟩
    have z11 : w10.heap.size ≤ w11.heap.size := hn11.size
    have N11 : New w w11 := N10.trans hn11
    have W_11 := W_10.new hn11
    clear W_10
    have G_11 := G_10.new hn11
    clear G_10
    clear hn11
    go_wp2_with fail
    refine (Proj.implProj _ _ _ _ x0 oZ.reads (Nat.le_refl _) h0).mono ?_
    rintro e w12 ⟨pH, rfl, hn12, oH⟩
    have z12 : w11.heap.size ≤ w12.heap.size := hn12.size
    have N12 : New w w12 := N11.trans hn12
    have W_12 := W_11.new hn12
    clear W_11
    have G_12 := G_11.new hn12
    clear G_11
    clear hn12
    have rH := oH.lt
    go_wp2_with fail
    refine (LawF.eqEventS _ _ _ _ _ _ _ _ _ oH.reads W_12.reads (Nat.le_refl _) (Nat.le_refl _)).mono ?_
    rintro e w13 ⟨rfl, hn13⟩
    have z13 : w12.heap.size ≤ w13.heap.size := hn13.size
    have N13 : New w w13 := N12.trans hn13
    have W_13 := W_12.new hn13
    clear W_12
    have G_13 := G_12.new hn13
    clear G_12
    have H_13 := oH.new hn13
    clear oH
    clear hn13
    go_wp2_with fail
    refine (LawF.heldEventS _ _ _ _ _ 1 G_13.reads (by omega) (by omega) (by omega)).mono ?_
    rintro e w' ⟨rfl, rfl⟩
    go_wp2
    go_ret
    exact ⟨rfl, N13.toBelow⟩
  · have e0 : szOf 1048576 x0.length = -1 := szOf_lo (by omega)
    go_enter Try.func12, Try.ntmps12
    go_wp2_with (go_at_call 29; refine (LawF.szEventS _ _ _ _ _ (by omega) (by omega) (by omega)).mono ?_; rintro e w' ⟨rfl, rfl⟩)
    go_ret
    exact ⟨rfl, Below.refl _ _⟩
set_option maxRecDepth 100000 in
theorem lifted (os : Os) (started : os.Started) (H : Type) (enc : TypeId × Value → H) :
    ReturnsInHanded {} Try.checked os 12 .any (Rows.fnExactProjectTraceSpec.pre6 enc Try.prog Try.f12 Rows.fnExactProjectTraceRow.domain false) (Rows.fnExactProjectTraceSpec.post enc Try.prog Try.f12 false true false false) := by
  refine returnsInHanded_of_change (C := Try.checked) own started (by kernel_rfl) Try.func12
    (ChangeSpec.witness6 (enc := enc) (C := Try.checked) false ⟨#[], #[.slice none 0 0], []⟩ 8 (by kernel_rfl) (by kernel_rfl) (by kernel_rfl) (by kernel_rfl)) ?_
  intro W base args ds gs before hval0 hW hcnd _
  have hval : ∀ (j : Nat) t v, Try.f12.params[j]? = some t → args[j]? = some v → Value.okWide Try.prog W .any base t v := hval0
  have hW' := hW
  obtain ⟨p, q, hA0, hV, rfl, hfz, hnd⟩ := hW
  have hA : DataW.TrodAll enc Try.prog W 0 (fun _ => true) true Try.f12.params.toList args.toList ds p := hA0
  rw [Try.params12] at hA hval
  obtain ⟨v0, vs0, d0, ds0, p0, q0, hargs, rfl, rfl, h0, r0⟩ := trodAll_cons hA
  obtain ⟨rfl, rfl, rfl⟩ := trodAll_nil r0
  obtain rfl : args = #[v0] := by cases args; simp_all
  obtain ⟨rfl, rfl⟩ := trodVars_none hV
  have k0 := h0
  have lt0 : ∀ x ∈ p0, x.block < W.heap.size := by obtain ⟨m, hm⟩ := k0; exact DataW.trod_lt m _ _ _ hm
  obtain ⟨a0, l0, c0, ev0⟩ := okWide_slice Try.underlying30 (hval 0 30 v0 rfl rfl)
  obtain ⟨x0, s0⟩ : ∃ xs, EvsR W 0 W.heap.size v0 xs := by
    obtain ⟨fuel, hf⟩ := h0
    rw [ev0] at hf ⊢
    exact Open.evs Try.underlying30 Try.underlying58 rfl (by kernel_rfl) (by kernel_rfl) hf
  clear hA0 hval0
  refine (walk v0 x0 W s0).mono fun e W' ⟨he, bel⟩ => ?_
  subst he
  exact ⟨_, rfl, _, _, _, [], _, [], hW', trodAll_mk1 (shut_bool Try.underlying4 _), (trodAll_cons_mk (Below.trod laidOut (by kernel_rfl) (of_decide_eq_true (by kernel_rfl)) k0 bel lt0) trodAll_mk0), rfl, bel.frame _, fun h => by cases h⟩
theorem over : Rows.fnExactProjectTraceRow.holds Try.pinned (OpenSpec.ofChange Rows.fnExactProjectTraceSpec) :=
  OpenClaim.holds_of_wide 12 Try.f12 rfl rfl rfl rfl rfl rfl rfl ⟨rfl, rfl, rfl, rfl, rfl⟩ rfl rfl rfl rfl rfl (by kernel_rfl) Try.func12 (by kernel_rfl)
    (of_decide_eq_true (by kernel_rfl)) (by unfold Func.isWrapper; first | (rw [if_pos (by decide +kernel)]; kernel_rfl) | (rw [if_neg (by decide +kernel)]; exact ⟨rfl, rfl⟩))
    (fun os started H enc _ => lifted os started H enc)
theorem proved : Rows.FnExactProjectTraceSaid := over
#print axioms proved
end Go.Proofs.Ytdagoioeifnmeaa.fnExactProjectTrace
