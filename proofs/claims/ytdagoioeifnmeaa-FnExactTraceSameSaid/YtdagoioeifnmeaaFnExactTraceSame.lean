/- FnExactTraceSame: for every input the law returns true, and the arguments read as they did. No conditions. -/
import Derived.Test.YtdagoioeifnmeaaRows
import Derived.Test.YtdagoioeifnmeaaDiff
import Derived.Test.YtdagoioeifnmeaaOpen
import Derived.WalkKit
import Derived.ProofKit
import Derived.OpenShut
import Derived.ShutString
import Derived.ChangeOld
import Derived.Below
namespace Go.Proofs.Ytdagoioeifnmeaa.fnExactTraceSame
open Go.ChangeShapes Go.WideShapes Go.ChangeAt Go.RowKit Kit
open Go.ChangeMaps (open_string shut_string)
set_option linter.unusedVariables false
theorem own : ownKnob Try.prog.godebug = none := by kernel_rfl
theorem laidOut : laidOutB Try.prog = true := by kernel_rfl
set_option maxHeartbeats 1000000 in
theorem walk (v0 : Value) (x0 : List Ev) (v1 : Value) (x1 : List Ev) (w : World) (s0 : EvsR w 0 w.heap.size v0 x0) (s1 : EvsR w 0 w.heap.size v1 x1) :
    Calls Try.prog 10 #[v0, v1] w fun e w' => e = .returned (.bool true) ∧ Below w.heap.size w w' := by
  obtain ⟨a0, c0, rfl, m0⟩ := s0.len
  obtain ⟨a1, c1, rfl, m1⟩ := s1.len
  by_cases h0 : x0.length ≤ 1048576
  · have e0 : szOf 1048576 x0.length = 1048576 - x0.length := szOf_hi (by omega)
    by_cases h1 : x1.length ≤ 1048576 - x0.length
    · have e1 : szOf (1048576 - x0.length) x1.length = 1048576 - x0.length - x1.length := szOf_hi (by omega)
      go_enter Try.func10, Try.ntmps10
      go_wp2_with (go_at_call 29; refine (LawF.szEventS _ _ _ _ _ (by omega) (by omega) (by omega)).mono ?_; rintro e w' ⟨rfl, rfl⟩)
      clear e0 e1
      refine (LawF.toEventS _ _ _ _ _ s0 (Nat.le_refl _) h0).mono ?_
      rintro e w1 ⟨p0, rfl, hN1, o0⟩
      go_wp2_with fail
      refine (LawF.toEventS _ _ _ _ _ (s1.new (Nat.le_refl _) hN1) (by have := hN1.size; omega) (by omega)).mono ?_
      rintro e w2 ⟨p1, rfl, hn2, o1⟩
      have hN2 := hN1.trans hn2
      have r0 := (o0.new hn2).reads
      have r1 := o1.reads
      go_wp2_with fail
      refine (Diff.specSame _ _ _ _ _ _ _ x0 x1 r0 r1).mono ?_
      rintro e w3 ⟨rfl, hn3⟩
      have hN3 := hN2.trans hn3
      clear r0 r1
      go_wp2_with fail
      refine (LawF.toEventS _ _ _ _ _ (s0.new (Nat.le_refl _) hN3) (by have := hN3.size; omega) h0).mono ?_
      rintro e w4 ⟨p2, rfl, hn4, o2⟩
      have hN4 := hN3.trans hn4
      go_wp2_with fail
      refine (LawF.toEventS _ _ _ _ _ (s1.new (Nat.le_refl _) hN4) (by have := hN4.size; omega) (by omega)).mono ?_
      rintro e w5 ⟨p3, rfl, hn5, o3⟩
      have hN5 := hN4.trans hn5
      have r2 := (o2.new hn5).reads
      have r3 := o3.reads
      go_wp2_with fail
      refine (Diff.implSame _ _ _ _ _ _ _ x0 x1 r2 r3).mono ?_
      rintro e w6 ⟨rfl, hn6⟩
      have hN6 := hN5.trans hn6
      go_wp2_with fail
      refine (LawF.toEventS _ _ _ _ _ (s0.new (Nat.le_refl _) hN6) (by have := hN6.size; omega) h0).mono ?_
      rintro e w7 ⟨p4, rfl, hn7, o4⟩
      have hN7 := hN6.trans hn7
      have r4 := ((o2.new hn5).new (hn6.trans hn7)).reads
      have r5 := o4.reads
      go_wp2_with fail
      refine (LawF.eqEventS _ _ _ _ _ _ _ x0 x0 r4 r5 (Nat.le_refl _) (Nat.le_refl _)).mono ?_
      rintro e w8 ⟨rfl, hn8⟩
      have hN8 := hN7.trans hn8
      clear r4 r5
      go_wp2_with fail
      refine (LawF.toEventS _ _ _ _ _ (s1.new (Nat.le_refl _) hN8) (by have := hN8.size; omega) (by omega)).mono ?_
      rintro e w9 ⟨p5, rfl, hn9, o5⟩
      have hN9 := hN8.trans hn9
      have r6 := (o3.new (hn6.trans (hn7.trans (hn8.trans hn9)))).reads
      have r7 := o5.reads
      go_wp2_with fail
      refine (LawF.eqEventS _ _ _ _ _ _ _ x1 x1 r6 r7 (Nat.le_refl _) (Nat.le_refl _)).mono ?_
      rintro e w10 ⟨rfl, hn10⟩
      have hN10 := hN9.trans hn10
      go_wp2
      go_ret
      exact ⟨rfl, hN10.toBelow⟩
    · have e1 : szOf (1048576 - x0.length) x1.length = -1 := szOf_lo (by omega)
      go_enter Try.func10, Try.ntmps10
      go_wp2_with (go_at_call 29; refine (LawF.szEventS _ _ _ _ _ (by omega) (by omega) (by omega)).mono ?_; rintro e w' ⟨rfl, rfl⟩)
      go_ret
      exact ⟨rfl, Below.refl _ _⟩
  · have e0 : szOf 1048576 x0.length = -1 := szOf_lo (by omega)
    go_enter Try.func10, Try.ntmps10
    go_wp2_with (go_at_call 29; refine (LawF.szEventS _ _ _ _ _ (by omega) (by omega) (by omega)).mono ?_; rintro e w' ⟨rfl, rfl⟩)
    go_ret
    exact ⟨rfl, Below.refl _ _⟩
set_option maxRecDepth 100000 in
theorem lifted (os : Os) (started : os.Started) (H : Type) (enc : TypeId × Value → H) :
    ReturnsInHanded {} Try.checked os 10 .any (Rows.fnExactTraceSameSpec.pre6 enc Try.prog Try.f10 Rows.fnExactTraceSameRow.domain false) (Rows.fnExactTraceSameSpec.post enc Try.prog Try.f10 false true false false) := by
  refine returnsInHanded_of_change (C := Try.checked) own started (by kernel_rfl) Try.func10
    (ChangeSpec.witness6 (enc := enc) (C := Try.checked) false ⟨#[], #[.slice none 0 0, .slice none 0 0], []⟩ 8 (by kernel_rfl) (by kernel_rfl) (by kernel_rfl) (by kernel_rfl)) ?_
  intro W base args ds gs before hval0 hW hcnd _
  have hval : ∀ (j : Nat) t v, Try.f10.params[j]? = some t → args[j]? = some v → Value.okWide Try.prog W .any base t v := hval0
  have hW' := hW
  obtain ⟨p, q, hA0, hV, rfl, hfz, hnd⟩ := hW
  have hA : DataW.TrodAll enc Try.prog W 0 (fun _ => true) true Try.f10.params.toList args.toList ds p := hA0
  rw [Try.params10] at hA hval
  obtain ⟨v0, vs0, d0, ds0, p0, q0, hargs, rfl, rfl, h0, r0⟩ := trodAll_cons hA
  obtain ⟨v1, vs1, d1, ds1, p1, q1, rfl, rfl, rfl, h1, r1⟩ := trodAll_cons r0
  obtain ⟨rfl, rfl, rfl⟩ := trodAll_nil r1
  obtain rfl : args = #[v0, v1] := by cases args; simp_all
  obtain ⟨rfl, rfl⟩ := trodVars_none hV
  have k0 := h0
  have lt0 : ∀ x ∈ p0, x.block < W.heap.size := by obtain ⟨m, hm⟩ := k0; exact DataW.trod_lt m _ _ _ hm
  obtain ⟨a0, l0, c0, ev0⟩ := okWide_slice Try.underlying30 (hval 0 30 v0 rfl rfl)
  obtain ⟨x0, s0⟩ : ∃ xs, EvsR W 0 W.heap.size v0 xs := by
    obtain ⟨fuel, hf⟩ := h0
    rw [ev0] at hf ⊢
    exact Open.evs Try.underlying30 Try.underlying58 rfl (by kernel_rfl) (by kernel_rfl) hf
  have k1 := h1
  have lt1 : ∀ x ∈ p1, x.block < W.heap.size := by obtain ⟨m, hm⟩ := k1; exact DataW.trod_lt m _ _ _ hm
  obtain ⟨a1, l1, c1, ev1⟩ := okWide_slice Try.underlying30 (hval 1 30 v1 rfl rfl)
  obtain ⟨x1, s1⟩ : ∃ xs, EvsR W 0 W.heap.size v1 xs := by
    obtain ⟨fuel, hf⟩ := h1
    rw [ev1] at hf ⊢
    exact Open.evs Try.underlying30 Try.underlying58 rfl (by kernel_rfl) (by kernel_rfl) hf
  clear hA0 hval0
  refine (walk v0 x0 v1 x1 W s0 s1).mono fun e W' ⟨he, bel⟩ => ?_
  subst he
  exact ⟨_, rfl, _, _, _, [], _, [], hW', trodAll_mk1 (shut_bool Try.underlying4 _), (trodAll_cons_mk (Below.trod laidOut (by kernel_rfl) (of_decide_eq_true (by kernel_rfl)) k0 bel lt0) (trodAll_cons_mk (Below.trod laidOut (by kernel_rfl) (of_decide_eq_true (by kernel_rfl)) k1 bel lt1) trodAll_mk0)), rfl, bel.frame _, fun h => by cases h⟩
theorem over : Rows.fnExactTraceSameRow.holds Try.pinned (OpenSpec.ofChange Rows.fnExactTraceSameSpec) :=
  OpenClaim.holds_of_wide 10 Try.f10 rfl rfl rfl rfl rfl rfl rfl ⟨rfl, rfl, rfl, rfl, rfl⟩ rfl rfl rfl rfl rfl (by kernel_rfl) Try.func10 (by kernel_rfl)
    (of_decide_eq_true (by kernel_rfl)) (by unfold Func.isWrapper; first | (rw [if_pos (by decide +kernel)]; kernel_rfl) | (rw [if_neg (by decide +kernel)]; exact ⟨rfl, rfl⟩))
    (fun os started H enc _ => lifted os started H enc)
theorem proved : Rows.FnExactTraceSameSaid := over
#print axioms proved
end Go.Proofs.Ytdagoioeifnmeaa.fnExactTraceSame
