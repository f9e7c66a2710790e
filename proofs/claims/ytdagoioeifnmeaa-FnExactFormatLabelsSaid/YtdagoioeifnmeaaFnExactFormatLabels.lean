/- FnExactFormatLabels: for every input the law returns true, and the arguments read as they did. No conditions. -/
import Derived.Test.YtdagoioeifnmeaaRows
import Derived.Test.YtdagoioeifnmeaaFmtL
import Derived.Test.YtdagoioeifnmeaaOpen
import Derived.WalkKit
import Derived.ProofKit
import Derived.OpenShut
import Derived.ShutString
import Derived.ChangeOld
import Derived.Below
namespace Go.Proofs.Ytdagoioeifnmeaa.fnExactFormatLabels
open Go.ChangeShapes Go.WideShapes Go.ChangeAt Go.RowKit Kit
open Go.ChangeMaps (open_string shut_string)
set_option linter.unusedVariables false
theorem own : ownKnob Try.prog.godebug = none := by kernel_rfl
theorem laidOut : laidOutB Try.prog = true := by kernel_rfl
set_option maxHeartbeats 1000000 in
theorem walk (v0 : Value) (x0 : List Int) (w : World) (s0 : IntsR w 0 w.heap.size v0 x0) :
    Calls Try.prog 11 #[v0] w fun e w' => e = .returned (.bool true) ∧ Below w.heap.size w w' := by
  obtain ⟨a0, c0, rfl, m0⟩ := s0.len
  by_cases h0 : x0.length ≤ 1048576
  · go_enter Try.func11, Try.ntmps11
    go_wp2_with fail
    refine (LawF.toIntS _ _ _ _ _ s0 (Nat.le_refl _) h0).mono ?_
    rintro e w1 ⟨pA, rfl, hn1, oA⟩
    have z1 : w.heap.size ≤ w1.heap.size := hn1.size
    have N1 : New w w1 := hn1
    clear hn1
    go_wp2_with fail
    refine (FmtL.specFmt _ _ _ _ x0 oA.reads (Nat.le_refl _) h0).mono ?_
    rintro e w2 ⟨rfl, hn2⟩
    have z2 : w1.heap.size ≤ w2.heap.size := hn2.size
    have N2 : New w w2 := N1.trans hn2
    clear hn2
    clear oA
    go_wp2_with fail
    refine (LawF.toIntS _ _ _ _ _ (s0.new (Nat.le_refl _) N2) (by omega) h0).mono ?_
    rintro e w3 ⟨pX, rfl, hn3, oX⟩
    have z3 : w2.heap.size ≤ w3.heap.size := hn3.size
    have N3 : New w w3 := N2.trans hn3
    clear hn3
    have rX := oX.lt
    go_wp2_with fail
    refine (FmtL.implFmt _ _ _ _ x0 oX.reads (Nat.le_refl _) h0).mono ?_
    rintro e w4 ⟨rfl, hn4⟩
    have z4 : w3.heap.size ≤ w4.heap.size := hn4.size
    have N4 : New w w4 := N3.trans hn4
    have X_4 := oX.new hn4
    clear oX
    clear hn4
    go_wp2_with fail
    refine (LawF.toIntS _ _ _ _ _ (s0.new (Nat.le_refl _) N4) (by omega) h0).mono ?_
    rintro e w5 ⟨pY, rfl, hn5, oY⟩
    have z5 : w4.heap.size ≤ w5.heap.size := hn5.size
    have N5 : New w w5 := N4.trans hn5
    have X_5 := X_4.new hn5
    clear X_4
    clear hn5
    have rY := oY.lt
    go_wp2_with fail
    refine (newOf (LawF.eqIntS _ _ _ _ _ _ _ _ _ X_5.reads oY.reads)).mono ?_
    rintro e w6 ⟨rfl, hn6⟩
    have z6 : w5.heap.size ≤ w6.heap.size := hn6.size
    have N6 : New w w6 := N5.trans hn6
    have X_6 := X_5.new hn6
    clear X_5
    have Y_6 := oY.new hn6
    clear oY
    clear hn6
    go_wp2
    go_ret
    exact ⟨rfl, N6.toBelow⟩
  · go_enter Try.func11, Try.ntmps11
    go_wp2
    go_ret
    exact ⟨rfl, Below.refl _ _⟩
set_option maxRecDepth 100000 in
theorem lifted (os : Os) (started : os.Started) (H : Type) (enc : TypeId × Value → H) :
    ReturnsInHanded {} Try.checked os 11 .any (Rows.fnExactFormatLabelsSpec.pre6 enc Try.prog Try.f11 Rows.fnExactFormatLabelsRow.domain false) (Rows.fnExactFormatLabelsSpec.post enc Try.prog Try.f11 false true false false) := by
  refine returnsInHanded_of_change (C := Try.checked) own started (by kernel_rfl) Try.func11
    (ChangeSpec.witness6 (enc := enc) (C := Try.checked) false ⟨#[], #[.slice none 0 0], []⟩ 8 (by kernel_rfl) (by kernel_rfl) (by kernel_rfl) (by kernel_rfl)) ?_
  intro W base args ds gs before hval0 hW hcnd _
  have hval : ∀ (j : Nat) t v, Try.f11.params[j]? = some t → args[j]? = some v → Value.okWide Try.prog W .any base t v := hval0
  have hW' := hW
  obtain ⟨p, q, hA0, hV, rfl, hfz, hnd⟩ := hW
  have hA : DataW.TrodAll enc Try.prog W 0 (fun _ => true) true Try.f11.params.toList args.toList ds p := hA0
  rw [Try.params11] at hA hval
  obtain ⟨v0, vs0, d0, ds0, p0, q0, hargs, rfl, rfl, h0, r0⟩ := trodAll_cons hA
  obtain ⟨rfl, rfl, rfl⟩ := trodAll_nil r0
  obtain rfl : args = #[v0] := by cases args; simp_all
  obtain ⟨rfl, rfl⟩ := trodVars_none hV
  have kk0 := h0
  have lt0 : ∀ x ∈ p0, x.block < W.heap.size := by obtain ⟨m, hm⟩ := kk0; exact DataW.trod_lt m _ _ _ hm
  obtain ⟨a0, l0, c0, ev0⟩ := okWide_slice Try.underlying37 (hval 0 37 v0 rfl rfl)
  obtain ⟨x0, s0⟩ : ∃ xs, IntsR W 0 W.heap.size v0 xs := by
    obtain ⟨fuel, hf⟩ := h0
    rw [ev0] at hf ⊢
    exact Open.ints Try.underlying37 Try.underlying3 (by kernel_rfl) hf
  clear hA0 hval0
  refine (walk v0 x0 W s0).mono fun e W' ⟨he, bel⟩ => ?_
  subst he
  exact ⟨_, rfl, _, _, _, [], _, [], hW', trodAll_mk1 (shut_bool Try.underlying4 _), (trodAll_cons_mk (Below.trod laidOut (by kernel_rfl) (of_decide_eq_true (by kernel_rfl)) kk0 bel lt0) trodAll_mk0), rfl, bel.frame _, fun h => by cases h⟩
theorem over : Rows.fnExactFormatLabelsRow.holds Try.pinned (OpenSpec.ofChange Rows.fnExactFormatLabelsSpec) :=
  OpenClaim.holds_of_wide 11 Try.f11 rfl rfl rfl rfl rfl rfl rfl ⟨rfl, rfl, rfl, rfl, rfl⟩ rfl rfl rfl rfl rfl (by kernel_rfl) Try.func11 (by kernel_rfl)
    (of_decide_eq_true (by kernel_rfl)) (by unfold Func.isWrapper; first | (rw [if_pos (by decide +kernel)]; kernel_rfl) | (rw [if_neg (by decide +kernel)]; exact ⟨rfl, rfl⟩))
    (fun os started H enc _ => lifted os started H enc)
theorem proved : Rows.FnExactFormatLabelsSaid := over
#print axioms proved
end Go.Proofs.Ytdagoioeifnmeaa.fnExactFormatLabels
