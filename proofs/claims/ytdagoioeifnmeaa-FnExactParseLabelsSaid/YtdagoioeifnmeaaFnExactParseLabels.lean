/- FnExactParseLabels: for every input the law returns true, and the arguments read as they did. No conditions. -/
import Derived.Test.YtdagoioeifnmeaaRows
import Derived.Test.YtdagoioeifnmeaaParse
import Derived.Test.YtdagoioeifnmeaaMark
import Derived.WalkKit
import Derived.ProofKit
import Derived.OpenShut
import Derived.ShutString
import Derived.ChangeOld
import Derived.Below
namespace Go.Proofs.Ytdagoioeifnmeaa.fnExactParseLabels
open Go.ChangeShapes Go.WideShapes Go.ChangeAt Go.RowKit Kit
open Go.ChangeMaps (open_string shut_string)
set_option linter.unusedVariables false
theorem own : ownKnob Try.prog.godebug = none := by kernel_rfl
theorem laidOut : laidOutB Try.prog = true := by kernel_rfl
set_option maxHeartbeats 1000000 in
theorem walk (x0 : ByteArray) (w : World) (s0 : x0.size ≤ maxLen) :
    Calls Try.prog 9 #[.string x0] w fun e w' => e = .returned (.bool true) ∧ Below w.heap.size w w' := by
  by_cases h0 : x0.size ≤ 1048576
  · have hl : (Parse.parsed x0.data.toList).length ≤ 1048576 := by
      unfold Parse.parsed; split
      · simp [Parse.labs]; exact h0
      · simp
    go_enter Try.func9, Try.ntmps9
    go_wp2_with fail
    refine (Parse.specParse _ x0 h0).mono ?_
    rintro e w1 ⟨pW, rfl, hn1, oW⟩
    have z1 : w.heap.size ≤ w1.heap.size := hn1.size
    have N1 : New w w1 := hn1
    clear hn1
    have rW := oW.lt
    go_wp2_with fail
    refine (Parse.implParse _ x0 h0).mono ?_
    rintro e w2 ⟨pG, rfl, hn2, oG⟩
    have z2 : w1.heap.size ≤ w2.heap.size := hn2.size
    have N2 : New w w2 := N1.trans hn2
    have W_2 := oW.new hn2
    clear oW
    clear hn2
    have rG := oG.lt
    go_wp2_with fail
    refine (newOf (LawF.eqIntS _ _ _ _ _ _ _ _ _ oG.reads W_2.reads)).mono ?_
    rintro e w3 ⟨rfl, hn3⟩
    have z3 : w2.heap.size ≤ w3.heap.size := hn3.size
    have N3 : New w w3 := N2.trans hn3
    have W_3 := W_2.new hn3
    clear W_2
    have G_3 := oG.new hn3
    clear oG
    clear hn3
    go_wp2_with fail
    refine ((LawF.markIntS _ _ _ _ 1 G_3 (by omega) (by omega) (by omega))).mono ?_
    rintro e w4 ⟨rfl, hk4, G_4⟩
    have z4 : w3.heap.size ≤ w4.heap.size := hk4.size
    have N4 : New w w4 := New.on N3 hk4 (fun i hi => by have := rG i hi; omega)
    have W_4 := W_3.rng hk4 (fun b hb => (rW b hb).2) (fun i hi => by have := rG i hi; omega)
    clear W_3
    clear hk4 G_3
    go_wp2_with fail
    refine (LawF.heldIntS _ _ _ _ _ 1 G_4.reads (by omega) (by omega) (by omega)).mono ?_
    rintro e w' ⟨rfl, rfl⟩
    go_wp2_with fail
    refine (Parse.implParse _ x0 h0).mono ?_
    rintro e w5 ⟨pH, rfl, hn5, oH⟩
    have z5 : w4.heap.size ≤ w5.heap.size := hn5.size
    have N5 : New w w5 := N4.trans hn5
    have W_5 := W_4.new hn5
    clear W_4
    have G_5 := G_4.new hn5
    clear G_4
    clear hn5
    have rH := oH.lt
    go_wp2_with fail
    refine (newOf (LawF.eqIntS _ _ _ _ _ _ _ _ _ oH.reads W_5.reads)).mono ?_
    rintro e w6 ⟨rfl, hn6⟩
    have z6 : w5.heap.size ≤ w6.heap.size := hn6.size
    have N6 : New w w6 := N5.trans hn6
    have W_6 := W_5.new hn6
    clear W_5
    have G_6 := G_5.new hn6
    clear G_5
    have H_6 := oH.new hn6
    clear oH
    clear hn6
    go_wp2_with fail
    refine (LawF.heldIntS _ _ _ _ _ 1 G_6.reads (by omega) (by omega) (by omega)).mono ?_
    rintro e w' ⟨rfl, rfl⟩
    go_wp2
    go_ret
    exact ⟨rfl, N6.toBelow⟩
  · go_enter Try.func9, Try.ntmps9
    go_wp2
    go_ret
    exact ⟨rfl, Below.refl _ _⟩
set_option maxRecDepth 100000 in
theorem lifted (os : Os) (started : os.Started) (H : Type) (enc : TypeId × Value → H) :
    ReturnsInHanded {} Try.checked os 9 .any (Rows.fnExactParseLabelsSpec.pre6 enc Try.prog Try.f9 Rows.fnExactParseLabelsRow.domain false) (Rows.fnExactParseLabelsSpec.post enc Try.prog Try.f9 false true false false) := by
  refine returnsInHanded_of_change (C := Try.checked) own started (by kernel_rfl) Try.func9
    (ChangeSpec.witness6 (enc := enc) (C := Try.checked) false ⟨#[], #[.string ⟨#[]⟩], []⟩ 8 (by kernel_rfl) (by kernel_rfl) (by kernel_rfl) (by kernel_rfl)) ?_
  intro W base args ds gs before hval0 hW hcnd _
  have hval : ∀ (j : Nat) t v, Try.f9.params[j]? = some t → args[j]? = some v → Value.okWide Try.prog W .any base t v := hval0
  have hW' := hW
  obtain ⟨p, q, hA0, hV, rfl, hfz, hnd⟩ := hW
  have hA : DataW.TrodAll enc Try.prog W 0 (fun _ => true) true Try.f9.params.toList args.toList ds p := hA0
  rw [Try.params9] at hA hval
  obtain ⟨v0, vs0, d0, ds0, p0, q0, hargs, rfl, rfl, h0, r0⟩ := trodAll_cons hA
  obtain ⟨rfl, rfl, rfl⟩ := trodAll_nil r0
  obtain rfl : args = #[v0] := by cases args; simp_all
  obtain ⟨rfl, rfl⟩ := trodVars_none hV
  have k0 := h0
  have lt0 : ∀ x ∈ p0, x.block < W.heap.size := by obtain ⟨m, hm⟩ := k0; exact DataW.trod_lt m _ _ _ hm
  obtain ⟨x0, rfl, _, _, s0⟩ := open_string Try.underlying9 (hval 0 9 v0 rfl rfl) h0
  clear hA0 hval0
  refine (walk x0 W s0).mono fun e W' ⟨he, bel⟩ => ?_
  subst he
  exact ⟨_, rfl, _, _, _, [], _, [], hW', trodAll_mk1 (shut_bool Try.underlying4 _), (trodAll_cons_mk (Below.trod laidOut (by kernel_rfl) (of_decide_eq_true (by kernel_rfl)) k0 bel lt0) trodAll_mk0), rfl, bel.frame _, fun h => by cases h⟩
theorem over : Rows.fnExactParseLabelsRow.holds Try.pinned (OpenSpec.ofChange Rows.fnExactParseLabelsSpec) :=
  OpenClaim.holds_of_wide 9 Try.f9 rfl rfl rfl rfl rfl rfl rfl ⟨rfl, rfl, rfl, rfl, rfl⟩ rfl rfl rfl rfl rfl (by kernel_rfl) Try.func9 (by kernel_rfl)
    (of_decide_eq_true (by kernel_rfl)) (by unfold Func.isWrapper; first | (rw [if_pos (by decide +kernel)]; kernel_rfl) | (rw [if_neg (by decide +kernel)]; exact ⟨rfl, rfl⟩))
    (fun os started H enc _ => lifted os started H enc)
theorem proved : Rows.FnExactParseLabelsSaid := over
#print axioms proved
end Go.Proofs.Ytdagoioeifnmeaa.fnExactParseLabels
