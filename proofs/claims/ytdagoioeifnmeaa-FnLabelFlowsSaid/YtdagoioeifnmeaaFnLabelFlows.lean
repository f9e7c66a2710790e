/- FnLabelFlows: for every input the law returns true, and the arguments read as they did. No conditions. -/
import Derived.Test.YtdagoioeifnmeaaRows
import Derived.Test.YtdagoioeifnmeaaDrawL
import Derived.Test.YtdagoioeifnmeaaLabP
import Derived.WalkKit
import Derived.ProofKit
import Derived.OpenShut
import Derived.ShutString
import Derived.ChangeOld
import Derived.Below
namespace Go.Proofs.Ytdagoioeifnmeaa.fnLabelFlows
open Go.ChangeShapes Go.WideShapes Go.ChangeAt Go.RowKit Kit
open Go.ChangeMaps (open_string shut_string)
set_option linter.unusedVariables false
theorem own : ownKnob Try.prog.godebug = none := by kernel_rfl
theorem laidOut : laidOutB Try.prog = true := by kernel_rfl
set_option maxHeartbeats 1000000 in
theorem walk (a0 : Option Addr) (l0 c0 : Nat) (a1 : Option Addr) (l1 c1 : Nat) (w : World) (s0 : Kit.Src w a0 l0 c0) (s1 : Kit.Src w a1 l1 c1) :
    Calls Try.prog 3 #[.slice a0 l0 c0, .slice a1 l1 c1] w fun e w' => e = .returned (.bool true) ∧ Below w.heap.size w w' := by
  by_cases hl : 1048576 < l0
  · go_enter Try.func3, Try.ntmps3
    go_wp2
    go_ret
    exact ⟨rfl, Below.refl _ _⟩
  · by_cases hl1 : 1048576 < l1
    · go_enter Try.func3, Try.ntmps3
      go_wp2
      go_ret
      exact ⟨rfl, Below.refl _ _⟩
    · go_enter Try.func3, Try.ntmps3
      go_wp2_with fail
      refine (DrawL.drawFlows w a0 l0 c0 s0).mono ?_
      rintro e w1 ⟨a, b, rfl, hN1⟩
      go_wp2_with fail
      refine (DrawL.drawFlows w1 a1 l1 c1 (s1.keep hN1)).mono ?_
      rintro e w2 ⟨_d, c, rfl, hN2⟩
      have hN := (hN1.trans hN2).toBelow
      have g0 := Lab.leL_refl a
      have hj := Lab.leL_join a b
      cases h1 : Lab.leL a b
      · rw [h1] at hj
        cases ha : Lab.okL a
        · clear hj
          rw [ha] at g0
          go_wp2_with (first | (go_at_call 15; refine (Lab.implLabelFlows _ _ _ ).mono ?_; rintro e w' ⟨rfl, rfl⟩) | (go_at_call 16; refine (Lab.specLabelFlows _ _ _ ).mono ?_; rintro e w' ⟨rfl, rfl⟩) | (go_at_call 17; refine (Lab.implLabelValid _ _ ).mono ?_; rintro e w' ⟨rfl, rfl⟩) | (go_at_call 18; refine (Lab.specLabelValid _ _ ).mono ?_; rintro e w' ⟨rfl, rfl⟩) | (go_at_call 19; refine (Lab.implJoinLabels _ _ _ ).mono ?_; rintro e w' ⟨rfl, rfl⟩))
          go_ret
          exact ⟨rfl, hN⟩
        · rw [ha] at g0
          cases hb : Lab.okL b
          · clear hj
            go_wp2_with (first | (go_at_call 15; refine (Lab.implLabelFlows _ _ _ ).mono ?_; rintro e w' ⟨rfl, rfl⟩) | (go_at_call 16; refine (Lab.specLabelFlows _ _ _ ).mono ?_; rintro e w' ⟨rfl, rfl⟩) | (go_at_call 17; refine (Lab.implLabelValid _ _ ).mono ?_; rintro e w' ⟨rfl, rfl⟩) | (go_at_call 18; refine (Lab.specLabelValid _ _ ).mono ?_; rintro e w' ⟨rfl, rfl⟩) | (go_at_call 19; refine (Lab.implJoinLabels _ _ _ ).mono ?_; rintro e w' ⟨rfl, rfl⟩))
            go_ret
            exact ⟨rfl, hN⟩
          · have hj2 : (Lab.joinL a b == b) = false := by simpa [ha, hb] using hj.symm
            clear hj
            go_wp2_with (first | (go_at_call 15; refine (Lab.implLabelFlows _ _ _ ).mono ?_; rintro e w' ⟨rfl, rfl⟩) | (go_at_call 16; refine (Lab.specLabelFlows _ _ _ ).mono ?_; rintro e w' ⟨rfl, rfl⟩) | (go_at_call 17; refine (Lab.implLabelValid _ _ ).mono ?_; rintro e w' ⟨rfl, rfl⟩) | (go_at_call 18; refine (Lab.specLabelValid _ _ ).mono ?_; rintro e w' ⟨rfl, rfl⟩) | (go_at_call 19; refine (Lab.implJoinLabels _ _ _ ).mono ?_; rintro e w' ⟨rfl, rfl⟩))
            go_ret
            exact ⟨rfl, hN⟩
      · have ha : Lab.okL a = true := by rw [h1] at hj; simp only [Bool.true_eq, Bool.and_eq_true] at hj; exact hj.1.1
        have hb : Lab.okL b = true := by rw [h1] at hj; simp only [Bool.true_eq, Bool.and_eq_true] at hj; exact hj.1.2
        have hj2 : (Lab.joinL a b == b) = true := by rw [h1] at hj; simp only [Bool.true_eq, Bool.and_eq_true] at hj; exact hj.2
        clear hj
        rw [ha] at g0
        cases h2 : Lab.leL b a
        · cases h3 : Lab.leL b c
          · go_wp2_with (first | (go_at_call 15; refine (Lab.implLabelFlows _ _ _ ).mono ?_; rintro e w' ⟨rfl, rfl⟩) | (go_at_call 16; refine (Lab.specLabelFlows _ _ _ ).mono ?_; rintro e w' ⟨rfl, rfl⟩) | (go_at_call 17; refine (Lab.implLabelValid _ _ ).mono ?_; rintro e w' ⟨rfl, rfl⟩) | (go_at_call 18; refine (Lab.specLabelValid _ _ ).mono ?_; rintro e w' ⟨rfl, rfl⟩) | (go_at_call 19; refine (Lab.implJoinLabels _ _ _ ).mono ?_; rintro e w' ⟨rfl, rfl⟩))
            go_ret
            exact ⟨rfl, hN⟩
          · have h4 := Lab.leL_trans h1 h3
            go_wp2_with (first | (go_at_call 15; refine (Lab.implLabelFlows _ _ _ ).mono ?_; rintro e w' ⟨rfl, rfl⟩) | (go_at_call 16; refine (Lab.specLabelFlows _ _ _ ).mono ?_; rintro e w' ⟨rfl, rfl⟩) | (go_at_call 17; refine (Lab.implLabelValid _ _ ).mono ?_; rintro e w' ⟨rfl, rfl⟩) | (go_at_call 18; refine (Lab.specLabelValid _ _ ).mono ?_; rintro e w' ⟨rfl, rfl⟩) | (go_at_call 19; refine (Lab.implJoinLabels _ _ _ ).mono ?_; rintro e w' ⟨rfl, rfl⟩))
            go_ret
            exact ⟨rfl, hN⟩
        · have hab := Lab.leL_anti h1 h2
          subst hab
          cases h3 : Lab.leL a c
          all_goals
            go_wp2_with (first | (go_at_call 15; refine (Lab.implLabelFlows _ _ _ ).mono ?_; rintro e w' ⟨rfl, rfl⟩) | (go_at_call 16; refine (Lab.specLabelFlows _ _ _ ).mono ?_; rintro e w' ⟨rfl, rfl⟩) | (go_at_call 17; refine (Lab.implLabelValid _ _ ).mono ?_; rintro e w' ⟨rfl, rfl⟩) | (go_at_call 18; refine (Lab.specLabelValid _ _ ).mono ?_; rintro e w' ⟨rfl, rfl⟩) | (go_at_call 19; refine (Lab.implJoinLabels _ _ _ ).mono ?_; rintro e w' ⟨rfl, rfl⟩))
            go_ret
            exact ⟨rfl, hN⟩
set_option maxRecDepth 100000 in
theorem lifted (os : Os) (started : os.Started) (H : Type) (enc : TypeId × Value → H) :
    ReturnsInHanded {} Try.checked os 3 .any (Rows.fnLabelFlowsSpec.pre6 enc Try.prog Try.f3 Rows.fnLabelFlowsRow.domain false) (Rows.fnLabelFlowsSpec.post enc Try.prog Try.f3 false true false false) := by
  refine returnsInHanded_of_change (C := Try.checked) own started (by kernel_rfl) Try.func3
    (ChangeSpec.witness6 (enc := enc) (C := Try.checked) false ⟨#[], #[.slice none 0 0, .slice none 0 0], []⟩ 8 (by kernel_rfl) (by kernel_rfl) (by kernel_rfl) (by kernel_rfl)) ?_
  intro W base args ds gs before hval0 hW hcnd _
  have hval : ∀ (j : Nat) t v, Try.f3.params[j]? = some t → args[j]? = some v → Value.okWide Try.prog W .any base t v := hval0
  have hW' := hW
  obtain ⟨p, q, hA0, hV, rfl, hfz, hnd⟩ := hW
  have hA : DataW.TrodAll enc Try.prog W 0 (fun _ => true) true Try.f3.params.toList args.toList ds p := hA0
  rw [Try.params3] at hA hval
  obtain ⟨v0, vs0, d0, ds0, p0, q0, hargs, rfl, rfl, h0, r0⟩ := trodAll_cons hA
  obtain ⟨v1, vs1, d1, ds1, p1, q1, rfl, rfl, rfl, h1, r1⟩ := trodAll_cons r0
  obtain ⟨rfl, rfl, rfl⟩ := trodAll_nil r1
  obtain rfl : args = #[v0, v1] := by cases args; simp_all
  obtain ⟨rfl, rfl⟩ := trodVars_none hV
  have k0 := h0
  have lt0 : ∀ x ∈ p0, x.block < W.heap.size := by obtain ⟨m, hm⟩ := k0; exact DataW.trod_lt m _ _ _ hm
  obtain ⟨a0, l0, c0, rfl, s0⟩ := Kit.open_bytes Try.underlying22 Try.underlying5 (by kernel_rfl) (hval 0 22 v0 rfl rfl) h0
  have k1 := h1
  have lt1 : ∀ x ∈ p1, x.block < W.heap.size := by obtain ⟨m, hm⟩ := k1; exact DataW.trod_lt m _ _ _ hm
  obtain ⟨a1, l1, c1, rfl, s1⟩ := Kit.open_bytes Try.underlying22 Try.underlying5 (by kernel_rfl) (hval 1 22 v1 rfl rfl) h1
  clear hA0 hval0
  refine (walk a0 l0 c0 a1 l1 c1 W s0 s1).mono fun e W' ⟨he, bel⟩ => ?_
  subst he
  exact ⟨_, rfl, _, _, _, [], _, [], hW', trodAll_mk1 (shut_bool Try.underlying4 _), (trodAll_cons_mk (Below.trod laidOut (by kernel_rfl) (of_decide_eq_true (by kernel_rfl)) k0 bel lt0) (trodAll_cons_mk (Below.trod laidOut (by kernel_rfl) (of_decide_eq_true (by kernel_rfl)) k1 bel lt1) trodAll_mk0)), rfl, bel.frame _, fun h => by cases h⟩
theorem over : Rows.fnLabelFlowsRow.holds Try.pinned (OpenSpec.ofChange Rows.fnLabelFlowsSpec) :=
  OpenClaim.holds_of_wide 3 Try.f3 rfl rfl rfl rfl rfl rfl rfl ⟨rfl, rfl, rfl, rfl, rfl⟩ rfl rfl rfl rfl rfl (by kernel_rfl) Try.func3 (by kernel_rfl)
    (of_decide_eq_true (by kernel_rfl)) (by unfold Func.isWrapper; first | (rw [if_pos (by decide +kernel)]; kernel_rfl) | (rw [if_neg (by decide +kernel)]; exact ⟨rfl, rfl⟩))
    (fun os started H enc _ => lifted os started H enc)
theorem proved : Rows.FnLabelFlowsSaid := over
#print axioms proved
end Go.Proofs.Ytdagoioeifnmeaa.fnLabelFlows
