/- FnMeetLabels: for every input the law returns true, and the arguments read as they did. No conditions. -/
import Derived.Test.YtdagoioeifnmeaaRows
import Derived.Test.YtdagoioeifnmeaaDrawL
import Derived.Test.YtdagoioeifnmeaaLabP
import Derived.WalkKit
import Derived.ProofKit
import Derived.OpenShut
import Derived.ShutString
import Derived.ChangeOld
import Derived.Below
namespace Go.Proofs.Ytdagoioeifnmeaa.fnMeetLabels
open Go.ChangeShapes Go.WideShapes Go.ChangeAt Go.RowKit Kit
open Go.ChangeMaps (open_string shut_string)
set_option linter.unusedVariables false
theorem own : ownKnob Try.prog.godebug = none := by kernel_rfl
theorem laidOut : laidOutB Try.prog = true := by kernel_rfl
set_option maxHeartbeats 1000000 in
theorem walk (a0 : Option Addr) (l0 c0 : Nat) (w : World) (s0 : Kit.Src w a0 l0 c0) :
    Calls Try.prog 6 #[.slice a0 l0 c0] w fun e w' => e = .returned (.bool true) ∧ Below w.heap.size w w' := by
  by_cases hl : 1048576 < l0
  · go_enter Try.func6, Try.ntmps6
    go_wp2
    go_ret
    exact ⟨rfl, Below.refl _ _⟩
  · go_enter Try.func6, Try.ntmps6
    go_wp2_with fail
    refine (DrawL.drawMeet w a0 l0 c0 s0).mono ?_
    rintro e w1 ⟨a, b, rfl, hN⟩
    have hc : Lab.meetL b a = Lab.meetL a b := Lab.meetL_comm b a
    cases ha : Lab.okL a
    · go_wp2_with (first | (go_at_call 27; refine (Lab.implMeetLabels _ _ _ ).mono ?_; rintro e w' ⟨rfl, rfl⟩) | (go_at_call 28; refine (Lab.specMeetLabels _ _ _ ).mono ?_; rintro e w' ⟨rfl, rfl⟩) | (go_at_call 17; refine (Lab.implLabelValid _ _ ).mono ?_; rintro e w' ⟨rfl, rfl⟩))
      go_ret
      exact ⟨rfl, hN.toBelow⟩
    · cases hb : Lab.okL b
      · go_wp2_with (first | (go_at_call 27; refine (Lab.implMeetLabels _ _ _ ).mono ?_; rintro e w' ⟨rfl, rfl⟩) | (go_at_call 28; refine (Lab.specMeetLabels _ _ _ ).mono ?_; rintro e w' ⟨rfl, rfl⟩) | (go_at_call 17; refine (Lab.implLabelValid _ _ ).mono ?_; rintro e w' ⟨rfl, rfl⟩))
        go_ret
        exact ⟨rfl, hN.toBelow⟩
      · go_wp2_with (first | (go_at_call 27; refine (Lab.implMeetLabels _ _ _ ).mono ?_; rintro e w' ⟨rfl, rfl⟩) | (go_at_call 28; refine (Lab.specMeetLabels _ _ _ ).mono ?_; rintro e w' ⟨rfl, rfl⟩) | (go_at_call 17; refine (Lab.implLabelValid _ _ ).mono ?_; rintro e w' ⟨rfl, rfl⟩))
        go_loop [6] (fun i => ∃ k : Nat, k ≤ 4 ∧ i = .int .i64 k) (fun i => 4 - (intOf i).toNat)
        case atStart => exact ⟨0, by omega, rfl⟩
        case round =>
          obtain ⟨k, hk, rfl⟩ := hrel
          by_cases hlt : k < 4
          · have hq : Lab.leL (k : Int) (Lab.meetL a b) = (Lab.leL (k : Int) a && Lab.leL (k : Int) b) := Lab.glb ha hb (Lab.okL_t (by omega) (by omega))
            cases h1 : Lab.leL (k : Int) a
            all_goals
              cases h2 : Lab.leL (k : Int) b
              all_goals
                rw [h1, h2] at hq
                simp at hq
                go_wp2_with (go_at_call 15; refine (Lab.implLabelFlows _ _ _ ).mono ?_; rintro e w' ⟨rfl, rfl⟩)
                go_round
                case rel => exact ⟨k + 1, by omega, by go_num⟩
                case measure => simp [intOf]; omega
          · have h4 : k = 4 := by omega
            subst h4
            go_wp2
            go_ret
            exact ⟨rfl, hN.toBelow⟩
set_option maxRecDepth 100000 in
theorem lifted (os : Os) (started : os.Started) (H : Type) (enc : TypeId × Value → H) :
    ReturnsInHanded {} Try.checked os 6 .any (Rows.fnMeetLabelsSpec.pre6 enc Try.prog Try.f6 Rows.fnMeetLabelsRow.domain false) (Rows.fnMeetLabelsSpec.post enc Try.prog Try.f6 false true false false) := by
  refine returnsInHanded_of_change (C := Try.checked) own started (by kernel_rfl) Try.func6
    (ChangeSpec.witness6 (enc := enc) (C := Try.checked) false ⟨#[], #[.slice none 0 0], []⟩ 8 (by kernel_rfl) (by kernel_rfl) (by kernel_rfl) (by kernel_rfl)) ?_
  intro W base args ds gs before hval0 hW hcnd _
  have hval : ∀ (j : Nat) t v, Try.f6.params[j]? = some t → args[j]? = some v → Value.okWide Try.prog W .any base t v := hval0
  have hW' := hW
  obtain ⟨p, q, hA0, hV, rfl, hfz, hnd⟩ := hW
  have hA : DataW.TrodAll enc Try.prog W 0 (fun _ => true) true Try.f6.params.toList args.toList ds p := hA0
  rw [Try.params6] at hA hval
  obtain ⟨v0, vs0, d0, ds0, p0, q0, hargs, rfl, rfl, h0, r0⟩ := trodAll_cons hA
  obtain ⟨rfl, rfl, rfl⟩ := trodAll_nil r0
  obtain rfl : args = #[v0] := by cases args; simp_all
  obtain ⟨rfl, rfl⟩ := trodVars_none hV
  have k0 := h0
  have lt0 : ∀ x ∈ p0, x.block < W.heap.size := by obtain ⟨m, hm⟩ := k0; exact DataW.trod_lt m _ _ _ hm
  obtain ⟨a0, l0, c0, rfl, s0⟩ := Kit.open_bytes Try.underlying22 Try.underlying5 (by kernel_rfl) (hval 0 22 v0 rfl rfl) h0
  clear hA0 hval0
  refine (walk a0 l0 c0 W s0).mono fun e W' ⟨he, bel⟩ => ?_
  subst he
  exact ⟨_, rfl, _, _, _, [], _, [], hW', trodAll_mk1 (shut_bool Try.underlying4 _), (trodAll_cons_mk (Below.trod laidOut (by kernel_rfl) (of_decide_eq_true (by kernel_rfl)) k0 bel lt0) trodAll_mk0), rfl, bel.frame _, fun h => by cases h⟩
theorem over : Rows.fnMeetLabelsRow.holds Try.pinned (OpenSpec.ofChange Rows.fnMeetLabelsSpec) :=
  OpenClaim.holds_of_wide 6 Try.f6 rfl rfl rfl rfl rfl rfl rfl ⟨rfl, rfl, rfl, rfl, rfl⟩ rfl rfl rfl rfl rfl (by kernel_rfl) Try.func6 (by kernel_rfl)
    (of_decide_eq_true (by kernel_rfl)) (by unfold Func.isWrapper; first | (rw [if_pos (by decide +kernel)]; kernel_rfl) | (rw [if_neg (by decide +kernel)]; exact ⟨rfl, rfl⟩))
    (fun os started H enc _ => lifted os started H enc)
theorem proved : Rows.FnMeetLabelsSaid := over
#print axioms proved
end Go.Proofs.Ytdagoioeifnmeaa.fnMeetLabels
