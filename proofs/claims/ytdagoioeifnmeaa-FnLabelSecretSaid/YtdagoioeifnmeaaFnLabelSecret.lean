/- FnLabelSecret: for every input the law returns true, and the arguments read as they did. No conditions. -/
import Derived.Test.YtdagoioeifnmeaaRows
import Derived.Test.YtdagoioeifnmeaaDrawL
import Derived.Test.YtdagoioeifnmeaaLabP
import Derived.WalkKit
import Derived.ProofKit
import Derived.OpenShut
import Derived.ShutString
import Derived.ChangeOld
import Derived.Below
namespace Go.Proofs.Ytdagoioeifnmeaa.fnLabelSecret
open Go.ChangeShapes Go.WideShapes Go.ChangeAt Go.RowKit Kit
open Go.ChangeMaps (open_string shut_string)
set_option linter.unusedVariables false
theorem own : ownKnob Try.prog.godebug = none := by kernel_rfl
theorem laidOut : laidOutB Try.prog = true := by kernel_rfl
set_option maxHeartbeats 1000000 in
theorem walk (a0 : Option Addr) (l0 c0 : Nat) (w : World) (s0 : Kit.Src w a0 l0 c0) :
    Calls Try.prog 4 #[.slice a0 l0 c0] w fun e w' => e = .returned (.bool true) ∧ Below w.heap.size w w' := by
  by_cases hl : 1048576 < l0
  · go_enter Try.func4, Try.ntmps4
    go_wp2
    go_ret
    exact ⟨rfl, Below.refl _ _⟩
  · go_enter Try.func4, Try.ntmps4
    go_wp2_with fail
    refine (DrawL.drawJoin w a0 l0 c0 s0).mono ?_
    rintro e w1 ⟨a, b, rfl, hN⟩
    cases ha : Lab.okL a
    · go_wp2_with (first | (go_at_call 17; refine (Lab.implLabelValid _ _ ).mono ?_; rintro e w' ⟨rfl, rfl⟩) | (go_at_call 21; refine (Lab.implLabelSecret _ _ ).mono ?_; rintro e w' ⟨rfl, rfl⟩) | (go_at_call 22; refine (Lab.specLabelSecret _ _ ).mono ?_; rintro e w' ⟨rfl, rfl⟩) | (go_at_call 23; refine (Lab.implLabelTrusted _ _ ).mono ?_; rintro e w' ⟨rfl, rfl⟩) | (go_at_call 24; refine (Lab.specLabelTrusted _ _ ).mono ?_; rintro e w' ⟨rfl, rfl⟩) | (go_at_call 19; refine (Lab.implJoinLabels _ _ _ ).mono ?_; rintro e w' ⟨rfl, rfl⟩))
      go_ret
      exact ⟨rfl, hN.toBelow⟩
    · cases hb : Lab.okL b
      · go_wp2_with (first | (go_at_call 17; refine (Lab.implLabelValid _ _ ).mono ?_; rintro e w' ⟨rfl, rfl⟩) | (go_at_call 21; refine (Lab.implLabelSecret _ _ ).mono ?_; rintro e w' ⟨rfl, rfl⟩) | (go_at_call 22; refine (Lab.specLabelSecret _ _ ).mono ?_; rintro e w' ⟨rfl, rfl⟩) | (go_at_call 23; refine (Lab.implLabelTrusted _ _ ).mono ?_; rintro e w' ⟨rfl, rfl⟩) | (go_at_call 24; refine (Lab.specLabelTrusted _ _ ).mono ?_; rintro e w' ⟨rfl, rfl⟩) | (go_at_call 19; refine (Lab.implJoinLabels _ _ _ ).mono ?_; rintro e w' ⟨rfl, rfl⟩))
        go_ret
        exact ⟨rfl, hN.toBelow⟩
      · have h1 := Lab.secret_join ha hb
        have h2 := Lab.trusted_join ha hb
        cases g1 : Lab.secretB a <;> cases g2 : Lab.trustedB a <;> simp [g1, g2] at h1 h2
        all_goals
          go_wp2_with (first | (go_at_call 17; refine (Lab.implLabelValid _ _ ).mono ?_; rintro e w' ⟨rfl, rfl⟩) | (go_at_call 21; refine (Lab.implLabelSecret _ _ ).mono ?_; rintro e w' ⟨rfl, rfl⟩) | (go_at_call 22; refine (Lab.specLabelSecret _ _ ).mono ?_; rintro e w' ⟨rfl, rfl⟩) | (go_at_call 23; refine (Lab.implLabelTrusted _ _ ).mono ?_; rintro e w' ⟨rfl, rfl⟩) | (go_at_call 24; refine (Lab.specLabelTrusted _ _ ).mono ?_; rintro e w' ⟨rfl, rfl⟩) | (go_at_call 19; refine (Lab.implJoinLabels _ _ _ ).mono ?_; rintro e w' ⟨rfl, rfl⟩))
          go_ret
          exact ⟨rfl, hN.toBelow⟩
set_option maxRecDepth 100000 in
theorem lifted (os : Os) (started : os.Started) (H : Type) (enc : TypeId × Value → H) :
    ReturnsInHanded {} Try.checked os 4 .any (Rows.fnLabelSecretSpec.pre6 enc Try.prog Try.f4 Rows.fnLabelSecretRow.domain false) (Rows.fnLabelSecretSpec.post enc Try.prog Try.f4 false true false false) := by
  refine returnsInHanded_of_change (C := Try.checked) own started (by kernel_rfl) Try.func4
    (ChangeSpec.witness6 (enc := enc) (C := Try.checked) false ⟨#[], #[.slice none 0 0], []⟩ 8 (by kernel_rfl) (by kernel_rfl) (by kernel_rfl) (by kernel_rfl)) ?_
  intro W base args ds gs before hval0 hW hcnd _
  have hval : ∀ (j : Nat) t v, Try.f4.params[j]? = some t → args[j]? = some v → Value.okWide Try.prog W .any base t v := hval0
  have hW' := hW
  obtain ⟨p, q, hA0, hV, rfl, hfz, hnd⟩ := hW
  have hA : DataW.TrodAll enc Try.prog W 0 (fun _ => true) true Try.f4.params.toList args.toList ds p := hA0
  rw [Try.params4] at hA hval
  obtain ⟨v0, vs0, d0, ds0, p0, q0, hargs, rfl, rfl, h0, r0⟩ := trodAll_cons hA
  obtain ⟨rfl, rfl, rfl⟩ := trodAll_nil r0
  obtain rfl : args = #[v0] := by cases args; simp_all
  obtain ⟨rfl, rfl⟩ := trodVars_none hV
  have k0 := h0
  have lt0 : ∀ x ∈ p0, x.block < W.heap.size := by obtain ⟨m, hm⟩ := k0; exact DataW.trod_lt m _ _ _ hm
  obtain ⟨a0, l0, c0, rfl, s0⟩ := Kit.open_bytes Try.underlying22 Try.underlying5 (by kernel_rfl) (hval 0 22 v0 rfl rfl) h0
  clear hA0 hval0
  refine (walk a0 l0 c0 W s0).mono fun e W' ⟨he, bel⟩ => ?_
  subst he
  exact ⟨_, rfl, _, _, _, [], _, [], hW', trodAll_mk1 (shut_bool Try.underlying4 _), (trodAll_cons_mk (Below.trod laidOut (by kernel_rfl) (of_decide_eq_true (by kernel_rfl)) k0 bel lt0) trodAll_mk0), rfl, bel.frame _, fun h => by cases h⟩
theorem over : Rows.fnLabelSecretRow.holds Try.pinned (OpenSpec.ofChange Rows.fnLabelSecretSpec) :=
  OpenClaim.holds_of_wide 4 Try.f4 rfl rfl rfl rfl rfl rfl rfl ⟨rfl, rfl, rfl, rfl, rfl⟩ rfl rfl rfl rfl rfl (by kernel_rfl) Try.func4 (by kernel_rfl)
    (of_decide_eq_true (by kernel_rfl)) (by unfold Func.isWrapper; first | (rw [if_pos (by decide +kernel)]; kernel_rfl) | (rw [if_neg (by decide +kernel)]; exact ⟨rfl, rfl⟩))
    (fun os started H enc _ => lifted os started H enc)
theorem proved : Rows.FnLabelSecretSaid := over
#print axioms proved
end Go.Proofs.Ytdagoioeifnmeaa.fnLabelSecret
