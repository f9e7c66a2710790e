/- FnExactFormatTrace: for every input the law returns true, and the arguments read as they did; the listed variables as the program lays them. No conditions. -/
import Derived.Test.YtckikiaockkmbaaDoorRows
import Derived.Test.YtckikiaockkmbaaDoorCards
import Derived.Test.YtckikiaockkmbaaDoorTie
import Derived.Test.YtckikiaockkmbaaDoorLaidD
import Derived.Test.YtckikiaockkmbaaDoorFmtT
import Derived.Test.YtckikiaockkmbaaDoorLawF
import Derived.Test.YtckikiaockkmbaaDoorOpen
import Derived.WalkKit
import Derived.ProofKit
import Derived.OpenShut
import Derived.ShutString
import Derived.ChangeOld
import Derived.Below
import Derived.SevenTiedAt
import Derived.LaidMore
import Derived.Stop.Joined
namespace Go.Proofs.YtckikiaockkmbaaDoor.fnExactFormatTrace
open Go.ChangeShapes Go.WideShapes Go.ChangeAt Go.RowKit Kit
open Go.ChangeMaps (open_string shut_string)
set_option linter.unusedVariables false
theorem own : ownKnob Tryd.prog.godebug = none := by kernel_rfl
theorem laidOut : laidOutB Tryd.prog = true := by kernel_rfl
set_option maxHeartbeats 8000000 in
set_option maxRecDepth 100000 in
theorem walk (v0 : Value) (x0 : List Ev) (w : World) (s0 : EvsR w 0 w.heap.size v0 x0) (ht : DecT.Tab w) :
    Calls Tryd.prog 3 #[v0] w fun e w' => e = .returned (.bool true) ∧ Below w.heap.size w w' := by
  obtain ⟨a0, c0, rfl, m0⟩ := s0.len
  have htb := Lib.hid ht
  clear ht
  by_cases h0 : x0.length ≤ 1048576
  · have e0 : szOf 1048576 x0.length = 1048576 - x0.length := szOf_hi (by omega)
    go_enter Tryd.func3, Tryd.ntmps3
    go_wp2_with (go_at_call 6; refine (LawF.szEventS _ _ _ _ _ (by omega) (by omega) (by omega)).mono ?_; rintro e w' ⟨rfl, rfl⟩)
    clear e0
    refine (LawF.toEventS _ _ _ _ _ s0 (Nat.le_refl _) h0).mono ?_
    rintro e w1 ⟨p0, rfl, hN1, o0⟩
    have N1 := Lib.hid hN1
    have rA := Lib.hid o0.reads
    clear hN1 o0
    go_wp2_with fail
    refine (FmtT.specFmt _ _ _ _ x0 rA.out (Nat.le_refl _) (by omega)).mono ?_
    rintro e w2 ⟨rfl, hn2⟩
    have N2 := Lib.hid (N1.out.trans hn2)
    clear hn2 rA N1
    obtain ⟨G, hG⟩ : ∃ G : ByteArray, (⟨(FmtP.text x0).toArray⟩ : ByteArray) = G := ⟨_, rfl⟩
    rw [hG]
    have hGh := Lib.hid hG
    clear hG
    have y2 := N2.out.size
    go_wp2_with fail
    refine (LawF.toEventS _ _ _ _ _ (s0.new (Nat.le_refl _) N2.out) (by omega) h0).mono ?_
    rintro e w3 ⟨p2, rfl, hn3, o2⟩
    have N3 := Lib.hid (N2.out.trans hn3)
    have X3 := Lib.hid o2
    clear N2 hn3 o2
    go_wp2_with fail
    refine (FmtT.implFmt _ _ _ _ x0 X3.out.reads (Nat.le_refl _) h0 (htb.out.new N3.out)).mono ?_
    rintro e w4 ⟨rfl, hn4⟩
    rw [hGh.out]
    have N4 := Lib.hid (N3.out.trans hn4)
    have X4 := Lib.hid (X3.out.new hn4)
    have y4 := N4.out.size
    clear N3 X3 hn4
    go_wp2_with fail
    refine (LawF.toEventS _ _ _ _ _ (s0.new (Nat.le_refl _) N4.out) (by omega) h0).mono ?_
    rintro e w5 ⟨p4, rfl, hn5, o4⟩
    have N5 := Lib.hid (N4.out.trans hn5)
    have X5 := Lib.hid (X4.out.new hn5)
    have Y5 := Lib.hid o4
    clear N4 X4 hn5 o4
    go_wp2_with fail
    refine (LawF.eqEventS _ _ _ _ _ _ _ x0 x0 X5.out.reads Y5.out.reads (Nat.le_refl _) (Nat.le_refl _)).mono ?_
    rintro e w6 ⟨rfl, hn6⟩
    have N6 := Lib.hid (N5.out.trans hn6)
    clear N5 X5 Y5 hn6
    go_wp2
    go_ret
    exact ⟨rfl, N6.out.toBelow⟩
  · have e0 : szOf 1048576 x0.length = -1 := szOf_lo (by omega)
    go_enter Tryd.func3, Tryd.ntmps3
    go_wp2_with (go_at_call 6; refine (LawF.szEventS _ _ _ _ _ (by omega) (by omega) (by omega)).mono ?_; rintro e w' ⟨rfl, rfl⟩)
    go_ret
    exact ⟨rfl, Below.refl _ _⟩
set_option maxRecDepth 100000 in
theorem lifted (os : Os) (started : os.Started) (H : Type) (enc : TypeId × Value → H) :
    ReturnsInHanded {} Tryd.checked os 3 .any (fun w args => (Rows.fnExactFormatTraceSpec.pre enc Tryd.prog Tryd.f3 [] false w args ∧ laidMetH Tryd.prog Rows.fnExactFormatTraceRow.laid w) ∧ sizedMet enc Tryd.prog Tryd.f3 (OpenSpec.ofChange Rows.fnExactFormatTraceSpec) false w args)
      (Rows.fnExactFormatTraceSpec.post enc Tryd.prog Tryd.f3 false true false false) := by
  refine returnsInHanded_of_change_and (C := Tryd.checked) (X := fun w _ => laidMetH Tryd.prog Rows.fnExactFormatTraceRow.laid w) (fun _ _ _ hh h => h.of_heap hh) own started (by kernel_rfl) Tryd.func3
    (ChangeSpec.witness_shaped (enc := enc) (C := Tryd.checked) (os := os) (X := fun w _ => laidMetH Tryd.prog Rows.fnExactFormatTraceRow.laid w) false (World.doorLaid Tryd.prog 24 os) #[.slice none 0 0] 8 rfl (World.shaped_of_RefB (by kernel_rfl) (by kernel_rfl)) (by kernel_rfl) (by kernel_rfl) (by kernel_rfl) (LaidD.door_met os _)) ?_
  intro W base args ds gs before hval0 hW _ _ hL _
  have hval : ∀ (j : Nat) t v, Tryd.f3.params[j]? = some t → args[j]? = some v → Value.okWide Tryd.prog W .any base t v := hval0
  have hW' := hW
  obtain ⟨p, q, hA0, hV, rfl, hfz, hnd⟩ := hW
  have hA : DataW.TrodAll enc Tryd.prog W 0 (fun _ => true) true Tryd.f3.params.toList args.toList ds p := hA0
  rw [Tryd.params3] at hA hval
  obtain ⟨v0, vs0, d0, ds0, p0, q0, hargs, rfl, rfl, h0, r0⟩ := trodAll_cons hA
  obtain ⟨rfl, rfl, rfl⟩ := trodAll_nil r0
  obtain rfl : args = #[v0] := by cases args; simp_all
  obtain ⟨rfl, rfl⟩ := trodVars_none hV
  have ht := LaidD.tab_of_laid hL
  have kk0 := h0
  have lt0 : ∀ x ∈ p0, x.block < W.heap.size := by obtain ⟨m, hm⟩ := kk0; exact DataW.trod_lt m _ _ _ hm
  obtain ⟨a0, l0, c0, ev0⟩ := okWide_slice Tryd.underlying22 (hval 0 22 v0 rfl rfl)
  obtain ⟨x0, s0⟩ : ∃ xs, EvsR W 0 W.heap.size v0 xs := by
    obtain ⟨fuel, hf⟩ := h0
    rw [ev0] at hf ⊢
    exact Open.evs Tryd.underlying22 Tryd.underlying57 rfl (by kernel_rfl) (by kernel_rfl) hf
  clear hA0 hval0
  refine (walk v0 x0 W s0 ht).mono fun e W' ⟨he, bel⟩ => ?_
  subst he
  exact ⟨_, rfl, _, _, _, [], _, [], hW', trodAll_mk1 (shut_bool Tryd.underlying4 _), (trodAll_cons_mk (Below.trod laidOut (by kernel_rfl) (of_decide_eq_true (by kernel_rfl)) kk0 bel lt0) trodAll_mk0), rfl, bel.frame _, fun h => by cases h⟩
theorem over : Rows.fnExactFormatTraceRow.holds Tryd.pinned (OpenSpec.ofChange Rows.fnExactFormatTraceSpec) :=
  OpenClaim.holds_of_wide 3 Tryd.f3 rfl rfl rfl rfl rfl rfl rfl ⟨rfl, rfl, rfl, rfl, rfl⟩ rfl rfl rfl rfl rfl (by kernel_rfl) Tryd.func3 (by kernel_rfl)
    (of_decide_eq_true (by kernel_rfl)) (by unfold Func.isWrapper; first | (rw [if_pos (by decide +kernel)]; kernel_rfl) | (rw [if_neg (by decide +kernel)]; exact ⟨rfl, rfl⟩))
    (fun os started H enc _ => lifted os started H enc)
theorem proved : Rows.FnExactFormatTraceCardSaid :=
  Claim7.holds_tied_plain_at .later [] [.data, .data, .data] true _ _ over (fun _ h => by cases h) (by kernel_rfl) (fun _ h => by cases h) fnExactFormatTrace_row_tie rfl ⟨rfl, rfl⟩ (by kernel_rfl) rfl
    (fun f fn hf hfn => by
      obtain rfl : f = 3 := (Option.some.inj ((show Tryd.prog.funcNamed "loop.example/constanttime/laws.FnExactFormatTrace" = some 3 by kernel_rfl).symm.trans hf)).symm
      obtain rfl : fn = Tryd.f3 := (Option.some.inj (Tryd.func3.symm.trans hfn)).symm
      have hall : (Tryd.f3.params.toList.all fun u => !Tryd.prog.wantsStandIn u) = true := by kernel_rfl
      exact ⟨by kernel_rfl, fun j t ht => by
        have := List.all_eq_true.1 hall t (Array.mem_toList_iff.2 (Array.mem_of_getElem? ht))
        exact (show Tryd.prog.wantsStandIn t = false by simpa using this)⟩)
    (by kernel_rfl)
#print axioms proved
end Go.Proofs.YtckikiaockkmbaaDoor.fnExactFormatTrace
