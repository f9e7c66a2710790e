/- FnLabelText: for every input the law returns true, and the arguments read as they did. No conditions. -/
import Derived.Test.YtdagoioeifnmeaaRows
import Derived.Test.YtdagoioeifnmeaaDrawT
import Derived.Test.YtdagoioeifnmeaaLabT
import Derived.Test.YtdagoioeifnmeaaCt
import Derived.WalkKit
import Derived.ProofKit
import Derived.OpenShut
import Derived.ShutString
import Derived.ChangeOld
import Derived.Below
namespace Go.Proofs.Ytdagoioeifnmeaa.fnLabelText
open Go.ChangeShapes Go.WideShapes Go.ChangeAt Go.RowKit Kit
open Go.ChangeMaps (open_string shut_string)
set_option linter.unusedVariables false
theorem own : ownKnob Try.prog.godebug = none := by kernel_rfl
theorem laidOut : laidOutB Try.prog = true := by kernel_rfl
set_option maxHeartbeats 1000000 in
theorem walk (a0 : Option Addr) (l0 c0 : Nat) (a1 : Option Addr) (l1 c1 : Nat) (w : World) (s0 : Kit.Src w a0 l0 c0) (s1 : Kit.Src w a1 l1 c1) :
    Calls Try.prog 13 #[.slice a0 l0 c0, .slice a1 l1 c1] w fun e w' => e = .returned (.bool true) ∧ Below w.heap.size w w' := by
  by_cases hl : 1048576 < l0
  · go_enter Try.func13, Try.ntmps13
    go_wp2
    go_ret
    exact ⟨rfl, Below.refl _ _⟩
  · by_cases hl1 : 1048576 < l1
    · go_enter Try.func13, Try.ntmps13
      go_wp2
      go_ret
      exact ⟨rfl, Below.refl _ _⟩
    · go_enter Try.func13, Try.ntmps13
      go_wp2_with fail
      refine (DrawT.drawFmt _ a0 l0 c0 s0).mono ?_
      rintro e w1 ⟨v, xs, rfl, hn1, oL, hxl⟩
      have z1 : w.heap.size ≤ w1.heap.size := hn1.size
      have N1 : New w w1 := hn1
      clear hn1
      obtain ⟨av, cv, rfl, mv⟩ := oL.reads.len
      go_wp2_with fail
      refine (FmtL.implFmt _ _ _ _ xs oL.reads (Nat.le_refl _) (by omega)).mono ?_
      rintro e w2 ⟨rfl, hn2⟩
      have z2 : w1.heap.size ≤ w2.heap.size := hn2.size
      have N2 : New w w2 := N1.trans hn2
      have L_2 := oL.new hn2
      clear oL
      clear hn2
      go_wp2_with fail
      refine (FmtL.specFmt _ _ _ _ xs L_2.reads (Nat.le_refl _) (by omega)).mono ?_
      rintro e w3 ⟨rfl, hn3⟩
      have z3 : w2.heap.size ≤ w3.heap.size := hn3.size
      have N3 : New w w3 := N2.trans hn3
      have L_3 := L_2.new hn3
      clear L_2
      clear hn3
      obtain ⟨s, hs⟩ : ∃ s : ByteArray, (⟨(FmtL.text xs).toArray⟩ : ByteArray) = s := ⟨_, rfl⟩
      rw [hs]
      have hs2 := Lib.hid (show s.data.toList = FmtL.text xs by rw [← hs])
      have hsl := Lib.hid (show s.size = (FmtL.text xs).length by rw [← hs]; rfl)
      have hs6 : s.size ≤ 6 := by rw [hsl.out, LabT.len_text]; split <;> omega
      clear hs
      cases hg : FmtL.good xs
      · have gS : Parse.good s.data.toList = true := by rw [hs2.out]; exact LabT.good_text xs
        have hq : ((s.size : Int) == (xs.length : Int)) = false := by have := LabT.good_pos hg; rw [hsl.out, LabT.len_text, hg]; simp; omega
        go_wp2_with fail
        refine (Parse.implParse _ s (by omega)).mono ?_
        rintro e w4 ⟨pP, rfl, hn4, oP⟩
        have z4 : w3.heap.size ≤ w4.heap.size := hn4.size
        have N4 : New w w4 := N3.trans hn4
        have L_4 := L_3.new hn4
        clear L_3
        clear hn4
        rw [gS]
        clear oP
        clear L_4
        go_wp2_with fail
        clear gS hq
        refine (DrawT.drawParse _ a1 l1 c1 (s1.keep N4)).mono ?_
        rintro e w5 ⟨t, rfl, ht, hn5⟩
        have z5 : w4.heap.size ≤ w5.heap.size := hn5.size
        have N5 : New w w5 := N4.trans hn5
        clear hn5
        have hpl := LabT.len_parsed t.data.toList
        have htl : t.data.toList.length ≤ 7 := by simpa using ht
        go_wp2_with fail
        refine (Parse.implParse _ t (by omega)).mono ?_
        rintro e w6 ⟨pG, rfl, hn6, oG⟩
        have z6 : w5.heap.size ≤ w6.heap.size := hn6.size
        have N6 : New w w6 := N5.trans hn6
        clear hn6
        go_wp2_with fail
        refine (Parse.specParse _ t (by omega)).mono ?_
        rintro e w7 ⟨pW, rfl, hn7, oW⟩
        have z7 : w6.heap.size ≤ w7.heap.size := hn7.size
        have N7 : New w w7 := N6.trans hn7
        have G_7 := oG.new hn7
        clear oG
        clear hn7
        cases hf : Parse.good t.data.toList
        · go_wp2_with fail
          refine (newOf (Ct.ctInts _ _ _ _ _ _ _ _ _ G_7.reads oW.reads)).mono ?_
          rintro e w8 ⟨rfl, hn8⟩
          have z8 : w7.heap.size ≤ w8.heap.size := hn8.size
          have N8 : New w w8 := N7.trans hn8
          have G_8 := G_7.new hn8
          clear G_7
          have W_8 := oW.new hn8
          clear oW
          clear hn8
          go_wp2
          go_ret
          exact ⟨rfl, N8.toBelow⟩
        · have hB := LabT.text_parsed hf
          go_wp2_with fail
          refine (newOf (Ct.ctInts _ _ _ _ _ _ _ _ _ G_7.reads oW.reads)).mono ?_
          rintro e w8 ⟨rfl, hn8⟩
          have z8 : w7.heap.size ≤ w8.heap.size := hn8.size
          have N8 : New w w8 := N7.trans hn8
          have G_8 := G_7.new hn8
          clear G_7
          have W_8 := oW.new hn8
          clear oW
          clear hn8
          go_wp2_with fail
          refine (FmtL.implFmt _ _ _ _ _ G_8.reads (Nat.le_refl _) (by omega)).mono ?_
          rintro e w9 ⟨rfl, hn9⟩
          have z9 : w8.heap.size ≤ w9.heap.size := hn9.size
          have N9 : New w w9 := N8.trans hn9
          have G_9 := G_8.new hn9
          clear G_8
          have W_9 := W_8.new hn9
          clear W_8
          clear hn9
          rw [hB]
          go_wp2
          go_ret
          exact ⟨rfl, N9.toBelow⟩
      · have gS : Parse.good s.data.toList = true := by rw [hs2.out]; exact LabT.good_text xs
        have pS : Parse.parsed s.data.toList = xs := by rw [hs2.out]; exact LabT.parsed_text hg
        have hq : ((s.size : Int) == (xs.length : Int)) = true := by rw [hsl.out, LabT.len_text, hg]; simp
        go_wp2_with fail
        refine (Parse.implParse _ s (by omega)).mono ?_
        rintro e w4 ⟨pP, rfl, hn4, oP⟩
        have z4 : w3.heap.size ≤ w4.heap.size := hn4.size
        have N4 : New w w4 := N3.trans hn4
        have L_4 := L_3.new hn4
        clear L_3
        clear hn4
        rw [gS]
        rw [pS] at oP
        go_wp2_with fail
        refine (newOf (Ct.ctInts _ _ _ _ _ _ _ _ _ oP.reads L_4.reads)).mono ?_
        rintro e w5 ⟨rfl, hn5⟩
        have z5 : w4.heap.size ≤ w5.heap.size := hn5.size
        have N5 : New w w5 := N4.trans hn5
        have L_5 := L_4.new hn5
        clear L_4
        have P_5 := oP.new hn5
        clear oP
        clear hn5
        clear P_5
        clear L_5
        go_wp2_with fail
        clear gS hq pS
        refine (DrawT.drawParse _ a1 l1 c1 (s1.keep N5)).mono ?_
        rintro e w6 ⟨t, rfl, ht, hn6⟩
        have z6 : w5.heap.size ≤ w6.heap.size := hn6.size
        have N6 : New w w6 := N5.trans hn6
        clear hn6
        have hpl := LabT.len_parsed t.data.toList
        have htl : t.data.toList.length ≤ 7 := by simpa using ht
        go_wp2_with fail
        refine (Parse.implParse _ t (by omega)).mono ?_
        rintro e w7 ⟨pG, rfl, hn7, oG⟩
        have z7 : w6.heap.size ≤ w7.heap.size := hn7.size
        have N7 : New w w7 := N6.trans hn7
        clear hn7
        go_wp2_with fail
        refine (Parse.specParse _ t (by omega)).mono ?_
        rintro e w8 ⟨pW, rfl, hn8, oW⟩
        have z8 : w7.heap.size ≤ w8.heap.size := hn8.size
        have N8 : New w w8 := N7.trans hn8
        have G_8 := oG.new hn8
        clear oG
        clear hn8
        cases hf : Parse.good t.data.toList
        · go_wp2_with fail
          refine (newOf (Ct.ctInts _ _ _ _ _ _ _ _ _ G_8.reads oW.reads)).mono ?_
          rintro e w9 ⟨rfl, hn9⟩
          have z9 : w8.heap.size ≤ w9.heap.size := hn9.size
          have N9 : New w w9 := N8.trans hn9
          have G_9 := G_8.new hn9
          clear G_8
          have W_9 := oW.new hn9
          clear oW
          clear hn9
          go_wp2
          go_ret
          exact ⟨rfl, N9.toBelow⟩
        · have hB := LabT.text_parsed hf
          go_wp2_with fail
          refine (newOf (Ct.ctInts _ _ _ _ _ _ _ _ _ G_8.reads oW.reads)).mono ?_
          rintro e w9 ⟨rfl, hn9⟩
          have z9 : w8.heap.size ≤ w9.heap.size := hn9.size
          have N9 : New w w9 := N8.trans hn9
          have G_9 := G_8.new hn9
          clear G_8
          have W_9 := oW.new hn9
          clear oW
          clear hn9
          go_wp2_with fail
          refine (FmtL.implFmt _ _ _ _ _ G_9.reads (Nat.le_refl _) (by omega)).mono ?_
          rintro e w10 ⟨rfl, hn10⟩
          have z10 : w9.heap.size ≤ w10.heap.size := hn10.size
          have N10 : New w w10 := N9.trans hn10
          have G_10 := G_9.new hn10
          clear G_9
          have W_10 := W_9.new hn10
          clear W_9
          clear hn10
          rw [hB]
          go_wp2
          go_ret
          exact ⟨rfl, N10.toBelow⟩
set_option maxRecDepth 100000 in
theorem lifted (os : Os) (started : os.Started) (H : Type) (enc : TypeId × Value → H) :
    ReturnsInHanded {} Try.checked os 13 .any (Rows.fnLabelTextSpec.pre6 enc Try.prog Try.f13 Rows.fnLabelTextRow.domain false) (Rows.fnLabelTextSpec.post enc Try.prog Try.f13 false true false false) := by
  refine returnsInHanded_of_change (C := Try.checked) own started (by kernel_rfl) Try.func13
    (ChangeSpec.witness6 (enc := enc) (C := Try.checked) false ⟨#[], #[.slice none 0 0, .slice none 0 0], []⟩ 8 (by kernel_rfl) (by kernel_rfl) (by kernel_rfl) (by kernel_rfl)) ?_
  intro W base args ds gs before hval0 hW hcnd _
  have hval : ∀ (j : Nat) t v, Try.f13.params[j]? = some t → args[j]? = some v → Value.okWide Try.prog W .any base t v := hval0
  have hW' := hW
  obtain ⟨p, q, hA0, hV, rfl, hfz, hnd⟩ := hW
  have hA : DataW.TrodAll enc Try.prog W 0 (fun _ => true) true Try.f13.params.toList args.toList ds p := hA0
  rw [Try.params13] at hA hval
  obtain ⟨v0, vs0, d0, ds0, p0, q0, hargs, rfl, rfl, h0, r0⟩ := trodAll_cons hA
  obtain ⟨v1, vs1, d1, ds1, p1, q1, rfl, rfl, rfl, h1, r1⟩ := trodAll_cons r0
  obtain ⟨rfl, rfl, rfl⟩ := trodAll_nil r1
  obtain rfl : args = #[v0, v1] := by cases args; simp_all
  obtain ⟨rfl, rfl⟩ := trodVars_none hV
  have kk0 := h0
  have lt0 : ∀ x ∈ p0, x.block < W.heap.size := by obtain ⟨m, hm⟩ := kk0; exact DataW.trod_lt m _ _ _ hm
  obtain ⟨a0, l0, c0, rfl, s0⟩ := Kit.open_bytes Try.underlying22 Try.underlying5 (by kernel_rfl) (hval 0 22 v0 rfl rfl) h0
  have kk1 := h1
  have lt1 : ∀ x ∈ p1, x.block < W.heap.size := by obtain ⟨m, hm⟩ := kk1; exact DataW.trod_lt m _ _ _ hm
  obtain ⟨a1, l1, c1, rfl, s1⟩ := Kit.open_bytes Try.underlying22 Try.underlying5 (by kernel_rfl) (hval 1 22 v1 rfl rfl) h1
  clear hA0 hval0
  refine (walk a0 l0 c0 a1 l1 c1 W s0 s1).mono fun e W' ⟨he, bel⟩ => ?_
  subst he
  exact ⟨_, rfl, _, _, _, [], _, [], hW', trodAll_mk1 (shut_bool Try.underlying4 _), (trodAll_cons_mk (Below.trod laidOut (by kernel_rfl) (of_decide_eq_true (by kernel_rfl)) kk0 bel lt0) (trodAll_cons_mk (Below.trod laidOut (by kernel_rfl) (of_decide_eq_true (by kernel_rfl)) kk1 bel lt1) trodAll_mk0)), rfl, bel.frame _, fun h => by cases h⟩
theorem over : Rows.fnLabelTextRow.holds Try.pinned (OpenSpec.ofChange Rows.fnLabelTextSpec) :=
  OpenClaim.holds_of_wide 13 Try.f13 rfl rfl rfl rfl rfl rfl rfl ⟨rfl, rfl, rfl, rfl, rfl⟩ rfl rfl rfl rfl rfl (by kernel_rfl) Try.func13 (by kernel_rfl)
    (of_decide_eq_true (by kernel_rfl)) (by unfold Func.isWrapper; first | (rw [if_pos (by decide +kernel)]; kernel_rfl) | (rw [if_neg (by decide +kernel)]; exact ⟨rfl, rfl⟩))
    (fun os started H enc _ => lifted os started H enc)
theorem proved : Rows.FnLabelTextSaid := over
#print axioms proved
end Go.Proofs.Ytdagoioeifnmeaa.fnLabelText
