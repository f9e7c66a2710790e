/- slices.IndexFunc, slices.ContainsFunc at ints and at slices of ints; areLabels, areValues of impl. No conditions. -/
import Derived.Test.YtckikiaockkmbaaVal
import Derived.Shelf.Abstract
namespace Go.Proofs.Ytckikiaockkmbaa.Cont
open Go.RowKit Kit
set_option linter.unusedVariables false
set_option maxHeartbeats 1000000 in
theorem indexFuncI (f : Nat) (he : ∀ args w, (callFunc f args).run Try.prog w = .ok (.enter f args) w) (p : Int → Bool) (hf : ∀ (w : World) (x : Int), Calls Try.prog f #[.int .i64 x] w fun e w' => e = .returned (.bool (p x)) ∧ w = w')
    (w : World) (lo hi : Nat) (s : Value) (xs : List Int) (hs : IntsR w lo hi s xs) :
    Calls Try.prog 163 #[s, .func (.func f) #[] #[]] w fun e w' => (∃ r : Int, e = .returned (.int .i64 r) ∧ decide (0 ≤ r) = xs.any p) ∧ w = w' := by
  obtain ⟨a, c, rfl, hl1⟩ := hs.len
  have H := Lib.hid hf; clear hf
  go_enter Try.func163, Try.ntmps163
  go_wp2_with fail
  go_loop [8] (fun i => ∃ j : Nat, j ≤ xs.length ∧ i = .int .i64 j ∧ Hid ((xs.take j).any p = false)) (fun i => xs.length - (intOf i).toNat)
  case atStart => exact ⟨0, Nat.zero_le _, rfl, Lib.hid rfl⟩
  case round =>
    obtain ⟨j, hj, rfl, hA⟩ := hrel
    by_cases hlt : j < xs.length
    · obtain ⟨b, o, rfl, hb1, hb2, c0⟩ := hs.at j hlt
      have hs1 := Lib.hid (show (xs.take (j + 1)).any p = p xs[j] by rw [List.take_succ_eq_append_getElem hlt, List.any_append, hA.out]; simp)
      have hs2 := Lib.hid (show p xs[j] = true → xs.any p = true from fun h => List.any_eq_true.2 ⟨_, List.getElem_mem hlt, h⟩)
      clear hs hA
      generalize xs[j] = x at *
      go_wp2_with fail
      refine (H.out _ _).mono ?_
      rintro r w1 ⟨rfl, rfl⟩
      cases hp : p x
      · go_wp2
        go_round
        case rel => exact ⟨j + 1, by omega, by go_num, Lib.hid (by rw [hs1.out, hp])⟩
        case measure => simp [intOf]; omega
      · have hfin := Lib.hid (hs2.out hp)
        clear hs1 hs2 hp
        go_wp2
        go_ret
        exact ⟨⟨_, rfl, by rw [hfin.out]; simp⟩, rfl⟩
    · have hge : xs.length ≤ j := by omega
      have hfin := Lib.hid (show xs.any p = false by have h := hA.out; rwa [List.take_of_length_le hge] at h)
      clear hA hs
      go_wp2
      go_ret
      exact ⟨⟨_, rfl, by rw [hfin.out]; simp⟩, rfl⟩
theorem containsFuncI (f : Nat) (he : ∀ args w, (callFunc f args).run Try.prog w = .ok (.enter f args) w) (p : Int → Bool) (hf : ∀ (w : World) (x : Int), Calls Try.prog f #[.int .i64 x] w fun e w' => e = .returned (.bool (p x)) ∧ w = w')
    (w : World) (lo hi : Nat) (s : Value) (xs : List Int) (hs : IntsR w lo hi s xs) :
    Calls Try.prog 151 #[s, .func (.func f) #[] #[]] w fun e w' => e = .returned (.bool (xs.any p)) ∧ w = w' := by
  have H := Lib.hid hf; clear hf
  go_enter Try.func151, Try.ntmps151
  go_wp2_with fail
  refine (indexFuncI f he p H.out w lo hi s xs hs).mono ?_
  rintro e w1 ⟨⟨r, rfl, hr⟩, rfl⟩
  have hR := Lib.hid hr; clear hr
  go_wp2
  go_ret
  exact ⟨retB hR.out, rfl⟩
set_option maxHeartbeats 1000000 in
theorem indexFuncM (f : Nat) (he : ∀ args w, (callFunc f args).run Try.prog w = .ok (.enter f args) w) (p : List Int → Bool) (hf : ∀ (w : World) (lo hi : Nat) (s : Value) (x : List Int), IntsR w lo hi s x → Calls Try.prog f #[s] w fun e w' => e = .returned (.bool (p x)) ∧ w = w')
    (w : World) (lo hi : Nat) (s : Value) (xs : List (List Int)) (hs : MatR w lo hi s xs) :
    Calls Try.prog 160 #[s, .func (.func f) #[] #[]] w fun e w' => (∃ r : Int, e = .returned (.int .i64 r) ∧ decide (0 ≤ r) = xs.any p) ∧ w = w' := by
  obtain ⟨a, c, rfl, hl1⟩ := hs.len
  have H := Lib.hid hf; clear hf
  go_enter Try.func160, Try.ntmps160
  go_wp2_with fail
  go_loop [8] (fun i => ∃ j : Nat, j ≤ xs.length ∧ i = .int .i64 j ∧ Hid ((xs.take j).any p = false)) (fun i => xs.length - (intOf i).toNat)
  case atStart => exact ⟨0, Nat.zero_le _, rfl, Lib.hid rfl⟩
  case round =>
    obtain ⟨j, hj, rfl, hA⟩ := hrel
    by_cases hlt : j < xs.length
    · obtain ⟨b, o, s, rfl, hb1, hb2, c0, q0⟩ := hs.at' j hlt
      have hs1 := Lib.hid (show (xs.take (j + 1)).any p = p xs[j] by rw [List.take_succ_eq_append_getElem hlt, List.any_append, hA.out]; simp)
      have hs2 := Lib.hid (show p xs[j] = true → xs.any p = true from fun h => List.any_eq_true.2 ⟨_, List.getElem_mem hlt, h⟩)
      clear hs hA
      generalize xs[j] = x at *
      go_wp2_with fail
      refine (H.out _ _ _ _ _ q0).mono ?_
      rintro r w1 ⟨rfl, rfl⟩
      cases hp : p x
      · go_wp2
        go_round
        case rel => exact ⟨j + 1, by omega, by go_num, Lib.hid (by rw [hs1.out, hp])⟩
        case measure => simp [intOf]; omega
      · have hfin := Lib.hid (hs2.out hp)
        clear hs1 hs2 hp
        go_wp2
        go_ret
        exact ⟨⟨_, rfl, by rw [hfin.out]; simp⟩, rfl⟩
    · have hge : xs.length ≤ j := by omega
      have hfin := Lib.hid (show xs.any p = false by have h := hA.out; rwa [List.take_of_length_le hge] at h)
      clear hA hs
      go_wp2
      go_ret
      exact ⟨⟨_, rfl, by rw [hfin.out]; simp⟩, rfl⟩
theorem containsFuncM (f : Nat) (he : ∀ args w, (callFunc f args).run Try.prog w = .ok (.enter f args) w) (p : List Int → Bool) (hf : ∀ (w : World) (lo hi : Nat) (s : Value) (x : List Int), IntsR w lo hi s x → Calls Try.prog f #[s] w fun e w' => e = .returned (.bool (p x)) ∧ w = w')
    (w : World) (lo hi : Nat) (s : Value) (xs : List (List Int)) (hs : MatR w lo hi s xs) :
    Calls Try.prog 141 #[s, .func (.func f) #[] #[]] w fun e w' => e = .returned (.bool (xs.any p)) ∧ w = w' := by
  have H := Lib.hid hf; clear hf
  go_enter Try.func141, Try.ntmps141
  go_wp2_with fail
  refine (indexFuncM f he p H.out w lo hi s xs hs).mono ?_
  rintro e w1 ⟨⟨r, rfl, hr⟩, rfl⟩
  have hR := Lib.hid hr; clear hr
  go_wp2
  go_ret
  exact ⟨retB hR.out, rfl⟩
theorem areLabels1 (w : World) (x : Int) : Calls Try.prog 152 #[.int .i64 x] w fun e w' => e = .returned (.bool (!Lab.okL x)) ∧ w = w' := by
  go_enter Try.func152, Try.ntmps152
  go_wp2_with fail
  refine (Lab.implLabelValid _ _).mono ?_
  rintro r w1 ⟨rfl, rfl⟩
  go_wp2
  go_ret
  exact ⟨rfl, rfl⟩
theorem areLabels (w : World) (lo hi : Nat) (s : Value) (xs : List Int) (hs : IntsR w lo hi s xs) :
    Calls Try.prog 130 #[s] w fun e w' => e = .returned (.bool (Val.good xs)) ∧ w = w' := by
  have hg := Lib.hid (show Val.good xs = !(xs.any fun x => !Lab.okL x) by simp [Val.good, List.all_eq_not_any_not])
  go_enter Try.func130, Try.ntmps130
  go_wp2_with fail
  refine (containsFuncI 152 (enters_of Try.func152 (by kernel_rfl) rfl) (fun x => !Lab.okL x) areLabels1 w lo hi s xs hs).mono ?_
  rintro e w1 ⟨rfl, rfl⟩
  go_wp2
  go_ret
  exact ⟨retB hg.out.symm, rfl⟩
theorem areValues1 (w : World) (x : Int) : Calls Try.prog 159 #[.int .i64 x] w fun e w' => e = .returned (.bool (!Val.okV x)) ∧ w = w' := by
  go_enter Try.func159, Try.ntmps159
  go_wp2_with fail
  refine (Lab.within _ _ _ _).mono ?_
  rintro r w1 ⟨rfl, rfl⟩
  go_wp2
  go_ret
  exact ⟨rfl, rfl⟩
theorem areValues (w : World) (lo hi : Nat) (s : Value) (xs : List Int) (hs : IntsR w lo hi s xs) :
    Calls Try.prog 140 #[s] w fun e w' => e = .returned (.bool (Val.okVs xs)) ∧ w = w' := by
  have hg := Lib.hid (show Val.okVs xs = !(xs.any fun x => !Val.okV x) by simp [Val.okVs, List.all_eq_not_any_not])
  go_enter Try.func140, Try.ntmps140
  go_wp2_with fail
  refine (containsFuncI 159 (enters_of Try.func159 (by kernel_rfl) rfl) (fun x => !Val.okV x) areValues1 w lo hi s xs hs).mono ?_
  rintro e w1 ⟨rfl, rfl⟩
  go_wp2
  go_ret
  exact ⟨retB hg.out.symm, rfl⟩
def badRow (a : List Int) : Bool := !(decide (a.length = 4) && Val.okVs a)
theorem isMemory1 (w : World) (lo hi : Nat) (s : Value) (x : List Int) (hs : IntsR w lo hi s x) : Calls Try.prog 142 #[s] w fun e w' => e = .returned (.bool (badRow x)) ∧ w = w' := by
  have hs0 := Lib.hid hs
  obtain ⟨a, c, rfl, hl1⟩ := hs.len
  clear hs
  by_cases h4 : x.length = 4
  · have e4 : ((x.length : Int) != 4) = false := by simp [h4]
    have g := Lib.hid (show badRow x = !Val.okVs x by simp [badRow, h4])
    clear h4
    go_enter Try.func142, Try.ntmps142
    go_wp2_with fail
    refine (areValues _ _ _ _ _ hs0.out).mono ?_
    rintro r w1 ⟨rfl, rfl⟩
    go_wp2
    go_ret
    exact ⟨retB g.out.symm, rfl⟩
  · have e4 : ((x.length : Int) != 4) = true := by simp; omega
    have g := Lib.hid (show badRow x = true by simp [badRow, h4])
    clear h4
    go_enter Try.func142, Try.ntmps142
    go_wp2_with fail
    go_ret
    exact ⟨retB g.out.symm, rfl⟩
end Go.Proofs.Ytckikiaockkmbaa.Cont
