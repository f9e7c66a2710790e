/- FormatLabels of spec and of impl; the instances of slices.IndexFunc and ContainsFunc that they call. Condition: at most 2^20 labels. -/
import Derived.Test.YtdagoioeifnmeaaLawF
import Derived.Test.YtdagoioeifnmeaaLab
import Derived.Test.YtdagoioeifnmeaaBuild
import Derived.Test.YtdagoioeifnmeaaShelf
namespace Go.Proofs.Ytdagoioeifnmeaa.FmtL
open Go.RowKit Kit
set_option linter.unusedVariables false

/-- the letter of a label -/
def letter (l : Int) : UInt8 := if l = 0 then 76 else if l = 1 then 72 else if l = 2 then 85 else 88
def letters (xs : List Int) : List UInt8 := xs.map letter
def good (xs : List Int) : Bool := xs.all Lab.okL
def text (xs : List Int) : List UInt8 := if good xs then letters xs else []
theorem good_snoc (xs : List Int) (x : Int) : good (xs ++ [x]) = (good xs && Lab.okL x) := by simp [good]
theorem letters_snoc (xs : List Int) (x : Int) : letters (xs ++ [x]) = letters xs ++ [letter x] := by simp [letters]
theorem good_bad {xs : List Int} {j : Nat} (h : j < xs.length) (hb : Lab.okL xs[j] = false) : good xs = false := by
  rw [good, List.all_eq_false]; exact ⟨_, List.getElem_mem h, by simp [hb]⟩
theorem byteCells_snoc (l : List UInt8) (x : UInt8) : Lib.byteCells (l ++ [x]) = Lib.byteCells l ++ [.int .u8 x.toNat] := by simp [Lib.byteCells]
theorem ba_ext {a : ByteArray} {l : List UInt8} (h : a.data.toList = l) : a = ⟨l.toArray⟩ := by
  obtain ⟨⟨x⟩⟩ := a
  simp at h; subst h; rfl
theorem app_toList (a b : ByteArray) : (a ++ b).data.toList = a.data.toList ++ b.data.toList := by
  simp [ByteArray.data_append]

set_option maxHeartbeats 1000000 in
theorem specFmt (w : World) (lo hi : Nat) (s : Value) (xs : List Int) (hs : IntsR w lo hi s xs) (h1 : hi ≤ w.heap.size) (hm : xs.length ≤ 1048576) :
    Calls Try.prog 41 #[s] w fun e w' => e = .returned (.string ⟨(text xs).toArray⟩) ∧ New w w' := by
  obtain ⟨a, c, rfl, hl1⟩ := hs.len
  go_enter Try.func41, Try.ntmps41
  go_wp2_with fail
  go_loopw [3, 4] (fun v i wr => ∃ (j : Nat) (t : ByteArray), j ≤ xs.length ∧ i = .int .i64 j ∧ v = .string t ∧ (∃ k, wr = w.drewN k) ∧ Hid (t.data.toList = letters (xs.take j)) ∧ Hid (good (xs.take j) = true)) (fun _ i _ => xs.length - (intOf i).toNat)
  case atStart => exact ⟨0, _, Nat.zero_le _, rfl, rfl, ⟨0, rfl⟩, Lib.hid rfl, Lib.hid rfl⟩
  case round =>
    obtain ⟨j, t, hj, rfl, rfl, ⟨k, rfl⟩, hT, hG⟩ := hrel
    by_cases hlt : j < xs.length
    · obtain ⟨b, o, rfl, hb1, hb2, c0⟩ := hs.at j hlt
      have hts := List.take_succ_eq_append_getElem hlt
      cases hok : Lab.okL xs[j]
      · have hbad := Lib.hid (show text xs = [] by rw [text, good_bad hlt hok]; rfl)
        generalize xs[j] = x at *
        clear hts hs
        go_wp2_with fail
        refine (Lab.specLabelValid _ _).mono ?_
        rintro r w1 ⟨rfl, rfl⟩
        go_wp2
        go_ret
        exact ⟨by rw [hbad.out]; rfl, drewN_kp _ k (Kp.refl _ _)⟩
      · have hG2 := Lib.hid (show good (xs.take (j + 1)) = true by rw [hts, good_snoc, hG.out, hok]; rfl)
        have hT2 := Lib.hid (show letters (xs.take (j + 1)) = letters (xs.take j) ++ [letter xs[j]] by rw [hts, letters_snoc])
        generalize xs[j] = x at *
        clear hts hs
        have w1 : IntKind.i64.wrap 1 = 1 := by decide
        have q1 : ∀ wx, (Instr.slice 9 (.string ⟨#[76, 72, 85, 88]⟩) (some (.int .i64 0)) (some (.int .i64 1)) none).run Try.prog wx = .ok (.string ⟨#[76]⟩) wx := fun _ => by kernel_rfl
        have w2 : IntKind.i64.wrap 2 = 2 := by decide
        have q2 : ∀ wx, (Instr.slice 9 (.string ⟨#[76, 72, 85, 88]⟩) (some (.int .i64 1)) (some (.int .i64 2)) none).run Try.prog wx = .ok (.string ⟨#[72]⟩) wx := fun _ => by kernel_rfl
        have w3 : IntKind.i64.wrap 3 = 3 := by decide
        have q3 : ∀ wx, (Instr.slice 9 (.string ⟨#[76, 72, 85, 88]⟩) (some (.int .i64 2)) (some (.int .i64 3)) none).run Try.prog wx = .ok (.string ⟨#[85]⟩) wx := fun _ => by kernel_rfl
        have w4 : IntKind.i64.wrap 4 = 4 := by decide
        have q4 : ∀ wx, (Instr.slice 9 (.string ⟨#[76, 72, 85, 88]⟩) (some (.int .i64 3)) (some (.int .i64 4)) none).run Try.prog wx = .ok (.string ⟨#[88]⟩) wx := fun _ => by kernel_rfl
        have hadd : ∀ (c : UInt8) (wx : World), (Op.stringOp .add t ⟨#[c]⟩).run Try.prog wx = .ok (.string (t ++ ⟨#[c]⟩)) wx := fun c wx => run_string_add_sum wx _ _ (by
          have h1 := congrArg List.length hT.out
          have h2 : t.size = t.data.toList.length := by show t.data.size = _; simp
          have h3 : (⟨#[c]⟩ : ByteArray).size = 1 := rfl
          rw [h2, h1, h3, letters]; simp; omega)
        have a1 := hadd 76
        have a2 := hadd 72
        have a3 := hadd 85
        have a4 := hadd 88
        have b1 : ∀ wx, (binOp .add 9 (.string t) (.string ⟨#[76]⟩)).run Try.prog wx = .ok (.string (t ++ ⟨#[76]⟩)) wx := hadd 76
        have b2 : ∀ wx, (binOp .add 9 (.string t) (.string ⟨#[72]⟩)).run Try.prog wx = .ok (.string (t ++ ⟨#[72]⟩)) wx := hadd 72
        have b3 : ∀ wx, (binOp .add 9 (.string t) (.string ⟨#[85]⟩)).run Try.prog wx = .ok (.string (t ++ ⟨#[85]⟩)) wx := hadd 85
        have b4 : ∀ wx, (binOp .add 9 (.string t) (.string ⟨#[88]⟩)).run Try.prog wx = .ok (.string (t ++ ⟨#[88]⟩)) wx := hadd 88
        clear hadd
        obtain rfl | rfl | rfl | rfl := Lab.okL_cases hok
        all_goals
          clear hok
          go_wp2_with fail
          refine (Lab.specLabelValid _ _).mono ?_
          rintro r w1 ⟨rfl, rfl⟩
          go_wp2_with fail
          go_quiet (fail)
          go_wp2
          go_roundw
          case rel => exact ⟨j + 1, _, by omega, by go_num, rfl, ⟨_, rfl⟩, Lib.hid (by rw [app_toList, hT.out, hT2.out]; rfl), hG2⟩
          case measure => simp [intOf]; omega
    · have hge : xs.length ≤ j := by omega
      have hfin := Lib.hid (show t = ⟨(text xs).toArray⟩ from ba_ext (by
        have h := hG.out
        rw [hT.out]
        rw [List.take_of_length_le hge] at h ⊢
        rw [text, h]; rfl))
      go_wp2
      go_ret
      exact ⟨by rw [← hfin.out]; rfl, drewN_kp _ k (Kp.refl _ _)⟩
theorem areLabels1 (w : World) (x : Int) : Calls Try.prog 68 #[.int .i64 x] w fun e w' => e = .returned (.bool (!Lab.okL x)) ∧ w = w' := by
  go_enter Try.func68, Try.ntmps68
  go_wp2_with fail
  refine (Lab.implLabelValid _ _).mono ?_
  rintro r w1 ⟨rfl, rfl⟩
  go_wp2
  go_ret
  exact ⟨rfl, rfl⟩
set_option maxHeartbeats 1000000 in
theorem indexFuncI (f : Nat) (he : ∀ args w, (callFunc f args).run Try.prog w = .ok (.enter f args) w) (p : Int → Bool) (hf : ∀ (w : World) (x : Int), Calls Try.prog f #[.int .i64 x] w fun e w' => e = .returned (.bool (p x)) ∧ w = w')
    (w : World) (lo hi : Nat) (s : Value) (xs : List Int) (hs : IntsR w lo hi s xs) :
    Calls Try.prog 72 #[s, .func (.func f) #[] #[]] w fun e w' => (∃ r : Int, e = .returned (.int .i64 r) ∧ decide (0 ≤ r) = xs.any p) ∧ w = w' := by
  obtain ⟨a, c, rfl, hl1⟩ := hs.len
  have H := Lib.hid hf; clear hf
  go_enter Try.func72, Try.ntmps72
  go_wp2_with fail
  go_loop [8] (fun i => ∃ j : Nat, j ≤ xs.length ∧ i = .int .i64 j ∧ Hid ((xs.take j).any p = false)) (fun i => xs.length - (intOf i).toNat)
  case atStart => exact ⟨0, Nat.zero_le _, rfl, Lib.hid rfl⟩
  case round =>
    obtain ⟨j, hj, rfl, hA⟩ := hrel
    by_cases hlt : j < xs.length
    · obtain ⟨b, o, rfl, hb1, hb2, c0⟩ := hs.at j hlt
      have hs1 := Lib.hid (show (xs.take (j + 1)).any p = p xs[j] by rw [List.take_succ_eq_append_getElem hlt, List.any_append, hA.out]; simp)
      have hs2 := Lib.hid (show p xs[j] = true → xs.any p = true from fun h => List.any_eq_true.2 ⟨_, List.getElem_mem hlt, h⟩)
      clear hs hA
      generalize xs[j] = x at *
      go_wp2_with fail
      refine (H.out _ _).mono ?_
      rintro r w1 ⟨rfl, rfl⟩
      cases hp : p x
      · go_wp2
        go_round
        case rel => exact ⟨j + 1, by omega, by go_num, Lib.hid (by rw [hs1.out, hp])⟩
        case measure => simp [intOf]; omega
      · have hfin := Lib.hid (hs2.out hp)
        clear hs1 hs2 hp
        go_wp2
        go_ret
        exact ⟨⟨_, rfl, by rw [hfin.out]; simp⟩, rfl⟩
    · have hge : xs.length ≤ j := by omega
      have hfin := Lib.hid (show xs.any p = false by have h := hA.out; rwa [List.take_of_length_le hge] at h)
      clear hA hs
      go_wp2
      go_ret
      exact ⟨⟨_, rfl, by rw [hfin.out]; simp⟩, rfl⟩
theorem containsFuncI (f : Nat) (he : ∀ args w, (callFunc f args).run Try.prog w = .ok (.enter f args) w) (p : Int → Bool) (hf : ∀ (w : World) (x : Int), Calls Try.prog f #[.int .i64 x] w fun e w' => e = .returned (.bool (p x)) ∧ w = w')
    (w : World) (lo hi : Nat) (s : Value) (xs : List Int) (hs : IntsR w lo hi s xs) :
    Calls Try.prog 67 #[s, .func (.func f) #[] #[]] w fun e w' => e = .returned (.bool (xs.any p)) ∧ w = w' := by
  have H := Lib.hid hf; clear hf
  go_enter Try.func67, Try.ntmps67
  go_wp2_with fail
  refine (indexFuncI f he p H.out w lo hi s xs hs).mono ?_
  rintro e w1 ⟨⟨r, rfl, hr⟩, rfl⟩
  have hR := Lib.hid hr; clear hr
  go_wp2
  go_ret
  exact ⟨retB hR.out, rfl⟩
theorem areLabels (w : World) (lo hi : Nat) (s : Value) (xs : List Int) (hs : IntsR w lo hi s xs) :
    Calls Try.prog 60 #[s] w fun e w' => e = .returned (.bool (good xs)) ∧ w = w' := by
  have hg := Lib.hid (show good xs = !(xs.any fun x => !Lab.okL x) by simp [good, List.all_eq_not_any_not])
  go_enter Try.func60, Try.ntmps60
  go_wp2_with fail
  refine (containsFuncI 68 (enters_of Try.func68 (by kernel_rfl) rfl) (fun x => !Lab.okL x) areLabels1 w lo hi s xs hs).mono ?_
  rintro e w1 ⟨rfl, rfl⟩
  go_wp2
  go_ret
  exact ⟨retB hg.out.symm, rfl⟩
set_option maxHeartbeats 1000000 in
theorem implFmt (w : World) (lo hi : Nat) (s : Value) (xs : List Int) (hs : IntsR w lo hi s xs) (h1 : hi ≤ w.heap.size) (hm : xs.length ≤ 1048576) :
    Calls Try.prog 43 #[s] w fun e w' => e = .returned (.string ⟨(text xs).toArray⟩) ∧ New w w' := by
  obtain ⟨a, c, rfl, hl1⟩ := hs.len
  cases hg : good xs
  · have hT := Lib.hid (show text xs = [] by rw [text, hg]; rfl)
    go_enter Try.func43, Try.ntmps43
    go_wp2_with fail
    refine (areLabels w lo hi _ xs hs).mono ?_
    rintro e w1 ⟨rfl, rfl⟩
    rw [hg]
    go_wp2
    go_ret
    exact ⟨by rw [hT.out]; rfl, Kp.refl _ _⟩
  · have hT := Lib.hid (show text xs = letters xs by rw [text, hg]; rfl)
    have hall := Lib.hid (show ∀ j (h : j < xs.length), Lab.okL xs[j] = true from fun j h => List.all_eq_true.1 hg _ (List.getElem_mem h))
    go_enter Try.func43, Try.ntmps43
    go_wp2_with fail
    refine (areLabels w lo hi _ xs hs).mono ?_
    rintro e w1 ⟨rfl, rfl⟩
    rw [hg]
    clear hg
    go_wp2_with fail
    have hB0 := Lib.fresh_isBuilder 64 5 w
    have hA0 : Below w.heap.size w (w.alloc (.cells #[.pointer none, .slice none 0 0] 64)) := (Below.refl _ _).alloc (Nat.le_refl _) _
    generalize w.alloc (.cells #[.pointer none, .slice none 0 0] 64) = wA at *
    go_loopw [11] (fun i wr => ∃ j : Nat, j ≤ xs.length ∧ i = .int .i64 j ∧ Below w.heap.size w wr ∧ Build.IsB w.heap.size w.heap.size (Lib.byteCells (letters (xs.take j))) wr) (fun i _ => xs.length - (intOf i).toNat)
    case atStart => exact ⟨0, Nat.zero_le _, rfl, hA0, hB0⟩
    case round =>
      obtain ⟨j, hj, rfl, hN, hB⟩ := hrel
      clear hA0 hB0
      by_cases hlt : j < xs.length
      · obtain ⟨b, o, rfl, hb1, hb2, c0⟩ := hs.at j hlt
        have g0 : wr.cell? ⟨b, o + j, none⟩ = some (.int .i64 xs[j]) := (hN.cell (p := ⟨b, o + j, none⟩) (show b < w.heap.size by omega)).trans c0
        have hts := Lib.hid (show letters (xs.take (j + 1)) = letters (xs.take j) ++ [letter xs[j]] by rw [List.take_succ_eq_append_getElem hlt, letters_snoc])
        have hlen : (Lib.byteCells (letters (xs.take j))).length + 1 ≤ 140737488355328 := by simp [Lib.byteCells, letters]; omega
        have hok := hall.out j hlt
        have hsz := hN.size
        clear c0 hs
        generalize xs[j] = x at *
        obtain rfl | rfl | rfl | rfl := Lab.okL_cases hok
        all_goals
          clear hok
          go_wp2_with fail
          refine (Build.writeByte w.heap.size w.heap.size _ _ wr hB hlen hsz).mono ?_
          rintro r w1 ⟨rfl, hB1, hN1⟩
          have hB2 : Build.IsB w.heap.size w.heap.size (Lib.byteCells (letters (xs.take (j + 1)))) w1 := by
            rw [hts.out, byteCells_snoc]; exact hB1
          have hN2 := hN.trans hN1
          clear hB hB1 hN1 hN g0
          go_wp2
          go_roundw
          case rel => exact ⟨j + 1, by omega, by go_num, hN2, hB2⟩
          case measure => simp [intOf]; omega
      · have hge : xs.length ≤ j := by omega
        rw [List.take_of_length_le hge] at hB
        have hsz := hN.size
        go_wp2_with fail
        refine (Try.Builder_String_any w.heap.size w.heap.size (letters xs) wr hB hsz).mono ?_
        rintro r w1 ⟨rfl, hN1⟩
        go_wp2
        go_ret
        exact ⟨by rw [hT.out]; rfl, Kp.ofBelow (hN.trans hN1)⟩
end Go.Proofs.Ytdagoioeifnmeaa.FmtL
