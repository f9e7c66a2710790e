/- ParseLabels of spec and of impl: what they return, at every text of at most 2^20 bytes. -/
import Derived.Test.YtdagoioeifnmeaaLawF
import Derived.Test.YtdagoioeifnmeaaApp
import Derived.Test.YtdagoioeifnmeaaShelf
namespace Go.Proofs.Ytdagoioeifnmeaa.Parse
open Go.RowKit Kit
set_option linter.unusedVariables false

/-- the label of a letter, or -1 -/
def lab (c : Int) : Int := if c = 76 then 0 else if c = 72 then 1 else if c = 85 then 2 else if c = 88 then 3 else -1
theorem lab_cases (c : Int) : (c = 76 ∧ lab c = 0) ∨ (c = 72 ∧ lab c = 1) ∨ (c = 85 ∧ lab c = 2) ∨ (c = 88 ∧ lab c = 3) ∨ ((c ≠ 76 ∧ c ≠ 72 ∧ c ≠ 85 ∧ c ≠ 88) ∧ lab c = -1) := by
  unfold lab; split
  · exact .inl ⟨‹_›, rfl⟩
  · split
    · exact .inr (.inl ⟨‹_›, rfl⟩)
    · split
      · exact .inr (.inr (.inl ⟨‹_›, rfl⟩))
      · split
        · exact .inr (.inr (.inr (.inl ⟨‹_›, rfl⟩)))
        · exact .inr (.inr (.inr (.inr ⟨⟨‹_›, ‹_›, ‹_›, ‹_›⟩, rfl⟩)))
def labB (b : UInt8) : Int := lab b.toNat
/-- the labels of letters; none where there is another letter -/
def labs (l : List UInt8) : List Int := l.map labB
def good (l : List UInt8) : Bool := l.all fun b => decide (0 ≤ labB b)
def parsed (l : List UInt8) : List Int := if good l then labs l else []

theorem index_lab (b : UInt8) : Lib.indexByte [76, 72, 85, 88] b = labB b := by
  have h : ∀ n : Fin 256, Lib.indexByte [76, 72, 85, 88] (UInt8.ofNat n.1) = lab n.1 := by decide +kernel
  have := h ⟨b.toNat, b.toNat_lt⟩
  simpa [labB] using this

theorem take_snoc (s : ByteArray) (k : Nat) (h : k < s.size) : s.data.toList.take (k + 1) = s.data.toList.take k ++ [s[k]] := by
  rw [List.take_succ_eq_append_getElem (by simpa using h)]; rfl
theorem labs_snoc (l : List UInt8) (b : UInt8) : labs (l ++ [b]) = labs l ++ [labB b] := by simp [labs]
theorem good_snoc (l : List UInt8) (b : UInt8) : good (l ++ [b]) = (good l && decide (0 ≤ labB b)) := by simp [good]
theorem good_bad {s : ByteArray} {k : Nat} (h : k < s.size) (hb : labB s[k] < 0) : good s.data.toList = false := by
  rw [good, List.all_eq_false]
  exact ⟨s[k], by rw [show s[k] = s.data.toList[k]'(by simpa using h) from rfl]; exact List.getElem_mem _, by simp; omega⟩

set_option maxHeartbeats 1000000 in
theorem l1Label (w : World) (c : Int) : Calls Try.prog 57 #[.int .u8 c] w fun e w' => e = .returned (.int .i64 (lab c)) ∧ w = w' := by
  rcases lab_cases c with ⟨rfl, h⟩ | ⟨rfl, h⟩ | ⟨rfl, h⟩ | ⟨rfl, h⟩ | ⟨⟨h1, h2, h3, h4⟩, h⟩
  · go_enter Try.func57, Try.ntmps57
    go_wp2_with fail
    refine wp_loop_rounds 5 ?_
    rw [rounds_succ]
    go_wp2
    go_ret
    exact ⟨retI h.symm, rfl⟩
  · go_enter Try.func57, Try.ntmps57
    go_wp2_with fail
    refine wp_loop_rounds 5 ?_
    rw [rounds_succ]
    go_wp2
    rw [rounds_succ]
    go_wp2
    go_ret
    exact ⟨retI h.symm, rfl⟩
  · go_enter Try.func57, Try.ntmps57
    go_wp2_with fail
    refine wp_loop_rounds 5 ?_
    rw [rounds_succ]
    go_wp2
    rw [rounds_succ]
    go_wp2
    rw [rounds_succ]
    go_wp2
    go_ret
    exact ⟨retI h.symm, rfl⟩
  · go_enter Try.func57, Try.ntmps57
    go_wp2_with fail
    refine wp_loop_rounds 5 ?_
    rw [rounds_succ]
    go_wp2
    rw [rounds_succ]
    go_wp2
    rw [rounds_succ]
    go_wp2
    rw [rounds_succ]
    go_wp2
    go_ret
    exact ⟨retI h.symm, rfl⟩
  · have g1 : (((⟨#[76, 72, 85, 88]⟩ : ByteArray)[0].toNat : Int) == c) = false := by show ((76 : Int) == c) = false; simp; omega
    have g2 : (((⟨#[76, 72, 85, 88]⟩ : ByteArray)[1].toNat : Int) == c) = false := by show ((72 : Int) == c) = false; simp; omega
    have g3 : (((⟨#[76, 72, 85, 88]⟩ : ByteArray)[2].toNat : Int) == c) = false := by show ((85 : Int) == c) = false; simp; omega
    have g4 : (((⟨#[76, 72, 85, 88]⟩ : ByteArray)[3].toNat : Int) == c) = false := by show ((88 : Int) == c) = false; simp; omega
    clear h1 h2 h3 h4
    go_enter Try.func57, Try.ntmps57
    go_wp2_with fail
    refine wp_loop_rounds 5 ?_
    rw [rounds_succ]
    go_wp2
    rw [rounds_succ]
    go_wp2
    rw [rounds_succ]
    go_wp2
    rw [rounds_succ]
    go_wp2
    rw [rounds_succ]
    go_wp2
    go_ret
    exact ⟨retI h.symm, rfl⟩

def Res (w : World) (l : List UInt8) (e : Ending) (w' : World) : Prop := ∃ v, e = .returned (.tuple #[v, .bool (good l)]) ∧ New w w' ∧ OwnF 1 encI w' w.heap.size 3 v (parsed l)

set_option maxHeartbeats 1000000 in
theorem specParse (w : World) (s : ByteArray) (hm : s.size ≤ 1048576) : Calls Try.prog 34 #[.string s] w (Res w s.data.toList) := by
  go_enter Try.func34, Try.ntmps34
  go_wp2_with fail
  go_loopw [4, 5] (fun v i wr => ∃ j : Nat, j ≤ s.size ∧ i = .int .i64 j ∧ New w wr ∧ OwnF 1 encI wr w.heap.size 3 v (labs (s.data.toList.take j)) ∧ Hid (good (s.data.toList.take j) = true)) (fun _ i _ => s.size - (intOf i).toNat)
  case atStart => exact ⟨0, Nat.zero_le _, rfl, (Kp.refl _ _).alloc _, OwnF.empty w _ (Nat.le_refl _), Lib.hid rfl⟩
  case round =>
    obtain ⟨j, hj, rfl, hN, hO, hG⟩ := hrel
    have hb3 : w.heap.size ≤ wr.heap.size := hN.size
    by_cases hlt : j < s.size
    · have hts := take_snoc s j hlt
      have hl2 := Lib.hid (show labs (s.data.toList.take (j + 1)) = labs (s.data.toList.take j) ++ [lab (s[j].toNat : Int)] by rw [hts, labs_snoc]; rfl)
      have hG2 := Lib.hid (show good (s.data.toList.take (j + 1)) = decide (0 ≤ lab (s[j].toNat : Int)) by rw [hts, good_snoc, hG.out, Bool.true_and]; rfl)
      have hlen : (labs (s.data.toList.take j)).length ≤ 1048576 := by simp [labs]; omega
      clear hts
      go_wp2_with fail
      refine (l1Label _ _).mono ?_
      rintro r w1 ⟨rfl, rfl⟩
      by_cases hneg : lab (s[j].toNat : Int) < 0
      · have hbad := Lib.hid (good_bad hlt hneg)
        have hp := Lib.hid (show parsed s.data.toList = [] by rw [parsed, hbad.out]; rfl)
        clear hl2 hG2
        go_wp2
        go_ret2
        refine ⟨_, by rw [hbad.out]; rfl, hN.alloc _, by rw [hp.out]; exact OwnF.empty _ _ hb3⟩
      · have hge : 0 ≤ lab (s[j].toNat : Int) := by omega
        have hG3 := Lib.hid (show good (s.data.toList.take (j + 1)) = true by rw [hG2.out]; simpa using hge)
        clear hG2 hG
        generalize lab (s[j].toNat : Int) = q at *
        have hA1 : ((labs (s.data.toList.take j)).length + 1) * 8 ≤ 140737488355328 := by omega
        have hA2 : (labs (s.data.toList.take j)).length + 1 ≤ 9223372036854775807 := by omega
        go_wp2_with (at_builtin; refine wpList_push rfl _ _ 37 rfl w.heap.size 3 _ 1 8 Try.underlying37 LawF.infoI rfl (by decide) _ _ rfl (hO.new ((Kp.refl _ _).alloc _)) _ _ q rfl (newsI _ q _) (oneI _) hA1 hA2 (size_alloc_le hb3 _) ?_; intro v' w1 hO1 hK1)
        have hN1 : New w w1 := New.on (hN.alloc _) hK1 (fun i hi => (hO.lt i hi).1)
        rw [← hl2.out] at hO1
        clear hO hK1
        go_wp2
        go_roundw
        case rel => exact ⟨j + 1, by omega, by go_num, hN1, hO1, hG3⟩
        case measure => simp [intOf]; omega
    · have hge : s.size ≤ j := by omega
      have hGe := Lib.hid (show good s.data.toList = true by have := hG.out; rwa [List.take_of_length_le (by simpa using hge)] at this)
      rw [List.take_of_length_le (by simpa using hge)] at hO
      have hp := Lib.hid (show parsed s.data.toList = labs s.data.toList by rw [parsed, hGe.out]; rfl)
      go_wp2
      go_ret2
      exact ⟨_, by rw [hGe.out]; rfl, hN, by rw [hp.out]; exact hO⟩
set_option maxHeartbeats 1000000 in
theorem implParse (w : World) (s : ByteArray) (hm : s.size ≤ 1048576) : Calls Try.prog 35 #[.string s] w (Res w s.data.toList) := by
  go_enter Try.func35, Try.ntmps35
  go_wp2_with fail
  go_loopw [4, 9] (fun v i wr => ∃ j : Nat, j ≤ s.size ∧ i = .int .i64 j ∧ New w wr ∧ OwnF 1 encI wr w.heap.size 3 v (labs (s.data.toList.take j)) ∧ Hid (good (s.data.toList.take j) = true)) (fun _ i _ => s.size - (intOf i).toNat)
  case atStart => exact ⟨0, Nat.zero_le _, rfl, Kp.refl _ _, OwnF.nil w _ _, Lib.hid rfl⟩
  case round =>
    obtain ⟨j, hj, rfl, hN, hO, hG⟩ := hrel
    have hb3 : w.heap.size ≤ wr.heap.size := hN.size
    by_cases hlt : j < s.size
    · have hts := take_snoc s j hlt
      have hl2 := Lib.hid (show labs (s.data.toList.take (j + 1)) = labs (s.data.toList.take j) ++ [labB s[j]] by rw [hts, labs_snoc])
      have hG2 := Lib.hid (show good (s.data.toList.take (j + 1)) = decide (0 ≤ labB s[j]) by rw [hts, good_snoc, hG.out, Bool.true_and])
      have hlen : (labs (s.data.toList.take j)).length ≤ 1048576 := by simp [labs]; omega
      have hix := Lib.hid (show Lib.indexByte [76, 72, 85, 88] ((s[j].toNat : Int)).toNat.toUInt8 = labB s[j] by rw [← index_lab, Int.toNat_natCast]; simp)
      clear hts
      go_wp2_with fail
      refine (Try.strings_IndexByte _ _ _).mono ?_
      rintro r w1 ⟨rfl, rfl⟩
      rw [hix.out]
      by_cases hneg : labB s[j] < 0
      · have hbad := Lib.hid (good_bad hlt hneg)
        have hp := Lib.hid (show parsed s.data.toList = [] by rw [parsed, hbad.out]; rfl)
        clear hl2 hG2
        go_wp2
        go_ret2
        refine ⟨_, by rw [hbad.out]; rfl, hN, by rw [hp.out]; exact OwnF.nil _ _ _⟩
      · have hge : 0 ≤ labB s[j] := by omega
        have hG3 := Lib.hid (show good (s.data.toList.take (j + 1)) = true by rw [hG2.out]; simpa using hge)
        clear hG2 hG hix
        generalize labB s[j] = q at *
        have hA1 : ((labs (s.data.toList.take j)).length + 1) * 8 ≤ 140737488355328 := by omega
        have hA2 : (labs (s.data.toList.take j)).length + 1 ≤ 9223372036854775807 := by omega
        go_wp2_with (at_builtin; refine wpList_push rfl _ _ 37 rfl w.heap.size 3 _ 1 8 Try.underlying37 LawF.infoI rfl (by decide) _ _ rfl (hO.new ((Kp.refl _ _).alloc _)) _ _ q rfl (newsI _ q _) (oneI _) hA1 hA2 (size_alloc_le hb3 _) ?_; intro v' w1 hO1 hK1)
        have hN1 : New w w1 := New.on (hN.alloc _) hK1 (fun i hi => (hO.lt i hi).1)
        rw [← hl2.out] at hO1
        clear hO hK1
        go_wp2
        go_roundw
        case rel => exact ⟨j + 1, by omega, by go_num, hN1, hO1, hG3⟩
        case measure => simp [intOf]; omega
    · have hge : s.size ≤ j := by omega
      have hGe := Lib.hid (show good s.data.toList = true by have := hG.out; rwa [List.take_of_length_le (by simpa using hge)] at this)
      rw [List.take_of_length_le (by simpa using hge)] at hO
      have hp := Lib.hid (show parsed s.data.toList = labs s.data.toList by rw [parsed, hGe.out]; rfl)
      go_wp2
      go_ret2
      exact ⟨_, by rw [hGe.out]; rfl, hN, by rw [hp.out]; exact hO⟩
end Go.Proofs.Ytdagoioeifnmeaa.Parse
