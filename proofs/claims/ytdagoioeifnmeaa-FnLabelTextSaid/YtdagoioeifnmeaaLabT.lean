/- Labels as text: the plain laws: what is formatted parses back, what parses formats back. -/
import Derived.Test.YtdagoioeifnmeaaFmtL
import Derived.Test.YtdagoioeifnmeaaParse
namespace Go.Proofs.Ytdagoioeifnmeaa.LabT
theorem back {x : Int} (h : Lab.okL x = true) : Parse.labB (FmtL.letter x) = x := by
  obtain rfl | rfl | rfl | rfl := Lab.okL_cases h <;> rfl
theorem okL_nonneg {x : Int} (h : Lab.okL x = true) : 0 ≤ x := by
  obtain rfl | rfl | rfl | rfl := Lab.okL_cases h <;> decide
theorem good_letters : ∀ xs : List Int, FmtL.good xs = true → Parse.good (FmtL.letters xs) = true ∧ Parse.labs (FmtL.letters xs) = xs
  | [], _ => ⟨rfl, rfl⟩
  | x :: xs, h => by
    have hx : Lab.okL x = true ∧ FmtL.good xs = true := by simpa [FmtL.good] using h
    have ih := good_letters xs hx.2
    have hb := back hx.1
    have h0 := okL_nonneg hx.1
    constructor
    · have : Parse.good (FmtL.letters (x :: xs)) = (decide (0 ≤ Parse.labB (FmtL.letter x)) && Parse.good (FmtL.letters xs)) := rfl
      rw [this, hb, ih.1]; simp [h0]
    · have : Parse.labs (FmtL.letters (x :: xs)) = Parse.labB (FmtL.letter x) :: Parse.labs (FmtL.letters xs) := rfl
      rw [this, hb, ih.2]
theorem good_text (xs : List Int) : Parse.good (FmtL.text xs) = true := by
  unfold FmtL.text; split
  · exact (good_letters xs ‹_›).1
  · rfl
theorem parsed_text {xs : List Int} (h : FmtL.good xs = true) : Parse.parsed (FmtL.text xs) = xs := by
  have := good_letters xs h
  rw [Parse.parsed, good_text, FmtL.text, h]; exact this.2
theorem len_text (xs : List Int) : (FmtL.text xs).length = if FmtL.good xs then xs.length else 0 := by
  unfold FmtL.text; split <;> simp_all [FmtL.letters]
theorem good_pos {xs : List Int} (h : FmtL.good xs = false) : 0 < xs.length := by
  cases xs with
  | nil => simp [FmtL.good] at h
  | cons _ _ => simp
theorem lab_byte {b : UInt8} (h : 0 ≤ Parse.labB b) : Lab.okL (Parse.labB b) = true ∧ FmtL.letter (Parse.labB b) = b := by
  have hb : b = UInt8.ofNat b.toNat := by simp
  unfold Parse.labB at h ⊢
  rcases Parse.lab_cases (b.toNat : Int) with ⟨e, h1⟩ | ⟨e, h1⟩ | ⟨e, h1⟩ | ⟨e, h1⟩ | ⟨_, h1⟩
  · rw [h1, hb, show b.toNat = 76 by omega]; exact ⟨rfl, rfl⟩
  · rw [h1, hb, show b.toNat = 72 by omega]; exact ⟨rfl, rfl⟩
  · rw [h1, hb, show b.toNat = 85 by omega]; exact ⟨rfl, rfl⟩
  · rw [h1, hb, show b.toNat = 88 by omega]; exact ⟨rfl, rfl⟩
  · omega
theorem good_labs : ∀ l : List UInt8, Parse.good l = true → FmtL.good (Parse.labs l) = true ∧ FmtL.letters (Parse.labs l) = l
  | [], _ => ⟨rfl, rfl⟩
  | b :: l, h => by
    have hx : 0 ≤ Parse.labB b ∧ Parse.good l = true := by simpa [Parse.good] using h
    have ih := good_labs l hx.2
    have hb := lab_byte hx.1
    constructor
    · have : FmtL.good (Parse.labs (b :: l)) = (Lab.okL (Parse.labB b) && FmtL.good (Parse.labs l)) := rfl
      rw [this, hb.1, ih.1]; rfl
    · have : FmtL.letters (Parse.labs (b :: l)) = FmtL.letter (Parse.labB b) :: FmtL.letters (Parse.labs l) := rfl
      rw [this, hb.2, ih.2]
theorem text_parsed {t : ByteArray} (h : Parse.good t.data.toList = true) : (⟨(FmtL.text (Parse.parsed t.data.toList)).toArray⟩ : ByteArray) = t := by
  have := good_labs _ h
  rw [Parse.parsed, h, if_pos rfl, FmtL.text, this.1, if_pos rfl, this.2]
theorem len_parsed (l : List UInt8) : (Parse.parsed l).length ≤ l.length := by
  unfold Parse.parsed; split
  · simp [Parse.labs]
  · simp
end Go.Proofs.Ytdagoioeifnmeaa.LabT
