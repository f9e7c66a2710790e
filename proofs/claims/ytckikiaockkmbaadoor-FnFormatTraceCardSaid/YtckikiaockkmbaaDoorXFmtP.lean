/- Numbers, traces and expressions as text, in plain words. No program in sight; no conditions. -/
import Derived.Test.YtckikiaockkmbaaDoorXP2
import Derived.Lib.ItoaNum
import Derived.Lib.Join
namespace Go.Proofs.YtckikiaockkmbaaDoor.FmtP
open Go.RowKit Kit
set_option linter.unusedVariables false
/-- the digits of a number -/
abbrev dg (n : Nat) : List UInt8 := Lib.decDigits n
theorem dg_small {n : Nat} (h : n < 10) : dg n = [UInt8.ofNat (48 + n)] := by rw [dg, Lib.decDigits, dif_pos h]
theorem dg_step {n : Nat} (h : ¬ n < 10) : dg n = dg (n / 10) ++ [UInt8.ofNat (48 + n % 10)] := by rw [dg, Lib.decDigits, dif_neg h]
theorem dg_len {n : Nat} (h : n < 1000) : 1 ≤ (dg n).length ∧ (dg n).length ≤ 3 := by
  by_cases h1 : n < 10
  · rw [dg_small h1]; simp
  · rw [dg_step h1]
    by_cases h2 : n / 10 < 10
    · rw [dg_small h2]; simp
    · rw [dg_step h2, dg_small (by omega)]; simp
theorem itoa_dg {n : Int} (h : 0 ≤ n) : Lib.itoa n = dg n.toNat := by rw [Lib.itoa, if_neg (by omega)]
theorem ba_ext {a : ByteArray} {l : List UInt8} (h : a.data.toList = l) : a = ⟨l.toArray⟩ := by
  obtain ⟨⟨x⟩⟩ := a
  simp at h; subst h; rfl
theorem app_toList (a b : ByteArray) : (a ++ b).data.toList = a.data.toList ++ b.data.toList := by simp [ByteArray.data_append]
theorem size_toList (t : ByteArray) : t.size = t.data.toList.length := by show t.data.size = _; simp
/-- the sign of an event -/
def sg (k : Int) : UInt8 := if k = 1 then 98 else if k = 2 then 114 else if k = 3 then 119 else 111
/-- an event's text -/
def evB (e : Ev) : List UInt8 := sg e.1 :: dg e.2.toNat
def evOk (e : Ev) : Bool := decide (1 ≤ e.1 ∧ e.1 ≤ 4) && decide (0 ≤ e.2 ∧ e.2 ≤ 255)
def good (xs : List Ev) : Bool := xs.all evOk
/-- a trace's text, where all is well -/
def words (xs : List Ev) : List UInt8 := Lib.join (xs.map evB) [32]
def text (xs : List Ev) : List UInt8 := if good xs then words xs else []
theorem good_snoc (xs : List Ev) (x : Ev) : good (xs ++ [x]) = (good xs && evOk x) := by simp [good]
theorem good_app (xs ys : List Ev) : good (xs ++ ys) = (good xs && good ys) := by simp [good]
theorem good_bad {xs : List Ev} {j : Nat} (h : j < xs.length) (hb : evOk xs[j] = false) : good xs = false := by
  rw [good, List.all_eq_false]; exact ⟨_, List.getElem_mem h, by simp [hb]⟩
theorem tail_app (sep : List UInt8) (a b : List (List UInt8)) : Lib.joinTail sep (a ++ b) = Lib.joinTail sep a ++ Lib.joinTail sep b := by simp [Lib.joinTail]
theorem words_snoc (xs : List Ev) (x : Ev) : words (xs ++ [x]) = if xs.length = 0 then evB x else words xs ++ [32] ++ evB x := by
  cases xs with
  | nil => simp [words, Lib.join_one]
  | cons y r =>
    simp only [words, List.cons_append, List.map_cons, List.map_append, List.map_nil, Lib.join_cons, tail_app, List.length_cons]
    rw [if_neg (by omega)]
    simp [Lib.joinTail]
theorem words_app (xs ys : List Ev) (hx : 0 < xs.length) (hy : 0 < ys.length) : words (xs ++ ys) = words xs ++ 32 :: words ys := by
  cases xs with
  | nil => simp at hx
  | cons x xs =>
    cases ys with
    | nil => simp at hy
    | cons y ys =>
      simp only [words, List.cons_append, List.map_cons, List.map_append, Lib.join_cons, tail_app]
      simp [Lib.joinTail]
theorem evB_len {e : Ev} (h : evOk e = true) : 2 ≤ (evB e).length ∧ (evB e).length ≤ 4 := by
  have h2 : e.2 ≤ 255 := by simp [evOk] at h; omega
  have := dg_len (n := e.2.toNat) (by omega)
  simp only [evB, List.length_cons]; omega
theorem lens_le : ∀ xs : List Ev, good xs = true → Lib.lens (xs.map evB) ≤ 4 * xs.length
  | [], _ => by simp [Lib.lens]
  | x :: xs, h => by
    have h' : evOk x = true ∧ good xs = true := by simpa [good] using h
    have h1 := lens_le xs h'.2
    have h2 := evB_len h'.1
    simp only [Lib.lens, List.map_cons, List.sum_cons, List.length_cons] at h1 ⊢
    omega
theorem words_len (xs : List Ev) (h : good xs = true) : (words xs).length ≤ 5 * xs.length := by
  cases xs with
  | nil => simp [words, Lib.join_nil]
  | cons x r =>
    have h1 := lens_le (x :: r) h
    have h2 : (words (x :: r)).length = (evB x).length + (1 * (r.map evB).length + Lib.lens (r.map evB)) := by
      rw [words, List.map_cons, Lib.join_cons, List.length_append, Lib.joinTail_length]; simp
    simp only [Lib.lens, List.map_cons, List.sum_cons, List.length_cons, List.length_map] at h1 h2 ⊢
    omega
theorem text_len (xs : List Ev) : (text xs).length ≤ 5 * xs.length := by
  unfold text; split
  · exact words_len xs ‹_›
  · simp
theorem good_of_text {xs : List Ev} (h : text xs ≠ []) : good xs = true ∧ 0 < xs.length := by
  unfold text at h
  split at h
  · refine ⟨‹_›, ?_⟩
    cases xs with
    | nil => simp [words, Lib.join_nil] at h
    | cons x r => simp
  · exact absurd rfl h
theorem text_app {xs ys : List Ev} (hx : text xs ≠ []) (hy : text ys ≠ []) : text (xs ++ ys) = text xs ++ 32 :: text ys := by
  obtain ⟨gx, lx⟩ := good_of_text hx
  obtain ⟨gy, ly⟩ := good_of_text hy
  rw [text, good_app, gx, gy]
  simp only [Bool.and_self, if_true]
  rw [words_app xs ys lx ly, text, if_pos gx, text, if_pos gy]
/-- what a list of texts reads as, taken by rounds -/
theorem map_snoc {α β : Type} (f : α → β) {xs : List α} {j : Nat} (h : j < xs.length) : (xs.take (j + 1)).map f = (xs.take j).map f ++ [f xs[j]] := by
  rw [List.take_succ_eq_append_getElem h, List.map_append]; rfl
end Go.Proofs.YtckikiaockkmbaaDoor.FmtP
