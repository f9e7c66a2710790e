/- szIntSS, toIntSS, eqIntSS of laws: lists of lists of ints. Condition: at most 2^20 elements. -/
import Derived.Test.YtckikiaockkmbaaDoorLawF
namespace Go.Proofs.YtckikiaockkmbaaDoor
open Go.RowKit Kit
set_option linter.unusedVariables false
/-- how much a matrix takes -/
def msz : List (List Int) → Nat | [] => 0 | x :: l => x.length + 1 + msz l
theorem msz_len : ∀ l : List (List Int), l.length ≤ msz l
  | [] => Nat.le_refl _
  | x :: l => by have := msz_len l; simp [msz]; omega
theorem msz_get : ∀ (l : List (List Int)) (i : Nat) (h : i < l.length), l[i].length + 1 ≤ msz l
  | x :: l, 0, _ => by simp [msz]
  | x :: l, i + 1, h => by have := msz_get l i (by simpa using h); simp [msz]; omega
theorem msz_take_drop : ∀ (l : List (List Int)) (j : Nat), msz l = msz (l.take j) + msz (l.drop j)
  | [], j => by simp [msz]
  | e :: es, 0 => by simp [msz]
  | e :: es, j + 1 => by have := msz_take_drop es j; simp [msz]; omega
theorem msz_take_succ (l : List (List Int)) (j : Nat) (h : j < l.length) : msz (l.take (j + 1)) = msz (l.take j) + (l[j].length + 1) := by
  have h1 := msz_take_drop (l.take (j + 1)) j
  rw [List.take_take, Nat.min_eq_left (Nat.le_succ j)] at h1
  rw [h1]; congr 1
  rw [List.take_succ_eq_append_getElem h, List.drop_append_of_le_length (by simp; omega), List.drop_of_length_le (by simp; omega)]
  simp [msz]
/-- the first j rows lie in block b, their elements behind it -/
def FilledM (w : World) (b : Nat) (l : List (List Int)) (j : Nat) : Prop := ∃ S : Nat → Value, ∀ i (hi : i < l.length), i < j → w.cell? ⟨b, i, none⟩ = some (S i) ∧ IntsR w (b + 1) w.heap.size (S i) l[i]
namespace FilledM
theorem zero (w : World) (b : Nat) (l : List (List Int)) : FilledM w b l 0 := ⟨fun _ => .nilIface, fun i _ h => absurd h (Nat.not_lt_zero _)⟩
theorem new {w w' : World} {b : Nat} {l : List (List Int)} {j : Nat} (h : FilledM w b l j) (hb : b < w.heap.size) (k : New w w') : FilledM w' b l j := by
  obtain ⟨S, h⟩ := h
  exact ⟨S, fun i hi hj => ⟨by rw [k.cell hb (fun f => f)]; exact (h i hi hj).1, ((h i hi hj).2.new (Nat.le_refl _) k).mono (Nat.le_refl _) k.size⟩⟩
theorem step {w : World} {b : Nat} {T : TypeId} {l : List (List Int)} {j : Nat} (h : FilledM w b l j) (hr : Row w b (l.length * 1) T) (hj : j < l.length) {s : Value} (hs : IntsR w (b + 1) w.heap.size s l[j]) : FilledM (w.setCell ⟨b, j, none⟩ s) b l (j + 1) := by
  obtain ⟨S, h⟩ := h
  obtain ⟨cs, hh, hn⟩ := hr.is
  have hsz : (w.setCell ⟨b, j, none⟩ s).heap.size = w.heap.size := by simp
  refine ⟨fun i => if i = j then s else S i, fun i hi hij => ?_⟩
  have hc : (w.setCell ⟨b, j, none⟩ s).cell? ⟨b, i, none⟩ = (cs.setIfInBounds j s)[i]? := cell_of_heap (setCell_heap hh s) i
  rw [hsz]
  by_cases e : i = j
  · subst e
    have hz : i < cs.size := by omega
    simp only [↓reduceIte]
    refine ⟨by rw [hc, Array.getElem?_setIfInBounds, if_pos rfl, if_pos hz], hs.set (.inl (by omega)) _ _⟩
  · simp only [if_neg e]
    have h2 := h i hi (by omega)
    refine ⟨by rw [hc, Array.getElem?_setIfInBounds, if_neg (by omega), ← cell_of_heap hh i]; exact h2.1, h2.2.set (.inl (by omega)) _ _⟩
theorem done {w : World} {b : Nat} {l : List (List Int)} (h : FilledM w b l l.length) (hb : b < w.heap.size) (hm : l.length ≤ 9223372036854775807) : MatR w b w.heap.size (.slice (some ⟨b, 0, none⟩) l.length l.length) l := by
  obtain ⟨S, h⟩ := h
  by_cases h0 : 0 < l.length
  · exact .cons b 0 l.length l S h0 (Nat.le_refl _) hb (Nat.le_refl _) hm (fun i hi => by rw [Nat.zero_add]; exact (h i hi hi).1) (fun i hi => ((h i hi hi).2).mono (by omega) (Nat.le_refl _))
  · obtain rfl := List.eq_nil_of_length_eq_zero (by omega : l.length = 0)
    exact .nil _ _
end FilledM
end Go.Proofs.YtckikiaockkmbaaDoor
namespace Go.Proofs.YtckikiaockkmbaaDoor.MatF
open Go.RowKit Kit
set_option linter.unusedVariables false
theorem infoM : (Tryd.prog.info? 29).map (fun i => (i.zero, i.size, i.bytes)) = some (some (.slice none 0 0), 1, 24) := by kernel_rfl
end Go.Proofs.YtckikiaockkmbaaDoor.MatF
