/- Plain facts on parts of traces, for the laws. No program in sight; no conditions. -/
import Derived.Test.YtckikiaockkmbaaQProj
import Derived.Test.YtckikiaockkmbaaQDiff
namespace Go.Proofs.Ytckikiaockkmbaa.LawK
open Go.RowKit Kit
set_option linter.unusedVariables false
theorem cap_r {α : Type} {n : Nat} {enc : α → Nat → Value} {w : World} {lo hi m cap : Nat} {a : Option Addr} {xs : List α} (h : FlR n enc w lo hi (.slice a m cap) xs) : m ≤ cap := by
  cases h with
  | nil a cap => exact Nat.zero_le _
  | cons b o cap xs h0 hlo hhi hcap hmax c => exact hcap
theorem drop_r {α : Type} {n : Nat} {enc : α → Nat → Value} {w : World} {lo hi b o m cap : Nat} {xs : List α} (h : FlR n enc w lo hi (.slice (some ⟨b, o, none⟩) m cap) xs) (k : Nat) (hk : k ≤ xs.length) : FlR n enc w lo hi (.slice (some ⟨b, o + k * n, none⟩) (xs.length - k) (cap - k)) (xs.drop k) := by
  cases h with
  | nil a cap => obtain rfl : k = 0 := by simpa using hk
                 exact .nil _ _
  | cons b o cap xs h0 hlo hhi hcap hmax c =>
    by_cases hk0 : k = xs.length
    · subst hk0; rw [Nat.sub_self, List.drop_length]; exact .nil _ _
    · have hl : (xs.drop k).length = xs.length - k := by simp
      have := FlR.cons (n := n) (enc := enc) (w := w) (lo := lo) (hi := hi) b (o + k * n) (cap - k) (xs.drop k) (by omega) hlo hhi (by omega) (by omega) (fun i h t ht => by
        rw [List.getElem_drop, show o + k * n + i * n + t = o + (k + i) * n + t by rw [Nat.add_mul]; omega]; exact c _ (by omega) t ht)
      rw [hl] at this
      exact this
theorem from_r {α : Type} {n : Nat} {enc : α → Nat → Value} {w : World} {lo hi m cap : Nat} {a : Option Addr} {xs : List α} (h : FlR n enc w lo hi (.slice a m cap) xs) (k : Nat) (hk : k ≤ xs.length) : FlR n enc w lo hi (.slice (if cap = k then a else a.map (fun x => x.add (k * n))) (m - k) (cap - k)) (xs.drop k) := by
  obtain ⟨a', c', e, _⟩ := h.len
  cases e
  by_cases hl : k = xs.length
  · subst hl; rw [Nat.sub_self, List.drop_length]; exact .nil _ _
  · have hc := cap_r h
    rw [if_neg (by omega)]
    obtain ⟨b, o, e, _⟩ := h.at' 0 (by omega)
    cases e
    show FlR n enc w lo hi (.slice (some ((⟨b, o, none⟩ : Addr).add (k * n))) _ _) _
    rw [Go.WideShapes.add_plain]
    exact drop_r h k hk
theorem from_ne {α : Type} {n : Nat} {enc : α → Nat → Value} {w : World} {lo hi m cap : Nat} {a : Option Addr} {xs : List α} (h : FlR n enc w lo hi (.slice a m cap) xs) (k : Nat) (hk : k ≤ xs.length) (hc : ¬ cap = k) : FlR n enc w lo hi (.slice (a.map (fun x => x.add (k * n))) (m - k) (cap - k)) (xs.drop k) := by
  have := from_r h k hk
  rwa [if_neg hc] at this
theorem from_eq {α : Type} {n : Nat} {enc : α → Nat → Value} {w : World} {lo hi m k : Nat} {a : Option Addr} {xs : List α} (h : FlR n enc w lo hi (.slice a m k) xs) (hk : k ≤ xs.length) : FlR n enc w lo hi (.slice a 0 0) (xs.drop k) := by
  have hc := cap_r h
  obtain ⟨_, _, e, _⟩ := h.len
  cases e
  rw [List.drop_of_length_le hc]
  exact .nil _ _
theorem proj_idem (xs : List Ev) : (xs.filter Proj.keep).filter Proj.keep = xs.filter Proj.keep := by rw [List.filter_filter]; congr 1; funext x; simp
theorem proj_parts (xs : List Ev) (k : Nat) : (xs.take k).filter Proj.keep ++ (xs.drop k).filter Proj.keep = xs.filter Proj.keep := by rw [← List.filter_append, List.take_append_drop]
end Go.Proofs.Ytckikiaockkmbaa.LawK
