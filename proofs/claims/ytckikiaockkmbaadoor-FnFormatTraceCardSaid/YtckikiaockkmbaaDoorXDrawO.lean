/- Draws of traces: DrawProjectTrace, DrawTraceSame, DrawFirstDifference. No conditions. -/
import Derived.Test.YtckikiaockkmbaaDoorXDrawJ
import Derived.Test.YtckikiaockkmbaaDoorXP5
import Derived.Test.YtckikiaockkmbaaDoorXP1
namespace Go.Proofs.YtckikiaockkmbaaDoor.DrawO
open Go.RowKit Kit Draw DrawX
set_option linter.unusedVariables false
theorem own_cellsE {w : World} {base n d : Nat} {a : Option Addr} {T : TypeId} {xs : List Ev} (h : OwnF 2 encE w base T (.slice a n d) xs) (h0 : 0 < xs.length) :
    n = xs.length ∧ ∃ b, a = some ⟨b, 0, none⟩ ∧ (∀ i (h : i < xs.length), w.cell? ⟨b, i * 2, none⟩ = some (.int .i64 xs[i].1) ∧ w.cell? ⟨b, i * 2 + 1, none⟩ = some (.int .i64 xs[i].2)) ∧ ∀ i, w.frozen? ⟨b, i, none⟩ = false := by
  rcases h.form with ⟨e, _⟩ | ⟨b, cap, cs, e, hb, _, _, hh, hn, hc⟩
  · subst e; exact absurd h0 (Nat.lt_irrefl _)
  · cases e
    exact ⟨rfl, b, rfl, fun i hi => ⟨(cell_of_heap hh _).trans (hc i hi 0 (by omega)), (cell_of_heap hh _).trans (hc i hi 1 (by omega))⟩, fun i => frozen_of_heap hh i⟩
/-- one cell of one event is changed -/
theorem own_setE {w : World} {base b cap : Nat} {T : TypeId} {xs : List Ev} (h : OwnF 2 encE w base T (.slice (some ⟨b, 0, none⟩) xs.length cap) xs) (j : Nat) (hj : j < xs.length) (t : Nat) (ht : t < 2) (y : Ev) (u : Value) (hu : ∀ q, q < 2 → encE y q = if q = t then u else encE xs[j] q) :
    OwnF 2 encE (w.setCell ⟨b, j * 2 + t, none⟩ u) base T (.slice (some ⟨b, 0, none⟩) xs.length cap) (xs.set j y) := by
  rcases h.form with ⟨e, _⟩ | ⟨b', cap', cs, e, hb1, hb2, hb3, hh, hs, hc⟩
  · subst e; exact absurd hj (Nat.not_lt_zero _)
  · cases e
    have := OwnF.mk' (enc := encE) (n := 2) (xs := xs.set j y) (base := base) (setCell_heap (o := j * 2 + t) hh u) hb1 (by simpa using hb2) hb3 (by simpa using hs) (fun i hi q hq => by
      have hi2 : i < xs.length := by simpa using hi
      rw [Array.getElem?_setIfInBounds]
      by_cases e : j = i
      · subst e
        rw [List.getElem_set_self, hu q hq]
        by_cases e2 : q = t
        · subst e2
          have hlt : j * 2 + q < cs.size := by omega
          simp [hlt]
        · rw [if_neg (by omega), if_neg e2]; exact hc j hj q hq
      · rw [List.getElem_set_ne e, if_neg (by omega)]; exact hc i hi2 q hq)
    rw [List.length_set] at this
    exact this
theorem own_set0 {w : World} {base b cap : Nat} {T : TypeId} {xs : List Ev} (h : OwnF 2 encE w base T (.slice (some ⟨b, 0, none⟩) xs.length cap) xs) (j : Nat) (hj : j < xs.length) (z : Int) : OwnF 2 encE (w.setCell ⟨b, j * 2, none⟩ (.int .i64 z)) base T (.slice (some ⟨b, 0, none⟩) xs.length cap) (xs.set j (z, xs[j].2)) :=
  own_setE h j hj 0 (by omega) _ _ fun q hq => by match q, hq with | 0, _ => rfl | 1, _ => rfl
theorem own_set1 {w : World} {base b cap : Nat} {T : TypeId} {xs : List Ev} (h : OwnF 2 encE w base T (.slice (some ⟨b, 0, none⟩) xs.length cap) xs) (j : Nat) (hj : j < xs.length) (z : Int) : OwnF 2 encE (w.setCell ⟨b, j * 2 + 1, none⟩ (.int .i64 z)) base T (.slice (some ⟨b, 0, none⟩) xs.length cap) (xs.set j (xs[j].1, z)) :=
  own_setE h j hj 1 (by omega) _ _ fun q hq => by match q, hq with | 0, _ => rfl | 1, _ => rfl
end Go.Proofs.YtckikiaockkmbaaDoor.DrawO
