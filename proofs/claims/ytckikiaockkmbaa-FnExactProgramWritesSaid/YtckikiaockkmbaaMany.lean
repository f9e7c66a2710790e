/- Many stores into one block, one behind another. No program in sight; no conditions. -/
import Derived.Test.YtckikiaockkmbaaKit
namespace Go.Proofs.Ytckikiaockkmbaa.Kit
open Go.RowKit
/-- the values vs stored from cell o on -/
def setMany (w : World) (b o : Nat) : List Value → World
  | [] => w
  | v :: vs => setMany (w.setCell ⟨b, o, none⟩ v) b (o + 1) vs
theorem setMany_kp (b : Nat) : ∀ (vs : List Value) (w : World) (o : Nat), Kp (fun k => k = b) w (setMany w b o vs)
  | [], _, _ => Kp.refl _ _
  | v :: vs, w, o => ((Kp.refl (fun k => k = b) w).setCell (p := ⟨b, o, none⟩) (.inl rfl) v).trans ((setMany_kp b vs (w.setCell ⟨b, o, none⟩ v) (o + 1)).mono fun _ _ e => e)
theorem setMany_size (b : Nat) : ∀ (vs : List Value) (w : World) (o : Nat), (setMany w b o vs).heap.size = w.heap.size
  | [], _, _ => rfl
  | v :: vs, w, o => (setMany_size b vs (w.setCell ⟨b, o, none⟩ v) (o + 1)).trans (World.size_setCell _ _ _)
theorem setMany_heap {b : Nat} {T : TypeId} {f : Nat × Nat} : ∀ (vs : List Value) (w : World) (o : Nat) (cs : Array Value), w.heap[b]? = some (.cells cs T f) → o + vs.length = cs.size →
    (setMany w b o vs).heap[b]? = some (.cells (cs.toList.take o ++ vs).toArray T f)
  | [], w, o, cs, h, hs => by
    have : cs.toList.take o = cs.toList := List.take_of_length_le (by simp at hs; simp [hs])
    rw [this]; simpa [setMany] using h
  | v :: vs, w, o, cs, h, hs => by
    have ho : o < cs.size := by simp at hs; omega
    have := setMany_heap vs (w.setCell ⟨b, o, none⟩ v) (o + 1) (cs.setIfInBounds o v) (setCell_heap h v) (by simp at hs ⊢; omega)
    rw [show setMany w b o (v :: vs) = setMany (w.setCell ⟨b, o, none⟩ v) b (o + 1) vs from rfl, this]
    congr 3
    have e : (cs.setIfInBounds o v).toList.take (o + 1) = cs.toList.take o ++ [v] := by
      rw [Array.toList_setIfInBounds, List.take_succ_eq_append_getElem (by simpa using ho), List.take_set_of_le (Nat.le_refl _), List.getElem_set_self]
    rw [e, List.append_assoc]; rfl
theorem setMany_row {w : World} {b : Nat} {T : TypeId} {f : Nat × Nat} {cs : Array Value} (vs : List Value) (h : w.heap[b]? = some (.cells cs T f)) (hs : vs.length = cs.size) : (setMany w b 0 vs).heap[b]? = some (.cells vs.toArray T f) := by
  have := setMany_heap vs w 0 cs h (by omega)
  simpa using this
theorem setMany_other {w : World} {b c : Nat} {x : Obj} (vs : List Value) (o : Nat) (h : w.heap[c]? = some x) (hb : c ≠ b) : (setMany w b o vs).heap[c]? = some x := ((setMany_kp b vs w o).block c (heap_lt h) (fun e => hb e)).trans h
theorem newSame {P : Program} {f : FuncId} {args : Array Value} {w : World} {Q : Ending → Prop} (h : Calls P f args w fun e w' => Q e ∧ w = w') : Calls P f args w fun e w' => Q e ∧ New w w' := h.mono fun _ _ ⟨hq, hw⟩ => ⟨hq, hw ▸ Kp.refl _ _⟩
end Go.Proofs.Ytckikiaockkmbaa.Kit
