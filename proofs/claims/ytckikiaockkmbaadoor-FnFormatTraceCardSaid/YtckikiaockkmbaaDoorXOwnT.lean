/- Rows of the call's own: rows of different types lie in different blocks; how a row that grows is carried on. No program in sight; no conditions. -/
import Derived.Test.YtckikiaockkmbaaDoorXP2
namespace Go.Proofs.YtckikiaockkmbaaDoor
open Go.RowKit Kit
set_option linter.unusedVariables false
section
variable {α β : Type} {n m : Nat} {enc : α → Nat → Value} {enc' : β → Nat → Value} {w w' : World} {base base' : Nat} {T T' : TypeId} {v u : Value} {xs : List α} {ys : List β}
theorem OwnF.heapO (h : OwnF n enc w base T v xs) {b : Nat} (hb : v.ownBlock = some b) : ∃ cs, w.heap[b]? = some (.cells cs T (0, 0)) ∧ base ≤ b ∧ b < w.heap.size := by
  obtain ⟨_, ⟨_, h2⟩, _⟩ := h
  rcases h2 with ⟨rfl, _⟩ | ⟨g, cap, cur, rfl, hg, hh, _⟩
  · simp [Value.ownBlock] at hb
  · simp only [Value.ownBlock, Option.some.injEq] at hb; subst hb; exact ⟨cur, hh, hg, heap_lt hh⟩
/-- rows of two types -/
theorem OwnF.apart (h : OwnF n enc w base T v xs) (k : OwnF m enc' w base' T' u ys) (hT : T ≠ T') : ∀ b, v.ownBlock = some b → u.ownBlock ≠ some b := fun b hb hc => by
  obtain ⟨c1, e1, _⟩ := h.heapO hb
  obtain ⟨c2, e2, _⟩ := k.heapO hc
  rw [e1] at e2; cases e2; exact hT rfl
/-- a row and a box of another type -/
theorem OwnF.box (h : OwnF n enc w base T v xs) {c : Nat} {cs : Array Value} {f : Nat × Nat} (k : w.heap[c]? = some (.cells cs T' f)) (hT : T ≠ T') : v.ownBlock ≠ some c := fun hb => by
  obtain ⟨c1, e1, _⟩ := h.heapO hb
  rw [e1] at k; cases k; exact hT rfl
/-- where a row that has grown lies -/
def Grew (w : World) (v v' : Value) : Prop := ∀ b, v'.ownBlock = some b → v.ownBlock = some b ∨ w.heap.size ≤ b
theorem Grew.refl (w : World) (v : Value) : Grew w v v := fun _ h => .inl h
theorem Grew.of {w : World} {v v' : Value} (h : v'.ownBlock = v.ownBlock ∨ v'.ownBlock = some w.heap.size) : Grew w v v' := fun b hb => by
  rcases h with h | h
  · exact .inl (h ▸ hb)
  · rw [h] at hb; cases hb; exact .inr (Nat.le_refl _)
theorem Grew.trans {w w' : World} {v v' v'' : Value} (h : Grew w v v') (k : Grew w' v' v'') (hs : w.heap.size ≤ w'.heap.size) : Grew w v v'' := fun b hb => by
  rcases k b hb with e | e
  · exact h b e
  · exact .inr (Nat.le_trans hs e)
theorem Grew.low {w w' : World} {v v' : Value} (h : Grew w' v v') (hs : w.heap.size ≤ w'.heap.size) : Grew w v v' := fun b hb => (h b hb).elim .inl (fun e => .inr (Nat.le_trans hs e))
/-- the frame behind a change of other blocks -/
theorem Kit.Kp.over {S T : Nat → Prop} {a w w' : World} (h : Kp S a w) (k : Kp T w w') (hT : ∀ i, T i → S i ∨ a.heap.size ≤ i) : Kp S a w' :=
  ⟨k.os.trans h.os, k.tape.trans h.tape, k.output.trans h.output, Nat.le_trans h.size k.size, fun i hi hs => (k.block i (Nat.lt_of_lt_of_le hi h.size) (fun e => by
    rcases hT i e with q | q
    · exact hs q
    · omega)).trans (h.block i hi hs)⟩
theorem Kit.Kp.nw' {S : Nat → Prop} {a w w' : World} (h : Kp S a w) (k : New w w') : Kp S a w' := h.over k (fun _ f => f.elim)
/-- the frame behind a further growth -/
theorem Kp.grew {S : Nat → Prop} {a w w' : World} {v v' : Value} (h : Kp (fun c => S c ∨ v.ownBlock = some c) a w) (g : Grew a v v') (k : Kp (fun c => S c ∨ v'.ownBlock = some c) w w') : Kp (fun c => S c ∨ v.ownBlock = some c) a w' :=
  ⟨k.os.trans h.os, k.tape.trans h.tape, k.output.trans h.output, Nat.le_trans h.size k.size, fun i hi hs => (k.block i (Nat.lt_of_lt_of_le hi h.size) (fun e => by
    rcases e with e | e
    · exact hs (.inl e)
    · rcases g i e with q | q
      · exact hs (.inr q)
      · omega)).trans (h.block i hi hs)⟩
theorem Kp.grew1 {a w w' : World} {v v' : Value} (h : Kp (fun c => v.ownBlock = some c) a w) (g : Grew a v v') (k : Kp (fun c => v'.ownBlock = some c) w w') : Kp (fun c => v.ownBlock = some c) a w' :=
  ⟨k.os.trans h.os, k.tape.trans h.tape, k.output.trans h.output, Nat.le_trans h.size k.size, fun i hi hs => (k.block i (Nat.lt_of_lt_of_le hi h.size) (fun e => by
    rcases g i e with q | q
    · exact hs q
    · omega)).trans (h.block i hi hs)⟩
end
end Go.Proofs.YtckikiaockkmbaaDoor
