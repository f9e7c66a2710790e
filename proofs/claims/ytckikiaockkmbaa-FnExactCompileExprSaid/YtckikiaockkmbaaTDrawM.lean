/- Draws of memories. Condition: fewer than 2^40 picks so far. -/
import Derived.Test.YtckikiaockkmbaaTDrawG
import Derived.Test.YtckikiaockkmbaaTP5
import Derived.Test.YtckikiaockkmbaaTP1
namespace Go.Proofs.Ytckikiaockkmbaa
open Go.RowKit Kit
set_option linter.unusedVariables false
end Go.Proofs.Ytckikiaockkmbaa
namespace Go.Proofs.Ytckikiaockkmbaa.DrawM
open Go.RowKit Kit Draw DrawX MarkC
set_option linter.unusedVariables false
/-- a memory drawn by at most c picks, of at most n values and m rows -/
def GotM (w : World) (br p c n m : Nat) (e : Ending) (w' : World) : Prop := ∃ (ua ub : Value) (ya : List Int) (yb : List (List Int)) (q : Nat), e = .returned (.agg #[ua, ub]) ∧ One br w w' ∧ Rd w' br q ∧ q ≤ p + c ∧ MemO w' w.heap.size w'.heap.size ua ub ya yb ∧ ya.length ≤ n ∧ yb.length ≤ m ∧ ∀ y ∈ yb, 3 ≤ y.length ∧ y.length ≤ 4
def M1 (w : World) (br p : Nat) (vp : Array Value) (m : Nat) (wr : World) : Prop := ∃ (xs : List Int) (a : Option Addr) (d q : Nat), xs.length = m ∧ One br w wr ∧ Rd wr br q ∧ q ≤ p + m ∧ wr.heap[w.heap.size]? = some (.cells vp 37 (0, 0)) ∧ wr.heap[w.heap.size + 1]? = some (.cells #[.slice none 0 0, .slice none 0 0] 79 (0, 0)) ∧ wr.heap[w.heap.size + 1 + 1]? = some (.cells #[.slice a m d, .slice none 0 0] 79 (0, 0)) ∧
  OwnF 1 encI wr (w.heap.size + 3) 3 (.slice a m d) xs
def M2 (w : World) (br p : Nat) (vp : Array Value) (xs : List Int) (a : Option Addr) (d s1 n m : Nat) (wr : World) : Prop := ∃ (yb : List (List Int)) (b : Option Addr) (t q : Nat), yb.length = m ∧ One br w wr ∧ Rd wr br q ∧ q ≤ p + n + 4 * m ∧ wr.heap[w.heap.size]? = some (.cells vp 37 (0, 0)) ∧ wr.heap[w.heap.size + 1]? = some (.cells #[.slice none 0 0, .slice none 0 0] 79 (0, 0)) ∧ wr.heap[w.heap.size + 1 + 1]? = some (.cells #[.slice a n d, .slice b m t] 79 (0, 0)) ∧
  OwnR 1 encI wr (w.heap.size + 3) s1 3 (.slice a n d) xs ∧ MatO wr s1 wr.heap.size 34 3 (.slice b m t) yb ∧ (∀ y ∈ yb, y.length = 4) ∧ s1 ≤ wr.heap.size
def M3 (wr : World) (br q k : Nat) (v : Value) (wk : World) : Prop := ∃ (ys : List Int) (f : Option Addr) (u q3 : Nat), v = .slice f k u ∧ ys.length = k ∧ One br wr wk ∧ Rd wk br q3 ∧ q3 ≤ q + k ∧ OwnF 1 encI wk wr.heap.size 3 (.slice f k u) ys
theorem _root_.Go.Proofs.Ytckikiaockkmbaa.OwnF.up {α : Type} {n : Nat} {enc : α → Nat → Value} {w : World} {base base' : Nat} {T : TypeId} {v : Value} {xs : List α} (h : OwnF n enc w base T v xs) (hb : ∀ b, v.ownBlock = some b → base' ≤ b) : OwnF n enc w base' T v xs := by
  rcases h.form with ⟨e1, e2⟩ | ⟨b, cap, cs, rfl, hb1, hb2, hb3, hh, hs, hc⟩
  · subst e1; subst e2; exact OwnF.nil _ _ _
  · exact OwnF.mk' hh (hb b (by simp [Value.ownBlock])) hb2 hb3 hs hc
theorem _root_.Go.Proofs.Ytckikiaockkmbaa.MarkC.MemO.lt {w : World} {lo hi : Nat} {va vb : Value} {ya : List Int} {yb : List (List Int)} (h : MemO w lo hi va vb ya yb) (b : Nat) (hb : va.ownBlock = some b) : lo ≤ b ∧ b < hi := by
  obtain ⟨p1, p2, p3, p4, q1, q2, q3, q4, q5, A, B⟩ := h
  have := (A.own.lt b hb).1; have := A.top b hb; omega
end Go.Proofs.Ytckikiaockkmbaa.DrawM
