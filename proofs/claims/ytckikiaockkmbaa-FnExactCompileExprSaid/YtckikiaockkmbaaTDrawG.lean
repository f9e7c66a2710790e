/- Draws of programs. Condition: fewer than 2^40 picks so far. -/
import Derived.Test.YtckikiaockkmbaaTDrawP
import Derived.Test.YtckikiaockkmbaaTP4
import Derived.Test.YtckikiaockkmbaaTP2
import Derived.Test.YtckikiaockkmbaaTP1
namespace Go.Proofs.Ytckikiaockkmbaa
open Go.RowKit Kit
set_option linter.unusedVariables false
theorem OwnF.kb {α : Type} {n : Nat} {enc : α → Nat → Value} {w w' : World} {base : Nat} {T : TypeId} {v : Value} {xs : List α} (h : OwnF n enc w base T v xs) {S : Nat → Prop} (k : Kp S w w') (hs : ∀ b, S b → b < base) : OwnF n enc w' base T v xs :=
  h.kp k fun b e hS => by have := (h.lt b e).1; have := hs b hS; omega
end Go.Proofs.Ytckikiaockkmbaa
namespace Go.Proofs.Ytckikiaockkmbaa.DrawG
open Go.RowKit Kit Draw DrawX
set_option linter.unusedVariables false
/-- a program drawn by at most 3100000 picks -/
def GotP (w : World) (br p : Nat) (e : Ending) (w' : World) : Prop := ∃ (a1 a2 a3 : Option Addr) (d1 d2 d3 : Nat) (xa xb : List Int) (l : List St) (q : Nat), e = .returned (.agg #[.slice a1 xa.length d1, .slice a2 xb.length d2, .slice a3 l.length d3]) ∧ One br w w' ∧ Rd w' br q ∧ q ≤ p + 3100000 ∧
  IntsR w' w.heap.size w'.heap.size (.slice a1 xa.length d1) xa ∧ IntsR w' w.heap.size w'.heap.size (.slice a2 xb.length d2) xb ∧ StsR w' w.heap.size w'.heap.size (.slice a3 l.length d3) l ∧ xa.length ≤ 5 ∧ xb.length ≤ 2 ∧ St.sizes l ≤ 608400 ∧ (∀ x ∈ xa, 0 ≤ x ∧ x ≤ 3) ∧ ∀ x ∈ xb, 0 ≤ x ∧ x ≤ 3
def L1 (w : World) (br p m : Nat) (wr : World) : Prop := ∃ (xs : List Int) (a : Option Addr) (d q : Nat), xs.length = m ∧ One br w wr ∧ Rd wr br q ∧ q ≤ p + 1 + m ∧ wr.heap[w.heap.size]? = some (.cells #[.slice none 0 0, .slice none 0 0, .slice none 0 0] 37 (0, 0)) ∧ wr.heap[w.heap.size + 1]? = some (.cells #[.slice a m d, .slice none 0 0, .slice none 0 0] 37 (0, 0)) ∧
  OwnF 1 encI wr (w.heap.size + 2) 3 (.slice a m d) xs ∧ ∀ x ∈ xs, 0 ≤ x ∧ x ≤ 3
def L2 (w : World) (br p : Nat) (xs : List Int) (a : Option Addr) (d s1 m : Nat) (wr : World) : Prop := ∃ (ys : List Int) (b : Option Addr) (t q : Nat), ys.length = m ∧ One br w wr ∧ Rd wr br q ∧ q ≤ p + 10 + m ∧ wr.heap[w.heap.size]? = some (.cells #[.slice none 0 0, .slice none 0 0, .slice none 0 0] 37 (0, 0)) ∧ wr.heap[w.heap.size + 1]? = some (.cells #[.slice a xs.length d, .slice b m t, .slice none 0 0] 37 (0, 0)) ∧
  IntsR wr (w.heap.size + 2) s1 (.slice a xs.length d) xs ∧ OwnF 1 encI wr s1 3 (.slice b m t) ys ∧ (∀ x ∈ ys, 0 ≤ x ∧ x ≤ 3) ∧ s1 ≤ wr.heap.size
end Go.Proofs.Ytckikiaockkmbaa.DrawG
