/- mark and held of the laws, for memories, machines and codes of the call's own. Condition: at most 2^20 elements and rows. -/
import Derived.Test.YtckikiaockkmbaaMarkM
import Derived.WalkKit
import Derived.ProofKit
import Derived.Test.YtckikiaockkmbaaShort
namespace Go.Proofs.Ytckikiaockkmbaa.MarkC
open Go.RowKit Kit
set_option linter.unusedVariables false
def MemO (w : World) (lo hi : Nat) (va vb : Value) (ya : List Int) (yb : List (List Int)) : Prop := ∃ p1 p2 p3 p4, lo ≤ p1 ∧ p2 ≤ hi ∧ lo ≤ p3 ∧ p4 ≤ hi ∧ (p2 ≤ p3 ∨ p4 ≤ p1) ∧ OwnR 1 encI w p1 p2 3 va ya ∧ MatO w p3 p4 34 3 vb yb
theorem MemO.of {w : World} {lo hi : Nat} {va vb : Value} {ya : List Int} {yb : List (List Int)} (mid : Nat) (q1 : lo ≤ mid) (q2 : mid ≤ hi) (A : OwnR 1 encI w lo mid 3 va ya) (B : MatO w mid hi 34 3 vb yb) : MemO w lo hi va vb ya yb := ⟨lo, mid, mid, hi, Nat.le_refl _, q2, q1, Nat.le_refl _, .inl (Nat.le_refl _), A, B⟩
theorem MemO.kp {w w' : World} {lo hi : Nat} {va vb : Value} {ya : List Int} {yb : List (List Int)} (h : MemO w lo hi va vb ya yb) {S : Nat → Prop} (k : Kp S w w') (hs : ∀ b, S b → b < lo ∨ hi ≤ b) : MemO w' lo hi va vb ya yb := by
  obtain ⟨p1, p2, p3, p4, q1, q2, q3, q4, q5, h1, h2⟩ := h
  exact ⟨p1, p2, p3, p4, q1, q2, q3, q4, q5, h1.kp k (fun b hb => by have := hs b hb; omega), h2.kp k (fun b hb => by have := hs b hb; omega)⟩
theorem MemO.new {w w' : World} {lo hi : Nat} {va vb : Value} {ya : List Int} {yb : List (List Int)} (h : MemO w lo hi va vb ya yb) (hh : hi ≤ w.heap.size) (k : New w w') : MemO w' lo hi va vb ya yb := h.kp k (fun _ f => f.elim)
theorem MemO.mono {w : World} {lo hi lo' hi' : Nat} {va vb : Value} {ya : List Int} {yb : List (List Int)} (h : MemO w lo hi va vb ya yb) (h1 : lo' ≤ lo) (h2 : hi ≤ hi') : MemO w lo' hi' va vb ya yb := by
  obtain ⟨p1, p2, p3, p4, q1, q2, q3, q4, q5, r1, r2⟩ := h
  exact ⟨p1, p2, p3, p4, by omega, by omega, by omega, by omega, q5, r1, r2⟩
/-- the registers and the memory, in ranges of blocks that are apart -/
def MachO (w : World) (lo hi : Nat) (vr va vb : Value) (yr ya : List Int) (yb : List (List Int)) : Prop := ∃ p1 p2 p3 p4, lo ≤ p1 ∧ p2 ≤ hi ∧ lo ≤ p3 ∧ p4 ≤ hi ∧ (p2 ≤ p3 ∨ p4 ≤ p1) ∧ OwnR 1 encI w p1 p2 3 vr yr ∧ MemO w p3 p4 va vb ya yb
theorem MachO.kp {w w' : World} {lo hi : Nat} {vr va vb : Value} {yr ya : List Int} {yb : List (List Int)} (h : MachO w lo hi vr va vb yr ya yb) {S : Nat → Prop} (k : Kp S w w') (hs : ∀ b, S b → b < lo ∨ hi ≤ b) : MachO w' lo hi vr va vb yr ya yb := by
  obtain ⟨p1, p2, p3, p4, q1, q2, q3, q4, q5, h1, h2⟩ := h
  exact ⟨p1, p2, p3, p4, q1, q2, q3, q4, q5, h1.kp k (fun b hb => by have := hs b hb; omega), h2.kp k (fun b hb => by have := hs b hb; omega)⟩
theorem MachO.new {w w' : World} {lo hi : Nat} {vr va vb : Value} {yr ya : List Int} {yb : List (List Int)} (h : MachO w lo hi vr va vb yr ya yb) (hh : hi ≤ w.heap.size) (k : New w w') : MachO w' lo hi vr va vb yr ya yb := h.kp k (fun _ f => f.elim)
theorem MachO.mono {w : World} {lo hi lo' hi' : Nat} {vr va vb : Value} {yr ya : List Int} {yb : List (List Int)} (h : MachO w lo hi vr va vb yr ya yb) (h1 : lo' ≤ lo) (h2 : hi ≤ hi') : MachO w lo' hi' vr va vb yr ya yb := by
  obtain ⟨p1, p2, p3, p4, q1, q2, q3, q4, q5, r1, r2⟩ := h
  exact ⟨p1, p2, p3, p4, by omega, by omega, by omega, by omega, q5, r1, r2⟩
theorem MemO.reads {w : World} {lo hi : Nat} {va vb : Value} {ya : List Int} {yb : List (List Int)} (h : MemO w lo hi va vb ya yb) : IntsR w lo hi va ya ∧ MatR w lo hi vb yb := by
  obtain ⟨p1, p2, p3, p4, q1, q2, q3, q4, q5, A, B⟩ := h
  exact ⟨A.reads.mono q1 q2, B.reads.mono q3 q4⟩
theorem MachO.reads {w : World} {lo hi : Nat} {vr va vb : Value} {yr ya : List Int} {yb : List (List Int)} (h : MachO w lo hi vr va vb yr ya yb) : IntsR w lo hi vr yr ∧ IntsR w lo hi va ya ∧ MatR w lo hi vb yb := by
  obtain ⟨p1, p2, p3, p4, q1, q2, q3, q4, q5, A, B⟩ := h
  exact ⟨A.reads.mono q1 q2, B.reads.1.mono q3 q4, B.reads.2.mono q3 q4⟩
theorem MemO.lens {w : World} {lo hi : Nat} {va vb : Value} {ya : List Int} {yb : List (List Int)} (h : MemO w lo hi va vb ya yb) : (∃ a d, va = .slice a ya.length d) ∧ ∃ a d, vb = .slice a yb.length d := by
  obtain ⟨p1, p2, p3, p4, q1, q2, q3, q4, q5, A, B⟩ := h
  obtain ⟨a1, d1, rfl, l1⟩ := A.reads.len
  obtain ⟨a2, d2, rfl, l2⟩ := B.reads.len
  exact ⟨⟨_, _, rfl⟩, _, _, rfl⟩
end Go.Proofs.Ytckikiaockkmbaa.MarkC
