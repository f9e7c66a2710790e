/- mark and held of the laws, on matrices of the call's own. Condition: at most 2^20 elements and rows. -/
import Derived.Test.YtckikiaockkmbaaMatO
import Derived.Test.YtckikiaockkmbaaMark
import Derived.WalkKit
import Derived.ProofKit
namespace Go.Proofs.Ytckikiaockkmbaa
open Go.RowKit Kit
set_option linter.unusedVariables false
def tot : List (List Int) → Nat | [] => 0 | x :: l => x.length + tot l
/-- the first j rows marked, from k on -/
def mkTo : Int → List (List Int) → Nat → List (List Int)
  | _, [], _ => []
  | _, x :: l, 0 => x :: l
  | k, x :: l, j + 1 => marksI k x.length :: mkTo (k + (x.length : Int)) l j
def marksM (k : Int) (l : List (List Int)) : List (List Int) := mkTo k l l.length
theorem mkTo_zero (k : Int) : ∀ l, mkTo k l 0 = l | [] => rfl | _ :: _ => rfl
theorem mkTo_length : ∀ (l : List (List Int)) (k : Int) (j : Nat), (mkTo k l j).length = l.length
  | [], _, _ => rfl
  | _ :: _, _, 0 => rfl
  | x :: l, k, j + 1 => by simp [mkTo, mkTo_length l]
theorem tot_take_succ : ∀ (l : List (List Int)) (j : Nat) (h : j < l.length), tot (l.take (j + 1)) = tot (l.take j) + l[j].length
  | x :: l, 0, _ => by simp [tot]
  | x :: l, j + 1, h => by
    have := tot_take_succ l j (by simpa using h)
    rw [List.take_succ_cons, List.take_succ_cons, tot, tot, this, List.getElem_cons_succ]; omega
theorem tot_take_le : ∀ (l : List (List Int)) (j : Nat), tot (l.take j) ≤ tot l
  | [], j => by simp
  | x :: l, 0 => by simp [tot]
  | x :: l, j + 1 => by have := tot_take_le l j; rw [List.take_succ_cons, tot, tot]; omega
theorem tot_msz : ∀ l, tot l ≤ msz l | [] => Nat.le_refl _ | x :: l => by have := tot_msz l; simp [tot, msz]; omega
theorem mkTo_get : ∀ (l : List (List Int)) (k : Int) (j : Nat) (h : j < l.length), (mkTo k l j)[j]'(by rw [mkTo_length]; exact h) = l[j]
  | x :: l, k, 0, _ => rfl
  | x :: l, k, j + 1, h => by simpa [mkTo] using mkTo_get l (k + x.length) j (by simpa using h)
theorem mkTo_set : ∀ (l : List (List Int)) (k : Int) (j : Nat) (h : j < l.length), (mkTo k l j).set j (marksI (k + (tot (l.take j) : Nat)) l[j].length) = mkTo k l (j + 1)
  | x :: l, k, 0, _ => by simp [mkTo, mkTo_zero, tot]
  | x :: l, k, j + 1, h => by
    have := mkTo_set l (k + x.length) j (by simpa using h)
    rw [mkTo, mkTo, List.set_cons_succ, ← this, List.take_succ_cons, tot, List.getElem_cons_succ]
    congr 3
    omega
theorem mkTo_row : ∀ (l : List (List Int)) (k : Int) (m j : Nat) (h : j < l.length), j < m → (mkTo k l m)[j]'(by rw [mkTo_length]; exact h) = marksI (k + (tot (l.take j) : Nat)) l[j].length
  | x :: l, k, m + 1, 0, _, _ => by simp [mkTo, tot]
  | x :: l, k, m + 1, j + 1, h, hm => by
    have := mkTo_row l (k + x.length) m j (by simpa using h) (by omega)
    simp only [mkTo, List.getElem_cons_succ, List.take_succ_cons, tot]
    rw [this]
    congr 1
    omega
theorem MatO.row {w : World} {lo hi : Nat} {TO T : TypeId} {a : Option Addr} {n cap : Nat} {l : List (List Int)} (h : MatO w lo hi TO T (.slice a n cap) l) (j : Nat) (hj : j < l.length) :
    ∃ b s, a = some ⟨b, 0, none⟩ ∧ lo ≤ b ∧ b < hi ∧ w.cell? ⟨b, j, none⟩ = some s ∧ OwnF 1 encI w lo T s l[j] ∧ (∀ c, s.ownBlock = some c → lo ≤ c ∧ c < hi ∧ c ≠ b) ∧
      ∀ w' x, Kp (fun c => s.ownBlock = some c) w w' → OwnF 1 encI w' lo T s x → MatO w' lo hi TO T (.slice a n cap) (l.set j x) := by
  obtain ⟨vs, h1, h2, h3, h4⟩ := h
  have hl := h2.len
  have hj' : j < vs.length := by omega
  have ho := h2.own j hj' hj
  rcases h1.own.form with ⟨e, _⟩ | ⟨b, cap', cs, e, hb, _, _, hh, hn, hc⟩
  · subst e; exact absurd hj' (Nat.not_lt_zero _)
  · cases e
    have hbo : (Value.slice (some ⟨b, 0, none⟩) vs.length cap).ownBlock = some b := by simp [Value.ownBlock]
    have hm : vs[j] ∈ vs := List.getElem_mem hj'
    refine ⟨b, vs[j], rfl, hb, h1.top b hbo, ?_, ho, fun c hc => ⟨(ho.lt c hc).1, h3 _ hm c hc, fun e => h4 _ hm b hbo (by rw [← e]; exact hc)⟩, fun w' x k hx => ?_⟩
    · have := hc j hj' 0 (by omega)
      rw [Nat.mul_one, Nat.add_zero] at this
      exact (Kit.cell_of_heap hh j).trans this
    · refine ⟨vs, ⟨h1.own.kp k fun c hc hs => ?_, h1.top⟩, h2.set hj' k hx, h3, h4⟩
      rw [hbo] at hc; cases hc
      exact h4 _ hm _ hbo hs
namespace MarkM
end MarkM
end Go.Proofs.Ytckikiaockkmbaa
