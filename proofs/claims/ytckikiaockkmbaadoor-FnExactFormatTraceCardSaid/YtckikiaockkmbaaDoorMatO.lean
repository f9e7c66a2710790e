/- A matrix of the call's own: its row of slices, and each of its rows, in blocks of their own. No conditions but the lengths. -/
import Derived.Test.YtckikiaockkmbaaDoorMatF
import Derived.WalkKit
import Derived.ProofKit
namespace Go.Proofs.YtckikiaockkmbaaDoor
open Go.RowKit Kit
set_option linter.unusedVariables false
def encV : Value → Nat → Value := fun v _ => v
/-- rows in blocks of their own, all of them apart -/
structure RowsO (w : World) (base : Nat) (T : TypeId) (vs : List Value) (l : List (List Int)) : Prop where
  len : vs.length = l.length
  own : ∀ i (h : i < vs.length) (h' : i < l.length), OwnF 1 encI w base T vs[i] l[i]
  apart : vs.Pairwise fun x y => ∀ b, x.ownBlock = some b → y.ownBlock ≠ some b
namespace RowsO
variable {w w' : World} {base : Nat} {T : TypeId} {vs : List Value} {l : List (List Int)}
theorem nil (w : World) (base : Nat) (T : TypeId) : RowsO w base T [] [] := ⟨rfl, fun i h => absurd h (Nat.not_lt_zero _), List.Pairwise.nil⟩
theorem mem (h : RowsO w base T vs l) {v : Value} (hv : v ∈ vs) : ∃ xs, OwnF 1 encI w base T v xs := by
  obtain ⟨i, hi, rfl⟩ := List.getElem_of_mem hv
  exact ⟨_, h.own i hi (by have := h.len; omega)⟩
theorem kp (h : RowsO w base T vs l) {S : Nat → Prop} (k : Kp S w w') (hs : ∀ v ∈ vs, ∀ b, v.ownBlock = some b → ¬ S b) : RowsO w' base T vs l :=
  ⟨h.len, fun i hi h' => (h.own i hi h').kp k (hs _ (List.getElem_mem hi)), h.apart⟩
theorem new (h : RowsO w base T vs l) (k : New w w') : RowsO w' base T vs l := h.kp k (fun _ _ _ _ f => f)
theorem mono (h : RowsO w base T vs l) {base' : Nat} (hb : base' ≤ base) : RowsO w base' T vs l := ⟨h.len, fun i hi h' => (h.own i hi h').mono hb, h.apart⟩
/-- one more row, of a block that the call before did not know -/
theorem snoc (h : RowsO w base T vs l) (k : New w w') (hb : base ≤ w.heap.size) {v : Value} {x : List Int} (hv : OwnF 1 encI w' w.heap.size T v x) : RowsO w' base T (vs ++ [v]) (l ++ [x]) := by
  have h1 := h.new k
  refine ⟨by simp [h.len], fun i hi h' => ?_, ?_⟩
  · by_cases e : i < vs.length
    · have e2 : i < l.length := by have := h.len; omega
      rw [List.getElem_append_left e, List.getElem_append_left e2]; exact h1.own i e e2
    · have e1 : i = vs.length := by simp at hi; omega
      subst e1
      have e3 : (vs ++ [v])[vs.length] = v := by simp
      have e4 : (l ++ [x])[vs.length] = x := by simp [h.len]
      rw [e3, e4]; exact hv.mono hb
  · rw [List.pairwise_append]
    refine ⟨h.apart, List.pairwise_singleton _ _, fun a ha c hc b hab hcb => ?_⟩
    rw [List.mem_singleton] at hc
    subst hc
    obtain ⟨xs, ho⟩ := h.mem ha
    have q1 := (ho.lt b hab).2
    have q2 := (hv.lt b hcb).1
    omega
/-- a row marked anew -/
theorem set (h : RowsO w base T vs l) {j : Nat} (hj : j < vs.length) (k : Kp (fun b => vs[j].ownBlock = some b) w w') {x : List Int} (hv : OwnF 1 encI w' base T vs[j] x) : RowsO w' base T vs (l.set j x) := by
  refine ⟨by simp [h.len], fun i hi h' => ?_, h.apart⟩
  have h2 : i < l.length := by simpa using h'
  by_cases e : j = i
  · subst e; rw [List.getElem_set_self]; exact hv
  · rw [List.getElem_set_ne e]
    refine (h.own i hi h2).kp k fun b hb hS => ?_
    rcases Nat.lt_or_ge j i with q | q
    · exact List.pairwise_iff_getElem.1 h.apart j i hj hi q b hS hb
    · exact List.pairwise_iff_getElem.1 h.apart i j hi hj (by omega) b hb hS
end RowsO
theorem FlR.below {α : Type} {n : Nat} {enc : α → Nat → Value} {w : World} {lo hi hi' : Nat} {v : Value} {xs : List α} (h : FlR n enc w lo hi v xs) (hb : ∀ b, v.ownBlock = some b → b < hi') : FlR n enc w lo hi' v xs := by
  cases h with
  | nil a cap => exact .nil _ _
  | cons b o cap xs h0 hlo hhi hcap hmax c => exact .cons b o cap xs h0 hlo (hb b (by simp [Value.ownBlock])) hcap hmax c
/-- a row of the call's own, below block hi -/
structure OwnR {α : Type} (n : Nat) (enc : α → Nat → Value) (w : World) (lo hi : Nat) (T : TypeId) (v : Value) (xs : List α) : Prop where
  own : OwnF n enc w lo T v xs
  top : ∀ b, v.ownBlock = some b → b < hi
namespace OwnR
variable {α : Type} {n : Nat} {enc : α → Nat → Value} {w w' : World} {lo hi : Nat} {T : TypeId} {v : Value} {xs : List α}
theorem of (h : OwnF n enc w lo T v xs) : OwnR n enc w lo w.heap.size T v xs := ⟨h, fun b hb => (h.lt b hb).2⟩
theorem reads (h : OwnR n enc w lo hi T v xs) : FlR n enc w lo hi v xs := h.own.reads.below h.top
theorem kp (h : OwnR n enc w lo hi T v xs) {S : Nat → Prop} (k : Kp S w w') (hs : ∀ b, S b → b < lo ∨ hi ≤ b) : OwnR n enc w' lo hi T v xs :=
  ⟨h.own.kp k (fun b hb hS => by have := h.own.lt b hb; have := h.top b hb; have := hs b hS; omega), h.top⟩
theorem new (h : OwnR n enc w lo hi T v xs) (hh : hi ≤ w.heap.size) (k : New w w') : OwnR n enc w' lo hi T v xs := h.kp k (fun _ f => f.elim)
theorem mono (h : OwnR n enc w lo hi T v xs) {lo' hi' : Nat} (h1 : lo' ≤ lo) (h2 : hi ≤ hi') : OwnR n enc w lo' hi' T v xs := ⟨h.own.mono h1, fun b hb => by have := h.top b hb; omega⟩
end OwnR
/-- a matrix of the call's own, in blocks lo .. hi - 1 -/
def MatO (w : World) (lo hi : Nat) (TO T : TypeId) (v : Value) (l : List (List Int)) : Prop := ∃ vs, OwnR 1 encV w lo hi TO v vs ∧ RowsO w lo T vs l ∧ (∀ x ∈ vs, ∀ b, x.ownBlock = some b → b < hi) ∧ ∀ x ∈ vs, ∀ b, v.ownBlock = some b → x.ownBlock ≠ some b
namespace MatO
variable {w w' : World} {lo hi : Nat} {TO T : TypeId} {v : Value} {l : List (List Int)}
theorem reads (h : MatO w lo hi TO T v l) : MatR w lo hi v l := by
  obtain ⟨vs, h1, h2, h3, _⟩ := h
  have hr := h1.reads
  have hl := h2.len
  cases hr with
  | nil a cap =>
    have e : l = [] := List.eq_nil_of_length_eq_zero (by simpa using hl.symm)
    subst e; exact .nil _ _
  | cons b o cap xs h0 hlo hhi hcap hmax c =>
    rw [hl]
    refine .cons b o cap l (fun i => vs.getD i .nilIface) (by omega) hlo hhi (by omega) hmax (fun i hi => ?_) (fun i hi => ?_)
    · have := c i (by omega) 0 (by omega)
      rw [Nat.mul_one, Nat.add_zero] at this
      rw [this, List.getD_eq_getElem?_getD, List.getElem?_eq_getElem (by omega)]; rfl
    · have := (h2.own i (by omega) hi).reads.below (h3 _ (List.getElem_mem (by omega)))
      rw [List.getD_eq_getElem?_getD, List.getElem?_eq_getElem (by omega)]; exact this
theorem mono (h : MatO w lo hi TO T v l) {lo' hi' : Nat} (hb : lo' ≤ lo) (ht : hi ≤ hi') : MatO w lo' hi' TO T v l := by
  obtain ⟨vs, h1, h2, h3, h4⟩ := h
  exact ⟨vs, h1.mono hb ht, h2.mono hb, fun x hx b hb => by have := h3 x hx b hb; omega, h4⟩
/-- blocks beside the matrix were turned -/
theorem kp (h : MatO w lo hi TO T v l) {S : Nat → Prop} (k : Kp S w w') (hs : ∀ b, S b → b < lo ∨ hi ≤ b) : MatO w' lo hi TO T v l := by
  obtain ⟨vs, h1, h2, h3, h4⟩ := h
  refine ⟨vs, h1.kp k hs, h2.kp k fun x hx b hb hS => ?_, h3, h4⟩
  obtain ⟨xs, ho⟩ := h2.mem hx
  have := ho.lt b hb; have := h3 x hx b hb; have := hs b hS; omega
theorem new (h : MatO w lo hi TO T v l) (hh : hi ≤ w.heap.size) (k : New w w') : MatO w' lo hi TO T v l := h.kp k (fun _ f => f.elim)
theorem of (vs : List Value) (h1 : OwnF 1 encV w lo TO v vs) (h2 : RowsO w lo T vs l) (h4 : ∀ x ∈ vs, ∀ b, v.ownBlock = some b → x.ownBlock ≠ some b) : MatO w lo w.heap.size TO T v l :=
  ⟨vs, OwnR.of h1, h2, fun x hx b hb => by obtain ⟨xs, ho⟩ := h2.mem hx; exact (ho.lt b hb).2, h4⟩
end MatO
/-- a matrix being filled: the row of slices lies in block b, the first j rows behind it -/
def FilledO (w : World) (b : Nat) (TO T : TypeId) (l : List (List Int)) (j : Nat) : Prop := ∃ vs, vs.length = l.length ∧ RowF 1 encV w b TO vs j ∧ RowsO w (b + 1) T (vs.take j) (l.take j)
namespace FilledO
variable {w w' : World} {b : Nat} {TO T : TypeId} {l : List (List Int)} {j : Nat}
theorem row (h : FilledO w b TO T l j) : Row w b (l.length * 1) TO := by
  obtain ⟨vs, h1, h2, _⟩ := h
  rw [← h1]; exact h2.row
theorem zero {w : World} (TO T : TypeId) (l : List (List Int)) (z : Value) : FilledO (w.alloc (.cells (mkCells z 1 l.length) TO)) w.heap.size TO T l 0 := by
  have := RowF.zero (n := 1) (enc := encV) (T := TO) (xs := List.replicate l.length z) w z
  rw [List.length_replicate] at this
  exact ⟨List.replicate l.length z, by simp, this, by simpa using RowsO.nil _ _ _⟩
theorem new (h : FilledO w b TO T l j) (k : New w w') : FilledO w' b TO T l j := by
  obtain ⟨vs, h1, h2, h3⟩ := h
  exact ⟨vs, h1, h2.new k, h3.new k⟩
/-- the row of the next call is stored -/
theorem step (h : FilledO w b TO T l j) (hj : j < l.length) (k : New w w') {v : Value} (hv : OwnF 1 encI w' w.heap.size T v l[j]) : FilledO (w'.setCell ⟨b, j, none⟩ v) b TO T l (j + 1) := by
  obtain ⟨vs, h1, h2, h3⟩ := h
  have hb := h2.row.lt
  have h4 := h3.snoc k (by omega) hv
  have hj' : j < vs.length := by omega
  have hs : Kp (fun x => x = b) w' (w'.setCell ⟨b, j, none⟩ v) := Kp.setCell (Kp.refl (fun x => x = b) w') (.inl rfl) v
  refine ⟨vs.set j v, by simpa using h1, ?_, ?_⟩
  · obtain ⟨cs, q1, q2, q3⟩ := (h2.new k).is
    have : RowF 1 encV w' b TO (vs.set j v) j := ⟨cs, q1, by simpa using q2, fun i hi hij t ht => by
      have := q3 i (by simpa using hi) hij t ht
      rw [List.getElem_set_ne (by omega)]; exact this⟩
    exact this.step1 (by simpa using hj') (by simp [encV])
  · have e1 : (vs.set j v).take (j + 1) = vs.take j ++ [v] := by
      rw [List.take_succ_eq_append_getElem (by simpa using hj'), List.take_set_of_le (Nat.le_refl _)]; simp
    rw [e1, List.take_succ_eq_append_getElem hj]
    exact h4.kp hs fun x hx c hc hS => by
      obtain ⟨xs, ho⟩ := h4.mem hx
      have := (ho.lt c hc).1
      omega
theorem done (h : FilledO w b TO T l l.length) (hm : l.length ≤ maxLen) : MatO w b w.heap.size TO T (.slice (some ⟨b, 0, none⟩) l.length l.length) l := by
  obtain ⟨vs, h1, h2, h3⟩ := h
  rw [List.take_of_length_le (by omega), List.take_of_length_le (Nat.le_refl _)] at h3
  rw [← h1] at h2 hm
  refine MatO.of vs (by rw [← h1]; exact h2.own hm) (h3.mono (by omega)) fun x hx c hc hxc => ?_
  obtain ⟨xs, ho⟩ := h3.mem hx
  have q := (ho.lt c hxc).1
  have : b = c := by simpa [Value.ownBlock] using hc
  omega
end FilledO
namespace MatO
open Kit
end MatO
end Go.Proofs.YtckikiaockkmbaaDoor
