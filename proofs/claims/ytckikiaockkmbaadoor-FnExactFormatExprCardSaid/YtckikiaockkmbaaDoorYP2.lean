/- Flat slices in memory (of ints, of bools, of structs of ints), slices of slices of ints: how they read, and new rows that are filled. No program in sight; no conditions. -/
import Derived.Test.YtckikiaockkmbaaDoorYP1
import Derived.WalkKit
import Derived.ProofKit
import Derived.OwnWalk
import Derived.Test.YtckikiaockkmbaaDoorChecked
import Derived.Deep.QuietTactic
import Derived.BigQuiet
import Derived.StillTailTactics
import Derived.Maps.AppendAt
import Derived.Laws.OwnMore
import Derived.RegionTactic
namespace Go.Proofs.YtckikiaockkmbaaDoor
open Go.RowKit Kit
set_option linter.unusedVariables false

/-- THE SLICE VALUE s READS IN w AS THE LIST xs: n cells an element, cell t of x is enc x t; its block lies in lo .. hi-1 -/
inductive FlR {α : Type} (n : Nat) (enc : α → Nat → Value) (w : World) (lo hi : Nat) : Value → List α → Prop
  | nil (a : Option Addr) (cap : Nat) : FlR n enc w lo hi (.slice a 0 cap) []
  | cons (b o cap : Nat) (xs : List α) (h0 : 0 < xs.length) (hlo : lo ≤ b) (hhi : b < hi) (hcap : xs.length ≤ cap) (hmax : cap ≤ 9223372036854775807)
      (c : ∀ i (h : i < xs.length) t, t < n → w.cell? ⟨b, o + i * n + t, none⟩ = some (enc xs[i] t)) : FlR n enc w lo hi (.slice (some ⟨b, o, none⟩) xs.length cap) xs

namespace FlR
variable {α : Type} {n : Nat} {enc : α → Nat → Value} {w w' : World} {lo hi lo' hi' : Nat} {s : Value} {xs : List α}
theorem keep (h : FlR n enc w lo hi s xs) (hk : ∀ k, lo ≤ k → k < hi → w'.heap[k]? = w.heap[k]?) : FlR n enc w' lo hi s xs := by
  cases h with
  | nil a cap => exact .nil a cap
  | cons b o cap xs h0 hlo hhi hcap hmax c =>
    have hc : ∀ j, w'.cell? ⟨b, j, none⟩ = w.cell? ⟨b, j, none⟩ := fun j => World.cell?_of_block (w := w) (hk b hlo hhi)
    exact .cons b o cap xs h0 hlo hhi hcap hmax fun i h t ht => by rw [hc]; exact c i h t ht
theorem mono (h : FlR n enc w lo hi s xs) (hl : lo' ≤ lo) (hh : hi ≤ hi') : FlR n enc w lo' hi' s xs := by
  cases h with
  | nil a cap => exact .nil a cap
  | cons b o cap xs h0 hlo hhi hcap hmax c => exact .cons b o cap xs h0 (by omega) (by omega) hcap hmax c
theorem kp (h : FlR n enc w lo hi s xs) {T : Nat → Prop} (hk : Kp T w w') (hh : hi ≤ w.heap.size) (ht : ∀ k, T k → k < lo ∨ hi ≤ k) : FlR n enc w' lo hi s xs :=
  h.keep fun k h1 h2 => hk.block k (by omega) (fun s => by have := ht k s; omega)
theorem new (h : FlR n enc w lo hi s xs) (hh : hi ≤ w.heap.size) (hk : New w w') : FlR n enc w' lo hi s xs := h.kp hk hh (fun _ f => f.elim)
theorem set (h : FlR n enc w lo hi s xs) {b : Nat} (hb : b < lo ∨ hi ≤ b) (o : Nat) (v : Value) : FlR n enc (w.setCell ⟨b, o, none⟩ v) lo hi s xs :=
  h.keep fun k h1 h2 => Below.heap_setCell _ _ _ _ (by show k ≠ b; omega)
theorem len (h : FlR n enc w lo hi s xs) : ∃ a cap, s = .slice a xs.length cap ∧ xs.length ≤ 9223372036854775807 := by
  cases h with
  | nil a cap => exact ⟨a, cap, rfl, by simp⟩
  | cons b o cap xs h0 hlo hhi hcap hmax => exact ⟨_, cap, rfl, by omega⟩
theorem at' {a : Option Addr} {m cap : Nat} (h : FlR n enc w lo hi (.slice a m cap) xs) (k : Nat) (hk : k < xs.length) :
    ∃ b o, a = some ⟨b, o, none⟩ ∧ lo ≤ b ∧ b < hi ∧ ∀ t, t < n → w.cell? ⟨b, o + k * n + t, none⟩ = some (enc xs[k] t) := by
  cases h with
  | nil a cap => simp at hk
  | cons b o cap xs h0 hlo hhi hcap hmax c => exact ⟨b, o, rfl, hlo, hhi, c k hk⟩
/-- what the call owns reads so -/
theorem of_owns {base : Nat} {T : TypeId} {v : Value} {cells : List Value} (h : w.ownsRow base T n v xs.length cells) (hc : ∀ i (hi : i < xs.length) t, t < n → cells[i * n + t]? = some (enc xs[i] t)) : FlR n enc w base w.heap.size v xs := by
  rcases h.2 with ⟨rfl, h0⟩ | ⟨g, cap, cur, rfl, hg, hh, hn, hm, hs, ht⟩
  · have : xs = [] := List.eq_nil_of_length_eq_zero h0
    subst this
    exact .nil _ _
  · by_cases h0 : xs.length = 0
    · have : xs = [] := List.eq_nil_of_length_eq_zero h0
      subst this
      exact .nil _ _
    · refine .cons g 0 cap xs (by omega) hg (heap_lt hh) hn hm fun i hi t htn => ?_
      rw [cell_of_heap hh, Nat.zero_add, ← hc i hi t htn, ← ht, List.getElem?_take]
      have hlt : i * n + t < xs.length * n := by
        have : (i + 1) * n ≤ xs.length * n := Nat.mul_le_mul_right _ hi
        rw [Nat.add_mul] at this; omega
      simp [hlt]
end FlR

abbrev encI : Int → Nat → Value := fun x _ => .int .i64 x
abbrev encB : Bool → Nat → Value := fun x _ => .bool x
abbrev IntsR : World → Nat → Nat → Value → List Int → Prop := FlR 1 encI
abbrev BoolsR : World → Nat → Nat → Value → List Bool → Prop := FlR 1 encB
/-- an event: kind, value -/
abbrev Ev := Int × Int
def encE (e : Ev) : Nat → Value | 0 => .int .i64 e.1 | _ => .int .i64 e.2
abbrev EvsR : World → Nat → Nat → Value → List Ev → Prop := FlR 2 encE
/-- an instruction -/
structure Ins where
  op : Int
  a : Int
  b : Int
  c : Int
  d : Int
  deriving DecidableEq
def encN (x : Ins) : Nat → Value | 0 => .int .i64 x.op | 1 => .int .i64 x.a | 2 => .int .i64 x.b | 3 => .int .i64 x.c | _ => .int .i64 x.d
abbrev InssR : World → Nat → Nat → Value → List Ins → Prop := FlR 5 encN

theorem IntsR.at {w : World} {lo hi : Nat} {xs : List Int} {a : Option Addr} {m cap : Nat} (h : IntsR w lo hi (.slice a m cap) xs) (k : Nat) (hk : k < xs.length) :
    ∃ b o, a = some ⟨b, o, none⟩ ∧ lo ≤ b ∧ b < hi ∧ w.cell? ⟨b, o + k, none⟩ = some (.int .i64 xs[k]) := by
  obtain ⟨b, o, ha, h1, h2, c⟩ := h.at' k hk
  exact ⟨b, o, ha, h1, h2, by simpa using c 0 (by omega)⟩
theorem BoolsR.at {w : World} {lo hi : Nat} {xs : List Bool} {a : Option Addr} {m cap : Nat} (h : BoolsR w lo hi (.slice a m cap) xs) (k : Nat) (hk : k < xs.length) :
    ∃ b o, a = some ⟨b, o, none⟩ ∧ lo ≤ b ∧ b < hi ∧ w.cell? ⟨b, o + k, none⟩ = some (.bool xs[k]) := by
  obtain ⟨b, o, ha, h1, h2, c⟩ := h.at' k hk
  exact ⟨b, o, ha, h1, h2, by simpa using c 0 (by omega)⟩
theorem EvsR.at {w : World} {lo hi : Nat} {xs : List Ev} {a : Option Addr} {m cap : Nat} (h : EvsR w lo hi (.slice a m cap) xs) (k : Nat) (hk : k < xs.length) :
    ∃ b o, a = some ⟨b, o, none⟩ ∧ lo ≤ b ∧ b < hi ∧ w.cell? ⟨b, o + k * 2, none⟩ = some (.int .i64 xs[k].1) ∧ w.cell? ⟨b, o + k * 2 + 1, none⟩ = some (.int .i64 xs[k].2) := by
  obtain ⟨b, o, ha, h1, h2, c⟩ := h.at' k hk
  exact ⟨b, o, ha, h1, h2, c 0 (by omega), c 1 (by omega)⟩
theorem InssR.at {w : World} {lo hi : Nat} {xs : List Ins} {a : Option Addr} {m cap : Nat} (h : InssR w lo hi (.slice a m cap) xs) (k : Nat) (hk : k < xs.length) :
    ∃ b o, a = some ⟨b, o, none⟩ ∧ lo ≤ b ∧ b < hi ∧ w.cell? ⟨b, o + k * 5, none⟩ = some (.int .i64 xs[k].op) ∧ w.cell? ⟨b, o + k * 5 + 1, none⟩ = some (.int .i64 xs[k].a) ∧ w.cell? ⟨b, o + k * 5 + 2, none⟩ = some (.int .i64 xs[k].b) ∧
      w.cell? ⟨b, o + k * 5 + 3, none⟩ = some (.int .i64 xs[k].c) ∧ w.cell? ⟨b, o + k * 5 + 4, none⟩ = some (.int .i64 xs[k].d) := by
  obtain ⟨b, o, ha, h1, h2, c⟩ := h.at' k hk
  exact ⟨b, o, ha, h1, h2, c 0 (by omega), c 1 (by omega), c 2 (by omega), c 3 (by omega), c 4 (by omega)⟩

/-- a slice of slices of ints -/
inductive MatR (w : World) (lo hi : Nat) : Value → List (List Int) → Prop
  | nil (a : Option Addr) (cap : Nat) : MatR w lo hi (.slice a 0 cap) []
  | cons (b o cap : Nat) (xs : List (List Int)) (S : Nat → Value) (h0 : 0 < xs.length) (hlo : lo ≤ b) (hhi : b < hi) (hcap : xs.length ≤ cap) (hmax : cap ≤ 9223372036854775807)
      (c : ∀ i (h : i < xs.length), w.cell? ⟨b, o + i, none⟩ = some (S i)) (r : ∀ i (h : i < xs.length), IntsR w lo hi (S i) xs[i]) : MatR w lo hi (.slice (some ⟨b, o, none⟩) xs.length cap) xs
namespace MatR
variable {w w' : World} {lo hi lo' hi' : Nat} {s : Value} {xs : List (List Int)}
theorem keep (h : MatR w lo hi s xs) (hk : ∀ k, lo ≤ k → k < hi → w'.heap[k]? = w.heap[k]?) : MatR w' lo hi s xs := by
  cases h with
  | nil a cap => exact .nil a cap
  | cons b o cap xs S h0 hlo hhi hcap hmax c r =>
    have hc : ∀ j, w'.cell? ⟨b, j, none⟩ = w.cell? ⟨b, j, none⟩ := fun j => World.cell?_of_block (w := w) (hk b hlo hhi)
    exact .cons b o cap xs S h0 hlo hhi hcap hmax (fun i h => by rw [hc]; exact c i h) (fun i h => (r i h).keep hk)
theorem mono (h : MatR w lo hi s xs) (hl : lo' ≤ lo) (hh : hi ≤ hi') : MatR w lo' hi' s xs := by
  cases h with
  | nil a cap => exact .nil a cap
  | cons b o cap xs S h0 hlo hhi hcap hmax c r => exact .cons b o cap xs S h0 (by omega) (by omega) hcap hmax c (fun i h => (r i h).mono hl hh)
theorem kp (h : MatR w lo hi s xs) {T : Nat → Prop} (hk : Kp T w w') (hh : hi ≤ w.heap.size) (ht : ∀ k, T k → k < lo ∨ hi ≤ k) : MatR w' lo hi s xs :=
  h.keep fun k h1 h2 => hk.block k (by omega) (fun s => by have := ht k s; omega)
theorem new (h : MatR w lo hi s xs) (hh : hi ≤ w.heap.size) (hk : New w w') : MatR w' lo hi s xs := h.kp hk hh (fun _ f => f.elim)
theorem len (h : MatR w lo hi s xs) : ∃ a cap, s = .slice a xs.length cap ∧ xs.length ≤ 9223372036854775807 := by
  cases h with
  | nil a cap => exact ⟨a, cap, rfl, by simp⟩
  | cons b o cap xs S h0 hlo hhi hcap hmax => exact ⟨_, cap, rfl, by omega⟩
theorem at' {a : Option Addr} {m cap : Nat} (h : MatR w lo hi (.slice a m cap) xs) (k : Nat) (hk : k < xs.length) :
    ∃ b o s, a = some ⟨b, o, none⟩ ∧ lo ≤ b ∧ b < hi ∧ w.cell? ⟨b, o + k, none⟩ = some s ∧ IntsR w lo hi s xs[k] := by
  cases h with
  | nil a cap => simp at hk
  | cons b o cap xs S h0 hlo hhi hcap hmax c r => exact ⟨b, o, S k, rfl, hlo, hhi, c k hk, r k hk⟩
end MatR

/-- a new row of n cells an element, whose first j elements are those of xs -/
structure RowF {α : Type} (n : Nat) (enc : α → Nat → Value) (w : World) (b : Nat) (T : TypeId) (xs : List α) (j : Nat) : Prop where
  is : ∃ cs : Array Value, w.heap[b]? = some (.cells cs T (0, 0)) ∧ cs.size = xs.length * n ∧ ∀ i (h : i < xs.length), i < j → ∀ t, t < n → cs[i * n + t]? = some (enc xs[i] t)
namespace RowF
variable {α : Type} {n : Nat} {enc : α → Nat → Value} {w w' : World} {b : Nat} {T : TypeId} {xs : List α} {j : Nat}
theorem zero (w : World) (z : Value) : RowF n enc (w.alloc (.cells (mkCells z n xs.length) T)) w.heap.size T xs 0 := ⟨_, alloc_heap _ _, mkCells_size _ _ _, fun i _ h => absurd h (Nat.not_lt_zero _)⟩
theorem row (h : RowF n enc w b T xs j) : Row w b (xs.length * n) T := by obtain ⟨cs, h1, h2, _⟩ := h.is; exact ⟨cs, h1, h2⟩
theorem keep (h : RowF n enc w b T xs j) (hb : w'.heap[b]? = w.heap[b]?) : RowF n enc w' b T xs j := by obtain ⟨cs, h1, h2, h3⟩ := h.is; exact ⟨cs, hb.trans h1, h2, h3⟩
theorem new (h : RowF n enc w b T xs j) (k : New w w') : RowF n enc w' b T xs j := h.keep (k.block b h.row.lt (fun f => f))
theorem owns (h : RowF n enc w b T xs xs.length) (hm : xs.length ≤ maxLen) : ∃ cells, w.ownsRow b T n (.slice (some ⟨b, 0, none⟩) xs.length xs.length) xs.length cells ∧ ∀ i (hi : i < xs.length) t, t < n → cells[i * n + t]? = some (enc xs[i] t) := by
  obtain ⟨cs, h1, h2, h3⟩ := h.is
  refine ⟨cs.toList, ⟨by simpa using h2, .inr ⟨b, xs.length, cs, rfl, Nat.le_refl _, h1, Nat.le_refl _, hm, h2, ?_⟩⟩, fun i hi t ht => by simpa using h3 i hi hi t ht⟩
  rw [List.take_of_length_le (by simp [h2])]
theorem reads (h : RowF n enc w b T xs xs.length) (hm : xs.length ≤ maxLen) : FlR n enc w b w.heap.size (.slice (some ⟨b, 0, none⟩) xs.length xs.length) xs := by
  obtain ⟨cells, h1, h2⟩ := h.owns hm
  exact FlR.of_owns h1 h2
end RowF
theorem RowF.step1 {α : Type} {enc : α → Nat → Value} {w : World} {b : Nat} {T : TypeId} {xs : List α} {j : Nat} (h : RowF 1 enc w b T xs j) (hj : j < xs.length) {v : Value} (hv : v = enc xs[j] 0) : RowF 1 enc (w.setCell ⟨b, j, none⟩ v) b T xs (j + 1) := by
  subst hv
  obtain ⟨cs, h1, h2, h3⟩ := h.is
  refine ⟨_, setCell_heap h1 _, by simpa using h2, fun i hi hij t ht => ?_⟩
  obtain rfl : t = 0 := by omega
  simp only [Nat.mul_one, Nat.add_zero] at *
  rw [Array.getElem?_setIfInBounds]
  by_cases e : j = i
  · subst e; simp [h2, hj]
  · simp only [e, if_false]; exact (by simpa using h3 i hi (by omega) 0 (by omega))
/-- the call's own row, from base on: v holds the list xs -/
def OwnF {α : Type} (n : Nat) (enc : α → Nat → Value) (w : World) (base : Nat) (T : TypeId) (v : Value) (xs : List α) : Prop :=
  ∃ cells, w.ownsRow base T n v xs.length cells ∧ ∀ i (hi : i < xs.length) t, t < n → cells[i * n + t]? = some (enc xs[i] t)
namespace OwnF
variable {α : Type} {n : Nat} {enc : α → Nat → Value} {w w' : World} {base : Nat} {T : TypeId} {v : Value} {xs : List α}
theorem reads (h : OwnF n enc w base T v xs) : FlR n enc w base w.heap.size v xs := by obtain ⟨cells, h1, h2⟩ := h; exact FlR.of_owns h1 h2
theorem keep (h : OwnF n enc w base T v xs) (hk : ∀ k, v.ownBlock = some k → w'.heap[k]? = w.heap[k]?) : OwnF n enc w' base T v xs := by
  obtain ⟨cells, ⟨h1, h2⟩, h3⟩ := h
  refine ⟨cells, ⟨h1, ?_⟩, h3⟩
  rcases h2 with h2 | ⟨g, cap, cur, rfl, hb, hh, r⟩
  · exact .inl h2
  · exact .inr ⟨g, cap, cur, rfl, hb, by rw [hk g rfl]; exact hh, r⟩
theorem lt (h : OwnF n enc w base T v xs) : ∀ k, v.ownBlock = some k → base ≤ k ∧ k < w.heap.size := by obtain ⟨cells, h1, _⟩ := h; exact h1.lt
theorem kp (h : OwnF n enc w base T v xs) {S : Nat → Prop} (k : Kp S w w') (hs : ∀ b, v.ownBlock = some b → ¬ S b) : OwnF n enc w' base T v xs := h.keep fun b hb => k.block b (h.lt b hb).2 (hs b hb)
theorem new (h : OwnF n enc w base T v xs) (k : New w w') : OwnF n enc w' base T v xs := h.kp k (fun _ _ f => f)
theorem mono (h : OwnF n enc w base T v xs) {base' : Nat} (hb : base' ≤ base) : OwnF n enc w base' T v xs := by
  obtain ⟨cells, ⟨h1, h2⟩, h3⟩ := h
  refine ⟨cells, ⟨h1, ?_⟩, h3⟩
  rcases h2 with h2 | ⟨g, cap, cur, rfl, hb', r⟩
  · exact .inl h2
  · exact .inr ⟨g, cap, cur, rfl, by omega, r⟩
/-- nil, or a row of its own -/
theorem form (h : OwnF n enc w base T v xs) : (xs = [] ∧ v = .slice none 0 0) ∨ ∃ b cap cs, v = .slice (some ⟨b, 0, none⟩) xs.length cap ∧ base ≤ b ∧ xs.length ≤ cap ∧ cap ≤ maxLen ∧ w.heap[b]? = some (.cells cs T (0, 0)) ∧ cs.size = cap * n ∧
    ∀ i (hi : i < xs.length) t, t < n → cs[i * n + t]? = some (enc xs[i] t) := by
  obtain ⟨cells, ⟨h1, h2⟩, h3⟩ := h
  rcases h2 with ⟨rfl, h0⟩ | ⟨g, cap, cur, rfl, hb, hh, hn, hm, hs, ht⟩
  · exact .inl ⟨List.eq_nil_of_length_eq_zero h0, rfl⟩
  · refine .inr ⟨g, cap, cur, rfl, hb, hn, hm, hh, hs, fun i hi t htn => ?_⟩
    rw [← h3 i hi t htn, ← ht, List.getElem?_take]
    have hlt : i * n + t < xs.length * n := by
      have : (i + 1) * n ≤ xs.length * n := Nat.mul_le_mul_right _ hi
      rw [Nat.add_mul] at this; omega
    simp [hlt]
end OwnF
theorem RowF.own {α : Type} {n : Nat} {enc : α → Nat → Value} {w : World} {b : Nat} {T : TypeId} {xs : List α} (h : RowF n enc w b T xs xs.length) (hm : xs.length ≤ maxLen) : OwnF n enc w b T (.slice (some ⟨b, 0, none⟩) xs.length xs.length) xs := h.owns hm

/-- what is left of 'left' behind n things -/
def szOf (left : Int) (n : Nat) : Int := if left - n < 0 then -1 else left - n
theorem szOf_lo {left : Int} {n : Nat} (h : left < n) : szOf left n = -1 := by unfold szOf; rw [if_pos (by omega)]
theorem szOf_hi {left : Int} {n : Nat} (h : (n : Int) ≤ left) : szOf left n = left - n := by unfold szOf; rw [if_neg (by omega)]
/-- the numbers k, k+1 .. -/
def marks (k : Int) : Nat → List Int | 0 => [] | n + 1 => k :: marks (k + 1) n
end Go.Proofs.YtckikiaockkmbaaDoor

/- append onto a row of the call's own, in the words of Flat: one element more; a list more. No program in sight. -/
namespace Go.Proofs.YtckikiaockkmbaaDoor
open Go.RowKit Kit
set_option linter.unusedVariables false

theorem OwnF.nil {α : Type} {n : Nat} {enc : α → Nat → Value} (w : World) (base : Nat) (T : TypeId) : OwnF n enc w base T (.slice none 0 0) ([] : List α) := ⟨[], World.ownsRow_nil w base T n, fun i hi => absurd hi (Nat.not_lt_zero _)⟩

section
variable {P : Program} {w : World}
end
end Go.Proofs.YtckikiaockkmbaaDoor

/- Many stores into one block, one behind another. No program in sight; no conditions. -/
namespace Go.Proofs.YtckikiaockkmbaaDoor.Kit
open Go.RowKit
/-- the values vs stored from cell o on -/
def setMany (w : World) (b o : Nat) : List Value → World
  | [] => w
  | v :: vs => setMany (w.setCell ⟨b, o, none⟩ v) b (o + 1) vs
theorem setMany_kp (b : Nat) : ∀ (vs : List Value) (w : World) (o : Nat), Kp (fun k => k = b) w (setMany w b o vs)
  | [], _, _ => Kp.refl _ _
  | v :: vs, w, o => ((Kp.refl (fun k => k = b) w).setCell (p := ⟨b, o, none⟩) (.inl rfl) v).trans ((setMany_kp b vs (w.setCell ⟨b, o, none⟩ v) (o + 1)).mono fun _ _ e => e)
theorem setMany_size (b : Nat) : ∀ (vs : List Value) (w : World) (o : Nat), (setMany w b o vs).heap.size = w.heap.size
  | [], _, _ => rfl
  | v :: vs, w, o => (setMany_size b vs (w.setCell ⟨b, o, none⟩ v) (o + 1)).trans (World.size_setCell _ _ _)
theorem setMany_heap {b : Nat} {T : TypeId} {f : Nat × Nat} : ∀ (vs : List Value) (w : World) (o : Nat) (cs : Array Value), w.heap[b]? = some (.cells cs T f) → o + vs.length = cs.size →
    (setMany w b o vs).heap[b]? = some (.cells (cs.toList.take o ++ vs).toArray T f)
  | [], w, o, cs, h, hs => by
    have : cs.toList.take o = cs.toList := List.take_of_length_le (by simp at hs; simp [hs])
    rw [this]; simpa [setMany] using h
  | v :: vs, w, o, cs, h, hs => by
    have ho : o < cs.size := by simp at hs; omega
    have := setMany_heap vs (w.setCell ⟨b, o, none⟩ v) (o + 1) (cs.setIfInBounds o v) (setCell_heap h v) (by simp at hs ⊢; omega)
    rw [show setMany w b o (v :: vs) = setMany (w.setCell ⟨b, o, none⟩ v) b (o + 1) vs from rfl, this]
    congr 3
    have e : (cs.setIfInBounds o v).toList.take (o + 1) = cs.toList.take o ++ [v] := by
      rw [Array.toList_setIfInBounds, List.take_succ_eq_append_getElem (by simpa using ho), List.take_set_of_le (Nat.le_refl _), List.getElem_set_self]
    rw [e, List.append_assoc]; rfl
theorem setMany_row {w : World} {b : Nat} {T : TypeId} {f : Nat × Nat} {cs : Array Value} (vs : List Value) (h : w.heap[b]? = some (.cells cs T f)) (hs : vs.length = cs.size) : (setMany w b 0 vs).heap[b]? = some (.cells vs.toArray T f) := by
  have := setMany_heap vs w 0 cs h (by omega)
  simpa using this
theorem newSame {P : Program} {f : FuncId} {args : Array Value} {w : World} {Q : Ending → Prop} (h : Calls P f args w fun e w' => Q e ∧ w = w') : Calls P f args w fun e w' => Q e ∧ New w w' := h.mono fun _ _ ⟨hq, hw⟩ => ⟨hq, hw ▸ Kp.refl _ _⟩
end Go.Proofs.YtckikiaockkmbaaDoor.Kit

/- Expressions as trees, and how a slice of expressions in memory reads as a list of trees. No program in sight; no conditions. -/
namespace Go.Proofs.YtckikiaockkmbaaDoor
open Go.RowKit Kit
set_option linter.unusedVariables false

/-- an expression -/
inductive Ex where
  | node (kind val : Int) (kids : List Ex)

namespace Ex
def kind : Ex → Int | node k _ _ => k
def val : Ex → Int | node _ v _ => v
def kids : Ex → List Ex | node _ _ ks => ks

mutual
/-- how many nodes -/
def size : Ex → Nat | node _ _ ks => sizes ks + 1
def sizes : List Ex → Nat | [] => 0 | e :: es => size e + sizes es
end
mutual
def same : Ex → Ex → Bool | node k v ks, node k' v' ks' => k == k' && v == v' && sames ks ks'
def sames : List Ex → List Ex → Bool
  | [], [] => true
  | e :: es, f :: fs => same e f && sames es fs
  | _, _ => false
end

theorem size_kids (e : Ex) : sizes e.kids + 1 = e.size := by cases e; rfl
theorem size_pos (e : Ex) : 1 ≤ e.size := by have := size_kids e; omega
theorem length_sizes : ∀ l : List Ex, l.length ≤ sizes l
  | [] => by simp [sizes]
  | e :: es => by have := length_sizes es; have := size_pos e; simp [sizes]; omega
theorem sizes_get : ∀ (l : List Ex) (i : Nat) (h : i < l.length), l[i].size ≤ sizes l
  | e :: es, 0, _ => by simp [sizes]
  | e :: es, i + 1, h => by have := sizes_get es i (by simpa using h); simp [sizes]; omega
theorem kids_get (l : List Ex) (i : Nat) (h : i < l.length) : sizes l[i].kids < sizes l := by
  have := sizes_get l i h; have := size_kids l[i]; omega
theorem same_eq (e f : Ex) : same e f = (e.kind == f.kind && e.val == f.val && sames e.kids f.kids) := by cases e; cases f; rfl
theorem sames_length : ∀ (l m : List Ex), sames l m = true → l.length = m.length
  | [], [], _ => rfl
  | e :: es, f :: fs, h => by
    simp only [sames, Bool.and_eq_true] at h
    simp [sames_length es fs h.2]
  | [], _ :: _, h => by simp [sames] at h
  | _ :: _, [], h => by simp [sames] at h
theorem sames_nil : sames [] [] = true := by simp [sames]
theorem sames_drop (l m : List Ex) (k : Nat) (h : k < l.length) (h' : k < m.length) : sames (l.drop k) (m.drop k) = (same l[k] m[k] && sames (l.drop (k + 1)) (m.drop (k + 1))) := by
  rw [List.drop_eq_getElem_cons h, List.drop_eq_getElem_cons h']; rfl
mutual
theorem same_refl : ∀ e : Ex, same e e = true | node k v ks => by simp [same, sames_refl ks]
theorem sames_refl : ∀ l : List Ex, sames l l = true | [] => by simp [sames] | e :: es => by simp [sames, same_refl e, sames_refl es]
end
mutual
theorem same_iff : ∀ (e f : Ex), same e f = true → e = f
  | node k v ks, node k' v' ks', h => by
    simp only [same, Bool.and_eq_true, beq_iff_eq] at h
    rw [h.1.1, h.1.2, sames_iff ks ks' h.2]
theorem sames_iff : ∀ (l m : List Ex), sames l m = true → l = m
  | [], [], _ => rfl
  | e :: es, f :: fs, h => by
    simp only [sames, Bool.and_eq_true] at h
    rw [same_iff e f h.1, sames_iff es fs h.2]
  | [], _ :: _, h => by simp [sames] at h
  | _ :: _, [], h => by simp [sames] at h
end
end Ex

/-- THE SLICE VALUE s READS IN w AS THE LIST ks; all its blocks lie in lo .. hi-1 -/
inductive KidsR (w : World) (lo hi : Nat) : Value → List Ex → Prop
  | nil (a : Option Addr) (cap : Nat) : KidsR w lo hi (.slice a 0 cap) []
  | cons (b o cap : Nat) (ks : List Ex) (S : Nat → Value) (h0 : 0 < ks.length) (hlo : lo ≤ b) (hhi : b < hi) (hcap : ks.length ≤ cap) (hmax : cap ≤ 9223372036854775807)
      (c0 : ∀ i (h : i < ks.length), w.cell? ⟨b, o + i * 3, none⟩ = some (.int .i64 ks[i].kind))
      (c1 : ∀ i (h : i < ks.length), w.cell? ⟨b, o + i * 3 + 1, none⟩ = some (.int .i64 ks[i].val))
      (c2 : ∀ i (h : i < ks.length), w.cell? ⟨b, o + i * 3 + 2, none⟩ = some (S i))
      (r : ∀ i (h : i < ks.length), KidsR w lo hi (S i) ks[i].kids) : KidsR w lo hi (.slice (some ⟨b, o, none⟩) ks.length cap) ks

theorem KidsR.keep {w w' : World} {lo hi : Nat} {s : Value} {ks : List Ex} (h : KidsR w lo hi s ks) (hk : ∀ k, lo ≤ k → k < hi → w'.heap[k]? = w.heap[k]?) : KidsR w' lo hi s ks := by
  induction h with
  | nil a cap => exact .nil a cap
  | cons b o cap ks S h0 hlo hhi hcap hmax c0 c1 c2 r ih =>
    have hc : ∀ j, w'.cell? ⟨b, j, none⟩ = w.cell? ⟨b, j, none⟩ := fun j => World.cell?_of_block (w := w) (hk b hlo hhi)
    exact .cons b o cap ks S h0 hlo hhi hcap hmax (fun i h => by rw [hc]; exact c0 i h) (fun i h => by rw [hc]; exact c1 i h) (fun i h => by rw [hc]; exact c2 i h) ih

theorem KidsR.mono {w : World} {lo hi lo' hi' : Nat} {s : Value} {ks : List Ex} (h : KidsR w lo hi s ks) (hl : lo' ≤ lo) (hh : hi ≤ hi') : KidsR w lo' hi' s ks := by
  induction h with
  | nil a cap => exact .nil a cap
  | cons b o cap ks S h0 hlo hhi hcap hmax c0 c1 c2 r ih => exact .cons b o cap ks S h0 (by omega) (by omega) hcap hmax c0 c1 c2 ih

theorem KidsR.kp {w w' : World} {lo hi : Nat} {s : Value} {ks : List Ex} (h : KidsR w lo hi s ks) {T : Nat → Prop} (hk : Kp T w w') (hh : hi ≤ w.heap.size) (ht : ∀ k, T k → k < lo ∨ hi ≤ k) : KidsR w' lo hi s ks :=
  h.keep fun k h1 h2 => hk.block k (by omega) (fun s => by have := ht k s; omega)
theorem KidsR.new {w w' : World} {lo hi : Nat} {s : Value} {ks : List Ex} (h : KidsR w lo hi s ks) (hh : hi ≤ w.heap.size) (hk : New w w') : KidsR w' lo hi s ks :=
  h.kp hk hh (fun _ f => f.elim)

theorem KidsR.set {w : World} {lo hi : Nat} {s : Value} {ks : List Ex} (h : KidsR w lo hi s ks) {b : Nat} (hb : b < lo ∨ hi ≤ b) (o : Nat) (v : Value) : KidsR (w.setCell ⟨b, o, none⟩ v) lo hi s ks :=
  h.keep fun k h1 h2 => Below.heap_setCell _ _ _ _ (by show k ≠ b; omega)

/-- what a reading of a slice lets one see, in one form: its length, and behind it its cells -/
theorem KidsR.len {w : World} {lo hi : Nat} {s : Value} {ks : List Ex} (h : KidsR w lo hi s ks) : ∃ a cap, s = .slice a ks.length cap ∧ ks.length ≤ 9223372036854775807 := by
  cases h with
  | nil a cap => exact ⟨a, cap, rfl, by simp⟩
  | cons b o cap ks S h0 hlo hhi hcap hmax => exact ⟨_, cap, rfl, by omega⟩

/-- element k of a slice that reads: where it lies -/
theorem KidsR.at {w : World} {lo hi : Nat} {a : Option Addr} {n cap : Nat} {ks : List Ex} (h : KidsR w lo hi (.slice a n cap) ks) (k : Nat) (hk : k < ks.length) :
    ∃ b o s, a = some ⟨b, o, none⟩ ∧ lo ≤ b ∧ b < hi ∧ w.cell? ⟨b, o + k * 3, none⟩ = some (.int .i64 ks[k].kind) ∧ w.cell? ⟨b, o + k * 3 + 1, none⟩ = some (.int .i64 ks[k].val) ∧ w.cell? ⟨b, o + k * 3 + 2, none⟩ = some s ∧ KidsR w lo hi s ks[k].kids := by
  cases h with
  | nil a cap => simp at hk
  | cons b o cap ks S h0 hlo hhi hcap hmax c0 c1 c2 r => exact ⟨b, o, S k, rfl, hlo, hhi, c0 k hk, c1 k hk, c2 k hk, r k hk⟩

/-- the first j elements of the row b are those of l; what they lead to lies behind b -/
structure Filled (w : World) (b : Nat) (l : List Ex) (j : Nat) : Prop where
  ex : ∃ S : Nat → Value, ∀ i (h : i < l.length), i < j → w.cell? ⟨b, i * 3, none⟩ = some (.int .i64 l[i].kind) ∧ w.cell? ⟨b, i * 3 + 1, none⟩ = some (.int .i64 l[i].val) ∧ w.cell? ⟨b, i * 3 + 2, none⟩ = some (S i) ∧
    KidsR w (b + 1) w.heap.size (S i) l[i].kids

theorem Filled.zero (w : World) (b : Nat) (l : List Ex) : Filled w b l 0 := ⟨fun _ => .nilIface, fun i _ h => absurd h (Nat.not_lt_zero _)⟩

theorem Filled.kp {w w' : World} {b : Nat} {l : List Ex} {j : Nat} (h : Filled w b l j) (hb : b < w.heap.size) {T : Nat → Prop} (k : Kp T w w') (ht : ∀ k, T k → k < b) : Filled w' b l j := by
  obtain ⟨S, hS⟩ := h.ex
  refine ⟨S, fun i hi hij => ?_⟩
  obtain ⟨a, b', c, d⟩ := hS i hi hij
  have hc : ∀ j, w'.cell? ⟨b, j, none⟩ = w.cell? ⟨b, j, none⟩ := fun j => k.cell hb (fun s => by have := ht _ s; omega) j
  exact ⟨by rw [hc]; exact a, by rw [hc]; exact b', by rw [hc]; exact c, (d.kp k (Nat.le_refl _) (fun k s => .inl (by have := ht _ s; omega))).mono (Nat.le_refl _) k.size⟩
theorem Filled.new {w w' : World} {b : Nat} {l : List Ex} {j : Nat} (h : Filled w b l j) (hb : b < w.heap.size) (k : New w w') : Filled w' b l j := h.kp hb k (fun _ f => f.elim)

theorem Filled.step {w : World} {b : Nat} {T : TypeId} {l : List Ex} {j : Nat} (h : Filled w b l j) (hr : Row w b (l.length * 3) T) (hj : j < l.length) {s : Value} {k v : Int} (hk : k = l[j].kind) (hv : v = l[j].val) (hs : KidsR w (b + 1) w.heap.size s l[j].kids) :
    Filled (((w.setCell ⟨b, j * 3, none⟩ (.int .i64 k)).setCell ⟨b, j * 3 + 1, none⟩ (.int .i64 v)).setCell ⟨b, j * 3 + 2, none⟩ s) b l (j + 1) := by
  subst hk; subst hv
  obtain ⟨S, hS⟩ := h.ex
  obtain ⟨x0, h0⟩ := hr.cell (j * 3) (by omega)
  obtain ⟨x1, h1⟩ := hr.cell (j * 3 + 1) (by omega)
  obtain ⟨x2, h2⟩ := hr.cell (j * 3 + 2) (by omega)
  have ne : ∀ {p q : Nat}, p ≠ q → (⟨b, p, none⟩ : Addr) ≠ ⟨b, q, none⟩ := fun hpq e => hpq (Addr.mk.inj e).2.1
  have K : ∀ {s : Value} {ks : List Ex}, KidsR w (b + 1) w.heap.size s ks → KidsR (((w.setCell ⟨b, j * 3, none⟩ (.int .i64 l[j].kind)).setCell ⟨b, j * 3 + 1, none⟩ (.int .i64 l[j].val)).setCell ⟨b, j * 3 + 2, none⟩ s) (b + 1) (((w.setCell ⟨b, j * 3, none⟩ (.int .i64 l[j].kind)).setCell ⟨b, j * 3 + 1, none⟩ (.int .i64 l[j].val)).setCell ⟨b, j * 3 + 2, none⟩ s).heap.size s ks := fun h => by
    simp only [World.size_setCell]
    exact ((h.set (.inl (by omega)) _ _).set (.inl (by omega)) _ _).set (.inl (by omega)) _ _
  have K' : ∀ {s' : Value} {ks : List Ex}, KidsR w (b + 1) w.heap.size s' ks → KidsR (((w.setCell ⟨b, j * 3, none⟩ (.int .i64 l[j].kind)).setCell ⟨b, j * 3 + 1, none⟩ (.int .i64 l[j].val)).setCell ⟨b, j * 3 + 2, none⟩ s) (b + 1) (((w.setCell ⟨b, j * 3, none⟩ (.int .i64 l[j].kind)).setCell ⟨b, j * 3 + 1, none⟩ (.int .i64 l[j].val)).setCell ⟨b, j * 3 + 2, none⟩ s).heap.size s' ks := fun h => by
    simp only [World.size_setCell]
    exact ((h.set (.inl (by omega)) _ _).set (.inl (by omega)) _ _).set (.inl (by omega)) _ _
  refine ⟨fun i => if i = j then s else S i, fun i hi hij => ?_⟩
  by_cases e : i = j
  · subst e
    refine ⟨?_, ?_, ?_, ?_⟩
    · rw [World.cell?_setCell_other _ _ _ _ (ne (by omega)), World.cell?_setCell_other _ _ _ _ (ne (by omega))]
      exact World.cell?_setCell_same _ _ _ h0
    · rw [World.cell?_setCell_other _ _ _ _ (ne (by omega))]
      exact World.cell?_setCell_same _ _ _ ((World.cell?_setCell_other _ _ _ _ (ne (by omega))).trans h1)
    · simp only [if_true]
      exact World.cell?_setCell_same _ _ _ ((World.cell?_setCell_other _ _ _ _ (ne (by omega))).trans ((World.cell?_setCell_other _ _ _ _ (ne (by omega))).trans h2))
    · simp only [if_true]; exact K' hs
  · obtain ⟨a, b', c, d⟩ := hS i hi (by omega)
    simp only [e, if_false]
    refine ⟨?_, ?_, ?_, K' d⟩
    · rw [World.cell?_setCell_other _ _ _ _ (ne (by omega)), World.cell?_setCell_other _ _ _ _ (ne (by omega)), World.cell?_setCell_other _ _ _ _ (ne (by omega))]; exact a
    · rw [World.cell?_setCell_other _ _ _ _ (ne (by omega)), World.cell?_setCell_other _ _ _ _ (ne (by omega)), World.cell?_setCell_other _ _ _ _ (ne (by omega))]; exact b'
    · rw [World.cell?_setCell_other _ _ _ _ (ne (by omega)), World.cell?_setCell_other _ _ _ _ (ne (by omega)), World.cell?_setCell_other _ _ _ _ (ne (by omega))]; exact c

theorem Filled.done {w : World} {b : Nat} {l : List Ex} (h : Filled w b l l.length) (hb : b < w.heap.size) (hm : l.length ≤ 9223372036854775807) : KidsR w b w.heap.size (.slice (some ⟨b, 0, none⟩) l.length l.length) l := by
  obtain ⟨S, hS⟩ := h.ex
  cases l with
  | nil => exact .nil _ _
  | cons e es =>
    exact .cons b 0 _ (e :: es) S (by simp) (Nat.le_refl _) hb (Nat.le_refl _) hm (fun i hi => by simpa using (hS i hi hi).1) (fun i hi => by simpa using (hS i hi hi).2.1) (fun i hi => by simpa using (hS i hi hi).2.2.1)
      (fun i hi => (hS i hi hi).2.2.2.mono (Nat.le_succ _) (Nat.le_refl _))

end Go.Proofs.YtckikiaockkmbaaDoor

/- Statements as trees, and how a slice of statements in memory reads as a list of them. No program in sight; no conditions. -/
namespace Go.Proofs.YtckikiaockkmbaaDoor
open Go.RowKit Kit
set_option linter.unusedVariables false

/-- a statement -/
inductive St where
  | node (kind target : Int) (index value : Ex) (count : Int) (body els : List St)

namespace St
def kind : St → Int | node k _ _ _ _ _ _ => k
def target : St → Int | node _ t _ _ _ _ _ => t
def index : St → Ex | node _ _ i _ _ _ _ => i
def value : St → Ex | node _ _ _ v _ _ _ => v
def count : St → Int | node _ _ _ _ c _ _ => c
def body : St → List St | node _ _ _ _ _ b _ => b
def els : St → List St | node _ _ _ _ _ _ e => e
mutual
/-- what the laws count: a statement is one, and so is each operand of its expressions -/
def size : St → Nat | node _ _ i v _ b e => Ex.sizes i.kids + Ex.sizes v.kids + sizes b + sizes e + 1
def sizes : List St → Nat | [] => 0 | s :: l => size s + sizes l
end
mutual
def same : St → St → Bool
  | node k t i v c b e, node k' t' i' v' c' b' e' => k == k' && t == t' && Ex.same i i' && Ex.same v v' && c == c' && sames b b' && sames e e'
def sames : List St → List St → Bool
  | [], [] => true
  | s :: l, t :: m => same s t && sames l m
  | _, _ => false
end
theorem size_eq (s : St) : s.size = Ex.sizes s.index.kids + Ex.sizes s.value.kids + sizes s.body + sizes s.els + 1 := by cases s; rfl
theorem size_pos (s : St) : 1 ≤ s.size := by have := size_eq s; omega
theorem length_sizes : ∀ l : List St, l.length ≤ sizes l
  | [] => by simp [sizes]
  | e :: es => by have := length_sizes es; have := size_pos e; simp [sizes]; omega
theorem sizes_get : ∀ (l : List St) (i : Nat) (h : i < l.length), l[i].size ≤ sizes l
  | e :: es, 0, _ => by simp [sizes]
  | e :: es, i + 1, h => by have := sizes_get es i (by simpa using h); simp [sizes]; omega
theorem same_eq (s t : St) : same s t = (s.kind == t.kind && s.target == t.target && Ex.same s.index t.index && Ex.same s.value t.value && s.count == t.count && sames s.body t.body && sames s.els t.els) := by cases s; cases t; rfl
theorem sames_length : ∀ (l m : List St), sames l m = true → l.length = m.length
  | [], [], _ => rfl
  | e :: es, f :: fs, h => by
    simp only [sames, Bool.and_eq_true] at h
    simp [sames_length es fs h.2]
  | [], _ :: _, h => by simp [sames] at h
  | _ :: _, [], h => by simp [sames] at h
theorem sames_nil : sames [] [] = true := by simp [sames]
theorem sames_drop (l m : List St) (k : Nat) (h : k < l.length) (h' : k < m.length) : sames (l.drop k) (m.drop k) = (same l[k] m[k] && sames (l.drop (k + 1)) (m.drop (k + 1))) := by
  rw [List.drop_eq_getElem_cons h, List.drop_eq_getElem_cons h']; rfl
mutual
theorem same_refl : ∀ s : St, same s s = true | node k t i v c b e => by simp [same, sames_refl b, sames_refl e, Ex.same_refl]
theorem sames_refl : ∀ l : List St, sames l l = true | [] => by simp [sames] | e :: es => by simp [sames, same_refl e, sames_refl es]
end
end St

/-- THE SLICE VALUE s READS IN w AS THE LIST l; all its blocks lie in lo .. hi-1 -/
inductive StsR (w : World) (lo hi : Nat) : Value → List St → Prop
  | nil (a : Option Addr) (cap : Nat) : StsR w lo hi (.slice a 0 cap) []
  | cons (b o cap : Nat) (l : List St) (SI SV SB SE : Nat → Value) (h0 : 0 < l.length) (hlo : lo ≤ b) (hhi : b < hi) (hcap : l.length ≤ cap) (hmax : cap ≤ 9223372036854775807)
      (c0 : ∀ i (h : i < l.length), w.cell? ⟨b, o + i * 11, none⟩ = some (.int .i64 l[i].kind))
      (c1 : ∀ i (h : i < l.length), w.cell? ⟨b, o + i * 11 + 1, none⟩ = some (.int .i64 l[i].target))
      (c2 : ∀ i (h : i < l.length), w.cell? ⟨b, o + i * 11 + 2, none⟩ = some (.int .i64 l[i].index.kind))
      (c3 : ∀ i (h : i < l.length), w.cell? ⟨b, o + i * 11 + 3, none⟩ = some (.int .i64 l[i].index.val))
      (c4 : ∀ i (h : i < l.length), w.cell? ⟨b, o + i * 11 + 4, none⟩ = some (SI i))
      (c5 : ∀ i (h : i < l.length), w.cell? ⟨b, o + i * 11 + 5, none⟩ = some (.int .i64 l[i].value.kind))
      (c6 : ∀ i (h : i < l.length), w.cell? ⟨b, o + i * 11 + 6, none⟩ = some (.int .i64 l[i].value.val))
      (c7 : ∀ i (h : i < l.length), w.cell? ⟨b, o + i * 11 + 7, none⟩ = some (SV i))
      (c8 : ∀ i (h : i < l.length), w.cell? ⟨b, o + i * 11 + 8, none⟩ = some (.int .i64 l[i].count))
      (c9 : ∀ i (h : i < l.length), w.cell? ⟨b, o + i * 11 + 9, none⟩ = some (SB i))
      (c10 : ∀ i (h : i < l.length), w.cell? ⟨b, o + i * 11 + 10, none⟩ = some (SE i))
      (ri : ∀ i (h : i < l.length), KidsR w lo hi (SI i) l[i].index.kids) (rv : ∀ i (h : i < l.length), KidsR w lo hi (SV i) l[i].value.kids)
      (rb : ∀ i (h : i < l.length), StsR w lo hi (SB i) l[i].body) (re : ∀ i (h : i < l.length), StsR w lo hi (SE i) l[i].els) : StsR w lo hi (.slice (some ⟨b, o, none⟩) l.length cap) l

namespace StsR
variable {w w' : World} {lo hi lo' hi' : Nat} {s : Value} {l : List St}
theorem keep (h : StsR w lo hi s l) (hk : ∀ k, lo ≤ k → k < hi → w'.heap[k]? = w.heap[k]?) : StsR w' lo hi s l := by
  induction h with
  | nil a cap => exact .nil a cap
  | cons b o cap l SI SV SB SE h0 hlo hhi hcap hmax c0 c1 c2 c3 c4 c5 c6 c7 c8 c9 c10 ri rv rb re ihb ihe =>
    have hc : ∀ j, w'.cell? ⟨b, j, none⟩ = w.cell? ⟨b, j, none⟩ := fun j => World.cell?_of_block (w := w) (hk b hlo hhi)
    exact .cons b o cap l SI SV SB SE h0 hlo hhi hcap hmax (fun i h => by rw [hc]; exact c0 i h) (fun i h => by rw [hc]; exact c1 i h) (fun i h => by rw [hc]; exact c2 i h) (fun i h => by rw [hc]; exact c3 i h)
      (fun i h => by rw [hc]; exact c4 i h) (fun i h => by rw [hc]; exact c5 i h) (fun i h => by rw [hc]; exact c6 i h) (fun i h => by rw [hc]; exact c7 i h) (fun i h => by rw [hc]; exact c8 i h)
      (fun i h => by rw [hc]; exact c9 i h) (fun i h => by rw [hc]; exact c10 i h) (fun i h => (ri i h).keep hk) (fun i h => (rv i h).keep hk) ihb ihe
theorem mono (h : StsR w lo hi s l) (hl : lo' ≤ lo) (hh : hi ≤ hi') : StsR w lo' hi' s l := by
  induction h with
  | nil a cap => exact .nil a cap
  | cons b o cap l SI SV SB SE h0 hlo hhi hcap hmax c0 c1 c2 c3 c4 c5 c6 c7 c8 c9 c10 ri rv rb re ihb ihe =>
    exact .cons b o cap l SI SV SB SE h0 (by omega) (by omega) hcap hmax c0 c1 c2 c3 c4 c5 c6 c7 c8 c9 c10 (fun i h => (ri i h).mono hl hh) (fun i h => (rv i h).mono hl hh) ihb ihe
theorem kp (h : StsR w lo hi s l) {T : Nat → Prop} (hk : Kp T w w') (hh : hi ≤ w.heap.size) (ht : ∀ k, T k → k < lo ∨ hi ≤ k) : StsR w' lo hi s l :=
  h.keep fun k h1 h2 => hk.block k (by omega) (fun s => by have := ht k s; omega)
theorem new (h : StsR w lo hi s l) (hh : hi ≤ w.heap.size) (hk : New w w') : StsR w' lo hi s l := h.kp hk hh (fun _ f => f.elim)
theorem set (h : StsR w lo hi s l) {b : Nat} (hb : b < lo ∨ hi ≤ b) (o : Nat) (v : Value) : StsR (w.setCell ⟨b, o, none⟩ v) lo hi s l :=
  h.keep fun k h1 h2 => Below.heap_setCell _ _ _ _ (by show k ≠ b; omega)
theorem len (h : StsR w lo hi s l) : ∃ a cap, s = .slice a l.length cap ∧ l.length ≤ 9223372036854775807 := by
  cases h with
  | nil a cap => exact ⟨a, cap, rfl, by simp⟩
  | cons b o cap l SI SV SB SE h0 hlo hhi hcap hmax => exact ⟨_, cap, rfl, by omega⟩
/-- what element k is, and where it lies -/
structure At (w : World) (lo hi b o : Nat) (x : St) (i v bd el : Value) : Prop where
  hlo : lo ≤ b
  hhi : b < hi
  c0 : w.cell? ⟨b, o, none⟩ = some (.int .i64 x.kind)
  c1 : w.cell? ⟨b, o + 1, none⟩ = some (.int .i64 x.target)
  c2 : w.cell? ⟨b, o + 2, none⟩ = some (.int .i64 x.index.kind)
  c3 : w.cell? ⟨b, o + 3, none⟩ = some (.int .i64 x.index.val)
  c4 : w.cell? ⟨b, o + 4, none⟩ = some i
  c5 : w.cell? ⟨b, o + 5, none⟩ = some (.int .i64 x.value.kind)
  c6 : w.cell? ⟨b, o + 6, none⟩ = some (.int .i64 x.value.val)
  c7 : w.cell? ⟨b, o + 7, none⟩ = some v
  c8 : w.cell? ⟨b, o + 8, none⟩ = some (.int .i64 x.count)
  c9 : w.cell? ⟨b, o + 9, none⟩ = some bd
  c10 : w.cell? ⟨b, o + 10, none⟩ = some el
  ri : KidsR w lo hi i x.index.kids
  rv : KidsR w lo hi v x.value.kids
  rb : StsR w lo hi bd x.body
  re : StsR w lo hi el x.els
theorem elem {a : Option Addr} {n cap : Nat} (h : StsR w lo hi (.slice a n cap) l) (k : Nat) (hk : k < l.length) : ∃ b o i v bd el, a = some ⟨b, o, none⟩ ∧ At w lo hi b (o + k * 11) l[k] i v bd el := by
  cases h with
  | nil a cap => simp at hk
  | cons b o cap l SI SV SB SE h0 hlo hhi hcap hmax c0 c1 c2 c3 c4 c5 c6 c7 c8 c9 c10 ri rv rb re =>
    exact ⟨b, o, SI k, SV k, SB k, SE k, rfl, ⟨hlo, hhi, c0 k hk, c1 k hk, c2 k hk, c3 k hk, c4 k hk, c5 k hk, c6 k hk, c7 k hk, c8 k hk, c9 k hk, c10 k hk, ri k hk, rv k hk, rb k hk, re k hk⟩⟩
end StsR
theorem StsR.At.new {w w' : World} {lo hi b o : Nat} {x : St} {i v bd el : Value} (h : StsR.At w lo hi b o x i v bd el) (hh : hi ≤ w.heap.size) (k : New w w') : StsR.At w' lo hi b o x i v bd el := by
  have hc : ∀ j, w'.cell? ⟨b, j, none⟩ = w.cell? ⟨b, j, none⟩ := fun j => k.cell (by have := h.hhi; omega) (fun f => f) j
  exact ⟨h.hlo, h.hhi, (hc _).trans h.c0, (hc _).trans h.c1, (hc _).trans h.c2, (hc _).trans h.c3, (hc _).trans h.c4, (hc _).trans h.c5, (hc _).trans h.c6, (hc _).trans h.c7, (hc _).trans h.c8, (hc _).trans h.c9, (hc _).trans h.c10,
    h.ri.new hh k, h.rv.new hh k, h.rb.new hh k, h.re.new hh k⟩
end Go.Proofs.YtckikiaockkmbaaDoor

/- Contracts of the laws' own helpers on flat slices of ints: sz, to, eq, mark, held. -/
namespace Go.Proofs.YtckikiaockkmbaaDoor.LawF
open Go.RowKit Kit
set_option linter.unusedVariables false

theorem szIntS (w : World) (a : Option Addr) (n cap : Nat) (left : Int) (hn : n ≤ 9223372036854775807) (h0 : 0 ≤ left) (h1 : left ≤ 1048576) :
    Calls Tryd.prog 26 #[.slice a n cap, .int .i64 left] w fun e w' => e = .returned (.int .i64 (szOf left n)) ∧ w = w' := by
  by_cases h : left < n
  · have H := Lib.hid (szOf_lo h)
    go_enter Tryd.func26, Tryd.ntmps26
    go_wp2
    go_ret
    exact ⟨retI H.out.symm, rfl⟩
  · have H := Lib.hid (szOf_hi (left := left) (n := n) (by omega))
    go_enter Tryd.func26, Tryd.ntmps26
    go_wp2
    go_ret
    exact ⟨retI H.out.symm, rfl⟩

theorem infoI : (Tryd.prog.info? 3).map (fun i => (i.zero, i.size, i.bytes)) = some (some (.int .i64 0), 1, 8) := by kernel_rfl
set_option maxHeartbeats 400000 in
theorem toIntS (w : World) (lo hi : Nat) (s : Value) (xs : List Int) (hs : IntsR w lo hi s xs) (h1 : hi ≤ w.heap.size) (hm : xs.length ≤ 1048576) :
    Calls Tryd.prog 31 #[s] w fun e w' => ∃ v, e = .returned v ∧ New w w' ∧ OwnF 1 encI w' w.heap.size 3 v xs := by
  obtain ⟨a, c, rfl, hl1⟩ := hs.len
  have hmk := run_mk (P := Tryd.prog) _ _ _ _ _ Tryd.underlying29 infoI xs.length (by omega) (by omega)
  go_enter Tryd.func31, Tryd.ntmps31
  go_wp2_with fail
  clear hmk
  have hR : RowF 1 encI (w.alloc (.cells (mkCells (.int .i64 0) 1 xs.length) 3)) w.heap.size 3 xs 0 := RowF.zero _ _
  have hA : New w (w.alloc (.cells (mkCells (.int .i64 0) 1 xs.length) 3)) := (Kp.refl _ _).alloc _
  generalize w.alloc (.cells (mkCells (.int .i64 0) 1 xs.length) 3) = wA at *
  go_loopw [4] (fun i wr => ∃ j : Nat, j ≤ xs.length ∧ i = .int .i64 j ∧ New w wr ∧ RowF 1 encI wr w.heap.size 3 xs j) (fun i _ => xs.length - (intOf i).toNat)
  case atStart => exact ⟨0, Nat.zero_le _, rfl, hA, hR⟩
  case round =>
    obtain ⟨j, hj, rfl, hN, hrow⟩ := hrel
    clear hA hR
    by_cases hlt : j < xs.length
    · obtain ⟨b, o, rfl, hb1, hb2, c0⟩ := hs.at j hlt
      have g0 := (hN.cell (b := b) (by omega) (fun f => f) (o + j)).trans c0
      obtain ⟨x0, d0⟩ := hrow.row.cell j (by omega)
      have f0 := hrow.row.free j
      clear c0
      go_wp2
      go_roundw
      case rel => exact ⟨j + 1, by omega, by go_num, hN.setCell (.inr (Nat.le_refl _)) _, hrow.step1 hlt rfl⟩
      case measure => simp [intOf]; omega
    · have hge : xs.length ≤ j := by omega
      have hF : RowF 1 encI wr w.heap.size 3 xs xs.length := by
        have : j = xs.length := by omega
        rw [← this]; exact hrow
      clear hrow
      go_wp2
      go_ret
      exact ⟨_, rfl, hN, hF.own (by unfold maxLen; omega)⟩

set_option maxHeartbeats 400000 in
theorem eqIntS (w : World) (lo hi lo' hi' : Nat) (s t : Value) (xs ys : List Int) (hs : IntsR w lo hi s xs) (ht : IntsR w lo' hi' t ys) :
    Calls Tryd.prog 36 #[s, t] w fun e w' => e = .returned (.bool (decide (xs = ys))) ∧ ∃ k, w' = w.drewN k := by
  obtain ⟨a, c, rfl, hl1⟩ := hs.len
  obtain ⟨a', c', rfl, hl2⟩ := ht.len
  by_cases hlen : xs.length = ys.length
  · have hL := Lib.hid hlen
    have hq3 : ((xs.length : Int) != (ys.length : Int)) = false := by simp [hlen]
    have hle : ys.length ≤ xs.length := by omega
    have hge : xs.length ≤ ys.length := by omega
    clear hlen
    go_enter Tryd.func36, Tryd.ntmps36
    go_wp2_with fail
    go_loopw [5] (fun i wr => ∃ j : Nat, j ≤ xs.length ∧ i = .int .i64 j ∧ (∃ k, wr = w.drewN k) ∧ Hid (decide (xs = ys) = decide (xs.drop j = ys.drop j))) (fun i _ => xs.length - (intOf i).toNat)
    case atStart => exact ⟨0, Nat.zero_le _, rfl, ⟨0, rfl⟩, Lib.hid rfl⟩
    case round =>
      obtain ⟨j, hj, rfl, ⟨k, rfl⟩, hD⟩ := hrel
      by_cases hlt : j < xs.length
      · obtain ⟨b, o, rfl, hb1, hb2, c0⟩ := hs.at j hlt
        obtain ⟨b', o', rfl, hb1', hb2', c0'⟩ := ht.at j (by omega)
        have hlt2 : j < ys.length := by omega
        have hD2 : Hid (decide (xs = ys) = (xs[j] == ys[j] && decide (xs.drop (j + 1) = ys.drop (j + 1)))) := Lib.hid (by
          rw [hD.out, List.drop_eq_getElem_cons hlt, List.drop_eq_getElem_cons hlt2]; simp only [List.cons.injEq, Bool.decide_and]; rfl)
        clear hD hs ht
        generalize xs[j] = x at *
        generalize ys[j] = y at *
        by_cases hxy : x = y
        · subst hxy
          go_wp2_with fail
          go_quiet (fail)
          go_wp2
          go_roundw
          case rel => exact ⟨j + 1, by omega, by go_num, ⟨_, rfl⟩, Lib.hid (by rw [hD2.out]; simp)⟩
          case measure => simp [intOf]; omega
        · have hb : (x != y) = true := by simp [hxy]
          have hb2 : (x == y) = false := by simp [hxy]
          have hfin := Lib.hid (show decide (xs = ys) = false by rw [hD2.out, hb2]; rfl)
          go_wp2_with fail
          go_quiet (fail)
          go_wp2
          go_ret
          exact ⟨retB hfin.out.symm, ⟨_, World.drewN_drewN _ _ _⟩⟩
      · have hfin := Lib.hid (show decide (xs = ys) = true by rw [hD.out, List.drop_of_length_le (by omega), List.drop_of_length_le (by have := hL.out; omega)]; rfl)
        have hge2 : xs.length ≤ j := by omega
        clear hD
        go_wp2
        go_ret
        exact ⟨retB hfin.out.symm, ⟨_, rfl⟩⟩
  · have hq : ((xs.length : Int) != (ys.length : Int)) = true := by simp; omega
    have hfin := Lib.hid (show decide (xs = ys) = false by
      rw [decide_eq_false_iff_not]; intro e; exact hlen (by rw [e]))
    clear hlen
    go_enter Tryd.func36, Tryd.ntmps36
    go_wp2
    go_ret
    exact ⟨retB hfin.out.symm, 0, rfl⟩

end Go.Proofs.YtckikiaockkmbaaDoor.LawF

/- szExpr, szExprS of laws: what is left of 'left' behind all nodes. Condition: left at most 2^20. -/
namespace Go.Proofs.YtckikiaockkmbaaDoor
open Go.RowKit Kit
set_option linter.unusedVariables false
theorem Ex.sizes_take_drop : ∀ (l : List Ex) (j : Nat), Ex.sizes l = Ex.sizes (l.take j) + Ex.sizes (l.drop j)
  | [], j => by simp [Ex.sizes]
  | e :: es, 0 => by simp [Ex.sizes]
  | e :: es, j + 1 => by have := Ex.sizes_take_drop es j; simp [Ex.sizes]; omega
theorem Ex.sizes_take_succ (l : List Ex) (j : Nat) (h : j < l.length) : Ex.sizes (l.take (j + 1)) = Ex.sizes (l.take j) + (Ex.sizes l[j].kids + 1) := by
  have h1 := Ex.sizes_take_drop (l.take (j + 1)) j
  rw [List.take_take, Nat.min_eq_left (Nat.le_succ j)] at h1
  rw [h1]; congr 1
  rw [List.take_succ_eq_append_getElem h, List.drop_append_of_le_length (by simp; omega), List.drop_of_length_le (by simp; omega)]
  simp [Ex.sizes, Ex.size_kids]
end Go.Proofs.YtckikiaockkmbaaDoor
namespace Go.Proofs.YtckikiaockkmbaaDoor.SzE
open Go.RowKit Kit
set_option linter.unusedVariables false

def Does (n : Nat) : Prop := ∀ (w : World) (lo hi : Nat) (s : Value) (l : List Ex) (left : Int), Ex.sizes l < n → KidsR w lo hi s l → hi ≤ w.heap.size → 0 ≤ left → left ≤ 1048576 →
  Calls Tryd.prog 28 #[s, .int .i64 left] w fun e w' => e = .returned (.int .i64 (szOf left (Ex.sizes l))) ∧ New w w'

theorem szExpr_step (n : Nat) (H : Does n) (w : World) (lo hi : Nat) (k v : Int) (s : Value) (l : List Ex) (left : Int) (hl : Ex.sizes l < n) (hs : KidsR w lo hi s l) (h1 : hi ≤ w.heap.size) (h0 : 0 ≤ left) (hm : left ≤ 1048576) :
    Calls Tryd.prog 12 #[.agg #[.int .i64 k, .int .i64 v, s], .int .i64 left] w fun e w' => e = .returned (.int .i64 (szOf left (Ex.sizes l))) ∧ New w w' := by
  have HH := Lib.hid H; clear H
  go_enter Tryd.func12, Tryd.ntmps12
  go_wp2_with fail
  refine (HH.out _ lo hi s l left hl (hs.new h1 ((Kp.refl _ _).alloc _)) (by simp; omega) h0 hm).mono ?_
  rintro e w1 ⟨rfl, hn⟩
  have hN : New w w1 := ((Kp.refl _ _).alloc _).trans hn
  by_cases hc : ((Ex.sizes l : Nat) : Int) ≤ left
  · have h2 : 0 ≤ szOf left (Ex.sizes l) := by rw [szOf_hi hc]; omega
    obtain ⟨q, hq⟩ : ∃ q, szOf left (Ex.sizes l) = q := ⟨_, rfl⟩
    rw [hq] at h2 ⊢
    have Hq := Lib.hid hq
    clear hq HH
    go_wp2
    go_ret
    exact ⟨retI Hq.out.symm, hN⟩
  · have e1 := szOf_lo (left := left) (n := Ex.sizes l) (by omega)
    rw [e1]
    have E1 := Lib.hid e1
    clear HH e1
    go_wp2
    go_ret
    exact ⟨retI E1.out.symm, hN⟩

set_option maxHeartbeats 1000000 in
theorem szExprS_step (n : Nat) (H : Does n) (w : World) (lo hi : Nat) (s : Value) (l : List Ex) (left : Int) (hl : Ex.sizes l ≤ n) (hs : KidsR w lo hi s l) (h1 : hi ≤ w.heap.size) (h0 : 0 ≤ left) (hm : left ≤ 1048576) :
    Calls Tryd.prog 28 #[s, .int .i64 left] w fun e w' => e = .returned (.int .i64 (szOf left (Ex.sizes l))) ∧ New w w' := by
  obtain ⟨a, c, rfl, hl1⟩ := hs.len
  have hlen := Ex.length_sizes l
  have HH := Lib.hid H; clear H
  by_cases hc0 : ((l.length : Nat) : Int) ≤ left
  · go_enter Tryd.func28, Tryd.ntmps28
    go_wp2_with fail
    go_loopw [1, 5] (fun q i wr => ∃ (j : Nat) (L : Int), j ≤ l.length ∧ i = .int .i64 j ∧ q = .int .i64 L ∧ 0 ≤ L ∧ L ≤ 1048576 ∧ New w wr ∧ Hid (L = left - l.length + j - (Ex.sizes (l.take j) : Nat))) (fun _ i _ => l.length - (intOf i).toNat)
    case atStart => exact ⟨0, _, Nat.zero_le _, rfl, rfl, by omega, by omega, Kp.refl _ _, Lib.hid (by simp [Ex.sizes])⟩
    case round =>
      obtain ⟨j, L, hj, rfl, rfl, hL0, hL1, hN, hL⟩ := hrel
      by_cases hlt : j < l.length
      · obtain ⟨b, o, s, rfl, hb1, hb2, c0, c1, c2, hs1⟩ := hs.at j hlt
        have g0 := (hN.cell (b := b) (by omega) (fun f => f) (o + j * 3)).trans c0
        have g1 := (hN.cell (b := b) (by omega) (fun f => f) (o + j * 3 + 1)).trans c1
        have g2 := (hN.cell (b := b) (by omega) (fun f => f) (o + j * 3 + 2)).trans c2
        have k1 : KidsR wr lo hi s l[j].kids := hs1.new h1 hN
        have hsz : Ex.sizes l[j].kids < n := by have := Ex.kids_get l j hlt; omega
        have ht := Ex.sizes_take_succ l j hlt
        have ht2 := Ex.sizes_take_drop l (j + 1)
        have ht3 := Ex.length_sizes (l.drop (j + 1))
        rw [List.length_drop] at ht3
        have hL2 := hL.out
        have hT := Lib.hid ht; have hT2 := Lib.hid ht2; have hT3 := Lib.hid ht3; have hLh := Lib.hid hL2
        clear c0 c1 c2 hs1 hs ht ht2 ht3 hL hL2
        generalize l[j] = x at *
        go_wp2_with fail
        refine (szExpr_step n HH.out _ lo hi _ _ _ _ L hsz k1 (by have := hN.size; omega) hL0 hL1).mono ?_
        rintro r w1 ⟨rfl, hn⟩
        have hN1 : New w w1 := hN.trans hn
        by_cases hc : ((Ex.sizes x.kids : Nat) : Int) ≤ L
        · rw [szOf_hi hc]
          have hq0 : 0 ≤ L - (Ex.sizes x.kids : Nat) := by omega
          have hq1 : L - ((Ex.sizes x.kids : Nat) : Int) ≤ 1048576 := by omega
          have hq2 := Lib.hid (show L - ((Ex.sizes x.kids : Nat) : Int) = left - l.length + (j + 1 : Nat) - (Ex.sizes (l.take (j + 1)) : Nat) by have := hLh.out; have := hT.out; omega)
          generalize L - ((Ex.sizes x.kids : Nat) : Int) = q at *
          clear hc g0 g1 g2 k1 hn hN
          go_wp2
          go_roundw
          case rel => exact ⟨j + 1, q, by omega, by go_num, rfl, hq0, hq1, hN1, hq2⟩
          case measure => simp [intOf]; omega
        · rw [szOf_lo (by omega)]
          have hfin := Lib.hid (szOf_lo (left := left) (n := Ex.sizes l) (by have := hLh.out; have := hT.out; have := hT2.out; have := hT3.out; omega))
          clear hc g0 g1 g2 k1 hn hN
          go_wp2
          go_ret
          exact ⟨retI hfin.out.symm, hN1⟩
      · have hge : l.length ≤ j := by omega
        have hfin := Lib.hid (show L = szOf left (Ex.sizes l) by
          have h := hL.out
          rw [List.take_of_length_le hge] at h
          have : j = l.length := by omega
          subst this
          rw [szOf_hi (by omega)]; omega)
        clear hL hs
        go_wp2
        go_ret
        exact ⟨retI hfin.out, hN⟩
  · have hfin := Lib.hid (szOf_lo (left := left) (n := Ex.sizes l) (by omega))
    go_enter Tryd.func28, Tryd.ntmps28
    go_wp2
    go_ret
    exact ⟨retI hfin.out.symm, Kp.refl _ _⟩

theorem does : ∀ n, Does n
  | 0 => fun w lo hi s l left hl => absurd hl (Nat.not_lt_zero _)
  | n + 1 => fun w lo hi s l left hl hs h1 h0 hm => szExprS_step n (does n) w lo hi s l left (Nat.le_of_lt_succ hl) hs h1 h0 hm
theorem szExpr (w : World) (lo hi : Nat) (k v : Int) (s : Value) (l : List Ex) (left : Int) (hs : KidsR w lo hi s l) (h1 : hi ≤ w.heap.size) (h0 : 0 ≤ left) (hm : left ≤ 1048576) :
    Calls Tryd.prog 12 #[.agg #[.int .i64 k, .int .i64 v, s], .int .i64 left] w fun e w' => e = .returned (.int .i64 (szOf left (Ex.sizes l))) ∧ New w w' :=
  szExpr_step _ (does _) w lo hi k v s l left (Nat.lt_succ_self _) hs h1 h0 hm
end Go.Proofs.YtckikiaockkmbaaDoor.SzE

/- What the program's validity is, in plain words: labels, declarations, values, memories, expressions, statements. No program in sight; no conditions. -/
namespace Go.Proofs.YtckikiaockkmbaaDoor.Val
open Go.RowKit Kit
set_option linter.unusedVariables false
def good (xs : List Int) : Bool := xs.all Lab.okL
def okV (x : Int) : Bool := Lab.inside x 0 255
def okVs (xs : List Int) : Bool := xs.all okV
def declB (xa xb : List Int) : Bool := decide (1 ≤ xa.length) && decide (xa.length ≤ 12) && decide (xb.length ≤ 2) && good xa && good xb
def rowB (a : List Int) : Bool := decide (a.length = 4) && okVs a
def fitB (nv na : Nat) (ya : List Int) (yb : List (List Int)) : Bool := decide (ya.length = nv) && decide (yb.length = na) && okVs ya && yb.all rowB
theorem good_bad {xs : List Int} {j : Nat} (h : j < xs.length) (hb : Lab.okL xs[j] = false) : good xs = false := by
  rw [good, List.all_eq_false]; exact ⟨_, List.getElem_mem h, by simp [hb]⟩
theorem good_take {xs : List Int} {j : Nat} (h : j < xs.length) : good (xs.take (j + 1)) = (good (xs.take j) && Lab.okL xs[j]) := by rw [List.take_succ_eq_append_getElem h]; simp only [good, List.all_append, List.all_cons, List.all_nil, Bool.and_true]
theorem okVs_bad {xs : List Int} {j : Nat} (h : j < xs.length) (hb : okV xs[j] = false) : okVs xs = false := by
  rw [okVs, List.all_eq_false]; exact ⟨_, List.getElem_mem h, by simp [hb]⟩
theorem okVs_take {xs : List Int} {j : Nat} (h : j < xs.length) : okVs (xs.take (j + 1)) = (okVs (xs.take j) && okV xs[j]) := by rw [List.take_succ_eq_append_getElem h]; simp only [okVs, List.all_append, List.all_cons, List.all_nil, Bool.and_true]
theorem all_bad {α : Type} {p : α → Bool} {xs : List α} {j : Nat} (h : j < xs.length) (hb : p xs[j] = false) : xs.all p = false := by
  rw [List.all_eq_false]; exact ⟨_, List.getElem_mem h, by simp [hb]⟩
theorem all_take {α : Type} {p : α → Bool} {xs : List α} {j : Nat} (h : j < xs.length) : (xs.take (j + 1)).all p = ((xs.take j).all p && p xs[j]) := by rw [List.take_succ_eq_append_getElem h]; simp only [List.all_append, List.all_cons, List.all_nil, Bool.and_true]

/-- expressions -/
def arity (k : Int) : Int := if k = 1 ∨ k = 2 then 0 else if k = 3 then 1 else if 4 ≤ k ∧ k ≤ 10 then 2 else if k = 11 then 3 else -1
def limit (nv na : Nat) (k : Int) : Int := if k = 1 then 256 else if k = 2 then nv else if k = 3 then na else 1
def atom (e : Ex) : Bool := e.kind == 1 || e.kind == 2
def atom0 : List Ex → Bool | [] => false | e :: _ => atom e
mutual
def shp (nv na : Nat) : Ex → Nat → Bool
  | .node k v ks, d => decide (1 ≤ d) && decide ((ks.length : Int) = arity k) && decide (0 ≤ v) && decide (v < limit nv na k) && shps nv na ks (d - 1) && (!(k == 3) || atom0 ks)
def shps (nv na : Nat) : List Ex → Nat → Bool
  | [], _ => true
  | e :: es, d => shp nv na e d && shps nv na es d
end
mutual
def cnt : Ex → Nat → Nat
  | .node _ _ ks, d => 1 + (if 0 < d then cnts ks (d - 1) else 0)
def cnts : List Ex → Nat → Nat
  | [], _ => 0
  | e :: es, d => cnt e d + cnts es d
end
mutual
theorem cnt_size (nv na : Nat) : ∀ (e : Ex) (d : Nat), shp nv na e d = true → cnt e d = e.size
  | .node k v ks, d, h => by
    simp only [shp, Bool.and_eq_true, decide_eq_true_eq] at h
    have h1 := cnts_size nv na ks (d - 1) h.1.2
    have h2 := h.1.1.1.1.1
    rw [cnt, Ex.size, if_pos (by omega), h1]; omega
theorem cnts_size (nv na : Nat) : ∀ (l : List Ex) (d : Nat), shps nv na l d = true → cnts l d = Ex.sizes l
  | [], _, _ => by simp [cnts, Ex.sizes]
  | e :: es, d, h => by
    simp only [shps, Bool.and_eq_true] at h
    rw [cnts, Ex.sizes, cnt_size nv na e d h.1, cnts_size nv na es d h.2]
end
theorem shps_bad (nv na : Nat) : ∀ (l : List Ex) (d j : Nat) (h : j < l.length), shp nv na l[j] d = false → shps nv na l d = false
  | e :: es, d, 0, _, hb => by simp only [List.getElem_cons_zero] at hb; simp [shps, hb]
  | e :: es, d, j + 1, h, hb => by simp only [List.getElem_cons_succ] at hb; simp [shps, shps_bad nv na es d j (by simpa using h) hb]
theorem shps_append (nv na : Nat) : ∀ (l m : List Ex) (d : Nat), shps nv na (l ++ m) d = (shps nv na l d && shps nv na m d)
  | [], m, d => by simp [shps]
  | e :: es, m, d => by simp [shps, shps_append nv na es m d, Bool.and_assoc]
theorem shps_take (nv na : Nat) {l : List Ex} {j : Nat} (d : Nat) (h : j < l.length) : shps nv na (l.take (j + 1)) d = (shps nv na (l.take j) d && shp nv na l[j] d) := by
  rw [List.take_succ_eq_append_getElem h, shps_append]; simp [shps]
theorem cnts_append : ∀ (l m : List Ex) (d : Nat), cnts (l ++ m) d = cnts l d + cnts m d
  | [], m, d => by simp [cnts]
  | e :: es, m, d => by simp [cnts, cnts_append es m d]; omega
theorem cnts_take {l : List Ex} {j : Nat} (d : Nat) (h : j < l.length) : cnts (l.take (j + 1)) d = cnts (l.take j) d + cnt l[j] d := by
  rw [List.take_succ_eq_append_getElem h, cnts_append]; simp [cnts]
mutual
theorem cnt_le : ∀ (e : Ex) (d : Nat), cnt e d ≤ e.size
  | .node k v ks, d => by
    have := cnts_le ks (d - 1)
    rw [cnt, Ex.size]; split <;> omega
theorem cnts_le : ∀ (l : List Ex) (d : Nat), cnts l d ≤ Ex.sizes l
  | [], _ => by simp [cnts]
  | e :: es, d => by have := cnt_le e d; have := cnts_le es d; simp [cnts, Ex.sizes]; omega
end
def right (nv na : Nat) (e : Ex) : Bool := shp nv na e 5 && decide (cnt e 5 ≤ 15)
theorem sizes_td : ∀ (l : List Ex) (j : Nat), Ex.sizes l = Ex.sizes (l.take j) + Ex.sizes (l.drop j)
  | [], j => by simp [Ex.sizes]
  | e :: es, 0 => by simp [Ex.sizes]
  | e :: es, j + 1 => by have := sizes_td es j; simp [Ex.sizes]; omega
/-- what scan finds: from count c on -/
def scanB (nv na : Nat) (e : Ex) (d c : Nat) : Bool := shp nv na e d && decide (c + e.size ≤ 15)
theorem right_scan (nv na : Nat) (e : Ex) : scanB nv na e 5 0 = right nv na e := by
  unfold scanB right
  cases h : shp nv na e 5
  · rfl
  · rw [cnt_size nv na e 5 h, Nat.zero_add]
theorem scan_bad (nv na d : Nat) {c m j : Nat} {l : List Ex} (h : j < l.length) (hp : scanB nv na l[j] d m = false) (hm : m = c + 1 + Ex.sizes (l.take j)) : (shps nv na l d && decide (c + (Ex.sizes l + 1) ≤ 15)) = false := by
  rcases Bool.and_eq_false_iff.1 hp with h1 | h1
  · rw [shps_bad nv na l d j h h1]; rfl
  · have h2 := of_decide_eq_false h1
    have h3 : Ex.sizes (l.take j) + l[j].size ≤ Ex.sizes l := by
      have e1 := sizes_td l (j + 1)
      have e2 : Ex.sizes (l.take (j + 1)) = Ex.sizes (l.take j) + l[j].size := by
        have := sizes_td (l.take (j + 1)) j
        rw [List.take_take, Nat.min_eq_left (Nat.le_succ j)] at this
        rw [this]; congr 1
        rw [List.take_succ_eq_append_getElem h, List.drop_append_of_le_length (by simp; omega), List.drop_of_length_le (by simp; omega)]
        simp [Ex.sizes]
      omega
    have h4 : decide (c + (Ex.sizes l + 1) ≤ 15) = false := by rw [decide_eq_false_iff_not]; omega
    rw [h4]; simp
def exprB (xa xb : List Int) (e : Ex) : Bool := declB xa xb && right xa.length xb.length e
end Go.Proofs.YtckikiaockkmbaaDoor.Val

/- szIntSS, toIntSS, eqIntSS of laws: lists of lists of ints. Condition: at most 2^20 elements. -/
namespace Go.Proofs.YtckikiaockkmbaaDoor
open Go.RowKit Kit
set_option linter.unusedVariables false
/-- how much a matrix takes -/
def msz : List (List Int) → Nat | [] => 0 | x :: l => x.length + 1 + msz l
/-- the first j rows lie in block b, their elements behind it -/
def FilledM (w : World) (b : Nat) (l : List (List Int)) (j : Nat) : Prop := ∃ S : Nat → Value, ∀ i (hi : i < l.length), i < j → w.cell? ⟨b, i, none⟩ = some (S i) ∧ IntsR w (b + 1) w.heap.size (S i) l[i]
namespace FilledM
theorem zero (w : World) (b : Nat) (l : List (List Int)) : FilledM w b l 0 := ⟨fun _ => .nilIface, fun i _ h => absurd h (Nat.not_lt_zero _)⟩
theorem new {w w' : World} {b : Nat} {l : List (List Int)} {j : Nat} (h : FilledM w b l j) (hb : b < w.heap.size) (k : New w w') : FilledM w' b l j := by
  obtain ⟨S, h⟩ := h
  exact ⟨S, fun i hi hj => ⟨by rw [k.cell hb (fun f => f)]; exact (h i hi hj).1, ((h i hi hj).2.new (Nat.le_refl _) k).mono (Nat.le_refl _) k.size⟩⟩
theorem step {w : World} {b : Nat} {T : TypeId} {l : List (List Int)} {j : Nat} (h : FilledM w b l j) (hr : Row w b (l.length * 1) T) (hj : j < l.length) {s : Value} (hs : IntsR w (b + 1) w.heap.size s l[j]) : FilledM (w.setCell ⟨b, j, none⟩ s) b l (j + 1) := by
  obtain ⟨S, h⟩ := h
  obtain ⟨cs, hh, hn⟩ := hr.is
  have hsz : (w.setCell ⟨b, j, none⟩ s).heap.size = w.heap.size := by simp
  refine ⟨fun i => if i = j then s else S i, fun i hi hij => ?_⟩
  have hc : (w.setCell ⟨b, j, none⟩ s).cell? ⟨b, i, none⟩ = (cs.setIfInBounds j s)[i]? := cell_of_heap (setCell_heap hh s) i
  rw [hsz]
  by_cases e : i = j
  · subst e
    have hz : i < cs.size := by omega
    simp only [↓reduceIte]
    refine ⟨by rw [hc, Array.getElem?_setIfInBounds, if_pos rfl, if_pos hz], hs.set (.inl (by omega)) _ _⟩
  · simp only [if_neg e]
    have h2 := h i hi (by omega)
    refine ⟨by rw [hc, Array.getElem?_setIfInBounds, if_neg (by omega), ← cell_of_heap hh i]; exact h2.1, h2.2.set (.inl (by omega)) _ _⟩
theorem done {w : World} {b : Nat} {l : List (List Int)} (h : FilledM w b l l.length) (hb : b < w.heap.size) (hm : l.length ≤ 9223372036854775807) : MatR w b w.heap.size (.slice (some ⟨b, 0, none⟩) l.length l.length) l := by
  obtain ⟨S, h⟩ := h
  by_cases h0 : 0 < l.length
  · exact .cons b 0 l.length l S h0 (Nat.le_refl _) hb (Nat.le_refl _) hm (fun i hi => by rw [Nat.zero_add]; exact (h i hi hi).1) (fun i hi => ((h i hi hi).2).mono (by omega) (Nat.le_refl _))
  · obtain rfl := List.eq_nil_of_length_eq_zero (by omega : l.length = 0)
    exact .nil _ _
end FilledM
end Go.Proofs.YtckikiaockkmbaaDoor
namespace Go.Proofs.YtckikiaockkmbaaDoor.MatF
open Go.RowKit Kit
set_option linter.unusedVariables false
end Go.Proofs.YtckikiaockkmbaaDoor.MatF

/- A matrix of the call's own: its row of slices, and each of its rows, in blocks of their own. No conditions but the lengths. -/
namespace Go.Proofs.YtckikiaockkmbaaDoor
open Go.RowKit Kit
set_option linter.unusedVariables false
def encV : Value → Nat → Value := fun v _ => v
/-- rows in blocks of their own, all of them apart -/
structure RowsO (w : World) (base : Nat) (T : TypeId) (vs : List Value) (l : List (List Int)) : Prop where
  len : vs.length = l.length
  own : ∀ i (h : i < vs.length) (h' : i < l.length), OwnF 1 encI w base T vs[i] l[i]
  apart : vs.Pairwise fun x y => ∀ b, x.ownBlock = some b → y.ownBlock ≠ some b
namespace RowsO
variable {w w' : World} {base : Nat} {T : TypeId} {vs : List Value} {l : List (List Int)}
theorem nil (w : World) (base : Nat) (T : TypeId) : RowsO w base T [] [] := ⟨rfl, fun i h => absurd h (Nat.not_lt_zero _), List.Pairwise.nil⟩
theorem mem (h : RowsO w base T vs l) {v : Value} (hv : v ∈ vs) : ∃ xs, OwnF 1 encI w base T v xs := by
  obtain ⟨i, hi, rfl⟩ := List.getElem_of_mem hv
  exact ⟨_, h.own i hi (by have := h.len; omega)⟩
theorem kp (h : RowsO w base T vs l) {S : Nat → Prop} (k : Kp S w w') (hs : ∀ v ∈ vs, ∀ b, v.ownBlock = some b → ¬ S b) : RowsO w' base T vs l :=
  ⟨h.len, fun i hi h' => (h.own i hi h').kp k (hs _ (List.getElem_mem hi)), h.apart⟩
theorem new (h : RowsO w base T vs l) (k : New w w') : RowsO w' base T vs l := h.kp k (fun _ _ _ _ f => f)
theorem mono (h : RowsO w base T vs l) {base' : Nat} (hb : base' ≤ base) : RowsO w base' T vs l := ⟨h.len, fun i hi h' => (h.own i hi h').mono hb, h.apart⟩
/-- one more row, of a block that the call before did not know -/
theorem snoc (h : RowsO w base T vs l) (k : New w w') (hb : base ≤ w.heap.size) {v : Value} {x : List Int} (hv : OwnF 1 encI w' w.heap.size T v x) : RowsO w' base T (vs ++ [v]) (l ++ [x]) := by
  have h1 := h.new k
  refine ⟨by simp [h.len], fun i hi h' => ?_, ?_⟩
  · by_cases e : i < vs.length
    · have e2 : i < l.length := by have := h.len; omega
      rw [List.getElem_append_left e, List.getElem_append_left e2]; exact h1.own i e e2
    · have e1 : i = vs.length := by simp at hi; omega
      subst e1
      have e3 : (vs ++ [v])[vs.length] = v := by simp
      have e4 : (l ++ [x])[vs.length] = x := by simp [h.len]
      rw [e3, e4]; exact hv.mono hb
  · rw [List.pairwise_append]
    refine ⟨h.apart, List.pairwise_singleton _ _, fun a ha c hc b hab hcb => ?_⟩
    rw [List.mem_singleton] at hc
    subst hc
    obtain ⟨xs, ho⟩ := h.mem ha
    have q1 := (ho.lt b hab).2
    have q2 := (hv.lt b hcb).1
    omega
/-- a row marked anew -/
theorem set (h : RowsO w base T vs l) {j : Nat} (hj : j < vs.length) (k : Kp (fun b => vs[j].ownBlock = some b) w w') {x : List Int} (hv : OwnF 1 encI w' base T vs[j] x) : RowsO w' base T vs (l.set j x) := by
  refine ⟨by simp [h.len], fun i hi h' => ?_, h.apart⟩
  have h2 : i < l.length := by simpa using h'
  by_cases e : j = i
  · subst e; rw [List.getElem_set_self]; exact hv
  · rw [List.getElem_set_ne e]
    refine (h.own i hi h2).kp k fun b hb hS => ?_
    rcases Nat.lt_or_ge j i with q | q
    · exact List.pairwise_iff_getElem.1 h.apart j i hj hi q b hS hb
    · exact List.pairwise_iff_getElem.1 h.apart i j hi hj (by omega) b hb hS
end RowsO
theorem FlR.below {α : Type} {n : Nat} {enc : α → Nat → Value} {w : World} {lo hi hi' : Nat} {v : Value} {xs : List α} (h : FlR n enc w lo hi v xs) (hb : ∀ b, v.ownBlock = some b → b < hi') : FlR n enc w lo hi' v xs := by
  cases h with
  | nil a cap => exact .nil _ _
  | cons b o cap xs h0 hlo hhi hcap hmax c => exact .cons b o cap xs h0 hlo (hb b (by simp [Value.ownBlock])) hcap hmax c
/-- a row of the call's own, below block hi -/
structure OwnR {α : Type} (n : Nat) (enc : α → Nat → Value) (w : World) (lo hi : Nat) (T : TypeId) (v : Value) (xs : List α) : Prop where
  own : OwnF n enc w lo T v xs
  top : ∀ b, v.ownBlock = some b → b < hi
namespace OwnR
variable {α : Type} {n : Nat} {enc : α → Nat → Value} {w w' : World} {lo hi : Nat} {T : TypeId} {v : Value} {xs : List α}
theorem of (h : OwnF n enc w lo T v xs) : OwnR n enc w lo w.heap.size T v xs := ⟨h, fun b hb => (h.lt b hb).2⟩
theorem reads (h : OwnR n enc w lo hi T v xs) : FlR n enc w lo hi v xs := h.own.reads.below h.top
theorem kp (h : OwnR n enc w lo hi T v xs) {S : Nat → Prop} (k : Kp S w w') (hs : ∀ b, S b → b < lo ∨ hi ≤ b) : OwnR n enc w' lo hi T v xs :=
  ⟨h.own.kp k (fun b hb hS => by have := h.own.lt b hb; have := h.top b hb; have := hs b hS; omega), h.top⟩
theorem new (h : OwnR n enc w lo hi T v xs) (hh : hi ≤ w.heap.size) (k : New w w') : OwnR n enc w' lo hi T v xs := h.kp k (fun _ f => f.elim)
theorem mono (h : OwnR n enc w lo hi T v xs) {lo' hi' : Nat} (h1 : lo' ≤ lo) (h2 : hi ≤ hi') : OwnR n enc w lo' hi' T v xs := ⟨h.own.mono h1, fun b hb => by have := h.top b hb; omega⟩
end OwnR
/-- a matrix of the call's own, in blocks lo .. hi - 1 -/
def MatO (w : World) (lo hi : Nat) (TO T : TypeId) (v : Value) (l : List (List Int)) : Prop := ∃ vs, OwnR 1 encV w lo hi TO v vs ∧ RowsO w lo T vs l ∧ (∀ x ∈ vs, ∀ b, x.ownBlock = some b → b < hi) ∧ ∀ x ∈ vs, ∀ b, v.ownBlock = some b → x.ownBlock ≠ some b
namespace MatO
variable {w w' : World} {lo hi : Nat} {TO T : TypeId} {v : Value} {l : List (List Int)}
theorem reads (h : MatO w lo hi TO T v l) : MatR w lo hi v l := by
  obtain ⟨vs, h1, h2, h3, _⟩ := h
  have hr := h1.reads
  have hl := h2.len
  cases hr with
  | nil a cap =>
    have e : l = [] := List.eq_nil_of_length_eq_zero (by simpa using hl.symm)
    subst e; exact .nil _ _
  | cons b o cap xs h0 hlo hhi hcap hmax c =>
    rw [hl]
    refine .cons b o cap l (fun i => vs.getD i .nilIface) (by omega) hlo hhi (by omega) hmax (fun i hi => ?_) (fun i hi => ?_)
    · have := c i (by omega) 0 (by omega)
      rw [Nat.mul_one, Nat.add_zero] at this
      rw [this, List.getD_eq_getElem?_getD, List.getElem?_eq_getElem (by omega)]; rfl
    · have := (h2.own i (by omega) hi).reads.below (h3 _ (List.getElem_mem (by omega)))
      rw [List.getD_eq_getElem?_getD, List.getElem?_eq_getElem (by omega)]; exact this
theorem mono (h : MatO w lo hi TO T v l) {lo' hi' : Nat} (hb : lo' ≤ lo) (ht : hi ≤ hi') : MatO w lo' hi' TO T v l := by
  obtain ⟨vs, h1, h2, h3, h4⟩ := h
  exact ⟨vs, h1.mono hb ht, h2.mono hb, fun x hx b hb => by have := h3 x hx b hb; omega, h4⟩
/-- blocks beside the matrix were turned -/
theorem kp (h : MatO w lo hi TO T v l) {S : Nat → Prop} (k : Kp S w w') (hs : ∀ b, S b → b < lo ∨ hi ≤ b) : MatO w' lo hi TO T v l := by
  obtain ⟨vs, h1, h2, h3, h4⟩ := h
  refine ⟨vs, h1.kp k hs, h2.kp k fun x hx b hb hS => ?_, h3, h4⟩
  obtain ⟨xs, ho⟩ := h2.mem hx
  have := ho.lt b hb; have := h3 x hx b hb; have := hs b hS; omega
theorem new (h : MatO w lo hi TO T v l) (hh : hi ≤ w.heap.size) (k : New w w') : MatO w' lo hi TO T v l := h.kp k (fun _ f => f.elim)
theorem of (vs : List Value) (h1 : OwnF 1 encV w lo TO v vs) (h2 : RowsO w lo T vs l) (h4 : ∀ x ∈ vs, ∀ b, v.ownBlock = some b → x.ownBlock ≠ some b) : MatO w lo w.heap.size TO T v l :=
  ⟨vs, OwnR.of h1, h2, fun x hx b hb => by obtain ⟨xs, ho⟩ := h2.mem hx; exact (ho.lt b hb).2, h4⟩
end MatO
/-- a matrix being filled: the row of slices lies in block b, the first j rows behind it -/
def FilledO (w : World) (b : Nat) (TO T : TypeId) (l : List (List Int)) (j : Nat) : Prop := ∃ vs, vs.length = l.length ∧ RowF 1 encV w b TO vs j ∧ RowsO w (b + 1) T (vs.take j) (l.take j)
namespace FilledO
variable {w w' : World} {b : Nat} {TO T : TypeId} {l : List (List Int)} {j : Nat}
theorem row (h : FilledO w b TO T l j) : Row w b (l.length * 1) TO := by
  obtain ⟨vs, h1, h2, _⟩ := h
  rw [← h1]; exact h2.row
theorem zero {w : World} (TO T : TypeId) (l : List (List Int)) (z : Value) : FilledO (w.alloc (.cells (mkCells z 1 l.length) TO)) w.heap.size TO T l 0 := by
  have := RowF.zero (n := 1) (enc := encV) (T := TO) (xs := List.replicate l.length z) w z
  rw [List.length_replicate] at this
  exact ⟨List.replicate l.length z, by simp, this, by simpa using RowsO.nil _ _ _⟩
theorem new (h : FilledO w b TO T l j) (k : New w w') : FilledO w' b TO T l j := by
  obtain ⟨vs, h1, h2, h3⟩ := h
  exact ⟨vs, h1, h2.new k, h3.new k⟩
/-- the row of the next call is stored -/
theorem step (h : FilledO w b TO T l j) (hj : j < l.length) (k : New w w') {v : Value} (hv : OwnF 1 encI w' w.heap.size T v l[j]) : FilledO (w'.setCell ⟨b, j, none⟩ v) b TO T l (j + 1) := by
  obtain ⟨vs, h1, h2, h3⟩ := h
  have hb := h2.row.lt
  have h4 := h3.snoc k (by omega) hv
  have hj' : j < vs.length := by omega
  have hs : Kp (fun x => x = b) w' (w'.setCell ⟨b, j, none⟩ v) := Kp.setCell (Kp.refl (fun x => x = b) w') (.inl rfl) v
  refine ⟨vs.set j v, by simpa using h1, ?_, ?_⟩
  · obtain ⟨cs, q1, q2, q3⟩ := (h2.new k).is
    have : RowF 1 encV w' b TO (vs.set j v) j := ⟨cs, q1, by simpa using q2, fun i hi hij t ht => by
      have := q3 i (by simpa using hi) hij t ht
      rw [List.getElem_set_ne (by omega)]; exact this⟩
    exact this.step1 (by simpa using hj') (by simp [encV])
  · have e1 : (vs.set j v).take (j + 1) = vs.take j ++ [v] := by
      rw [List.take_succ_eq_append_getElem (by simpa using hj'), List.take_set_of_le (Nat.le_refl _)]; simp
    rw [e1, List.take_succ_eq_append_getElem hj]
    exact h4.kp hs fun x hx c hc hS => by
      obtain ⟨xs, ho⟩ := h4.mem hx
      have := (ho.lt c hc).1
      omega
theorem done (h : FilledO w b TO T l l.length) (hm : l.length ≤ maxLen) : MatO w b w.heap.size TO T (.slice (some ⟨b, 0, none⟩) l.length l.length) l := by
  obtain ⟨vs, h1, h2, h3⟩ := h
  rw [List.take_of_length_le (by omega), List.take_of_length_le (Nat.le_refl _)] at h3
  rw [← h1] at h2 hm
  refine MatO.of vs (by rw [← h1]; exact h2.own hm) (h3.mono (by omega)) fun x hx c hc hxc => ?_
  obtain ⟨xs, ho⟩ := h3.mem hx
  have q := (ho.lt c hxc).1
  have : b = c := by simpa [Value.ownBlock] using hc
  omega
end FilledO
namespace MatO
open Kit
end MatO
end Go.Proofs.YtckikiaockkmbaaDoor

/- append of a whole row, or of one element, to a row of the call's own: at an operation, in a list, at a step of a region that draws; with the word where the new row lies. No program in sight. -/
namespace Go.Proofs.YtckikiaockkmbaaDoor
open Go.RowKit Kit
set_option linter.unusedVariables false
def cellsOf {α : Type} (n : Nat) (enc : α → Nat → Value) (l : List α) : List Value := (List.range (l.length * n)).map fun j => match l[j / n]? with | some x => enc x (j % n) | none => .nilIface
section
variable {α : Type} {n : Nat} {enc : α → Nat → Value}
variable {P : Program} {w : World}
/-- a block just laid is read as a row of one element -/
theorem FlR.one {b : Nat} {y : α} (hc : ∀ t, t < n → w.cell? ⟨b, t, none⟩ = some (enc y t)) : FlR n enc w b (b + 1) (.slice (some ⟨b, 0, none⟩) 1 1) [y] := by
  refine .cons b 0 1 [y] (by simp) (Nat.le_refl _) (by omega) (by simp) (by omega) fun i hi t ht => ?_
  obtain rfl : i = 0 := by simpa using hi
  simpa using hc t ht
end
/-- a matrix of the call's own, one row more: the row is new, then the row of slices is appended to -/
theorem MatO.grow {w : World} {lo : Nat} {TO T : TypeId} {v : Value} {l : List (List Int)} {hi : Nat} (h : MatO w lo hi TO T v l) (hlo : lo ≤ w.heap.size) :
    ∃ vs, OwnF 1 encV w lo TO v vs ∧ vs.length = l.length ∧ ∀ (w1 w2 : World) (v' r : Value) (x : List Int), New w w1 → OwnF 1 encI w1 w.heap.size T r x → Kp (fun k => v.ownBlock = some k) w1 w2 →
      (v'.ownBlock = v.ownBlock ∨ v'.ownBlock = some w1.heap.size) → OwnF 1 encV w2 lo TO v' (vs ++ [r]) → MatO w2 lo w2.heap.size TO T v' (l ++ [x]) := by
  obtain ⟨vs, h1, h2, h3, h4⟩ := h
  refine ⟨vs, h1.own, h2.len, fun w1 w2 v' r x k1 hr k2 hat hv' => ?_⟩
  have h2' := h2.snoc k1 hlo hr
  have hvb : ∀ b, v.ownBlock = some b → lo ≤ b ∧ b < w.heap.size := fun b hb => h1.own.lt b hb
  have hrb : ∀ b, r.ownBlock = some b → w.heap.size ≤ b ∧ b < w1.heap.size := fun b hb => hr.lt b hb
  refine MatO.of (vs ++ [r]) hv' (h2'.kp k2 ?_) ?_
  · intro y hy b hb hs
    rcases List.mem_append.1 hy with q | q
    · exact h4 y q b hs hb
    · rw [List.mem_singleton] at q
      subst q
      have := hvb b hs; have := hrb b hb; omega
  · intro y hy b hb hyb
    rcases hat with e | e
    · rw [e] at hb
      rcases List.mem_append.1 hy with q | q
      · exact h4 y q b hb hyb
      · rw [List.mem_singleton] at q
        subst q
        have := hvb b hb; have := hrb b hyb; omega
    · rw [e] at hb
      cases hb
      rcases List.mem_append.1 hy with q | q
      · obtain ⟨xs, ho⟩ := h2.mem q
        have := (ho.lt _ hyb).2; have := k1.size; omega
      · rw [List.mem_singleton] at q
        subst q
        have := hrb _ hyb; omega
theorem MatO.nil (w : World) (lo hi : Nat) (TO T : TypeId) : MatO w lo hi TO T (.slice none 0 0) [] :=
  ⟨[], ⟨OwnF.nil _ _ _, fun b hb => by simp [Value.ownBlock] at hb⟩, RowsO.nil _ _ _, fun x hx => by simp at hx, fun x hx => by simp at hx⟩
end Go.Proofs.YtckikiaockkmbaaDoor
