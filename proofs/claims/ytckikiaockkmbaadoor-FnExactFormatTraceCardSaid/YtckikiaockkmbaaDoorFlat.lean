/- Flat slices in memory (of ints, of bools, of structs of ints), slices of slices of ints: how they read, and new rows that are filled. No program in sight; no conditions. -/
import Derived.Test.YtckikiaockkmbaaDoorKit
namespace Go.Proofs.YtckikiaockkmbaaDoor
open Go.RowKit Kit
set_option linter.unusedVariables false

/-- THE SLICE VALUE s READS IN w AS THE LIST xs: n cells an element, cell t of x is enc x t; its block lies in lo .. hi-1 -/
inductive FlR {α : Type} (n : Nat) (enc : α → Nat → Value) (w : World) (lo hi : Nat) : Value → List α → Prop
  | nil (a : Option Addr) (cap : Nat) : FlR n enc w lo hi (.slice a 0 cap) []
  | cons (b o cap : Nat) (xs : List α) (h0 : 0 < xs.length) (hlo : lo ≤ b) (hhi : b < hi) (hcap : xs.length ≤ cap) (hmax : cap ≤ 9223372036854775807)
      (c : ∀ i (h : i < xs.length) t, t < n → w.cell? ⟨b, o + i * n + t, none⟩ = some (enc xs[i] t)) : FlR n enc w lo hi (.slice (some ⟨b, o, none⟩) xs.length cap) xs

namespace FlR
variable {α : Type} {n : Nat} {enc : α → Nat → Value} {w w' : World} {lo hi lo' hi' : Nat} {s : Value} {xs : List α}
theorem keep (h : FlR n enc w lo hi s xs) (hk : ∀ k, lo ≤ k → k < hi → w'.heap[k]? = w.heap[k]?) : FlR n enc w' lo hi s xs := by
  cases h with
  | nil a cap => exact .nil a cap
  | cons b o cap xs h0 hlo hhi hcap hmax c =>
    have hc : ∀ j, w'.cell? ⟨b, j, none⟩ = w.cell? ⟨b, j, none⟩ := fun j => World.cell?_of_block (w := w) (hk b hlo hhi)
    exact .cons b o cap xs h0 hlo hhi hcap hmax fun i h t ht => by rw [hc]; exact c i h t ht
theorem mono (h : FlR n enc w lo hi s xs) (hl : lo' ≤ lo) (hh : hi ≤ hi') : FlR n enc w lo' hi' s xs := by
  cases h with
  | nil a cap => exact .nil a cap
  | cons b o cap xs h0 hlo hhi hcap hmax c => exact .cons b o cap xs h0 (by omega) (by omega) hcap hmax c
theorem kp (h : FlR n enc w lo hi s xs) {T : Nat → Prop} (hk : Kp T w w') (hh : hi ≤ w.heap.size) (ht : ∀ k, T k → k < lo ∨ hi ≤ k) : FlR n enc w' lo hi s xs :=
  h.keep fun k h1 h2 => hk.block k (by omega) (fun s => by have := ht k s; omega)
theorem new (h : FlR n enc w lo hi s xs) (hh : hi ≤ w.heap.size) (hk : New w w') : FlR n enc w' lo hi s xs := h.kp hk hh (fun _ f => f.elim)
theorem set (h : FlR n enc w lo hi s xs) {b : Nat} (hb : b < lo ∨ hi ≤ b) (o : Nat) (v : Value) : FlR n enc (w.setCell ⟨b, o, none⟩ v) lo hi s xs :=
  h.keep fun k h1 h2 => Below.heap_setCell _ _ _ _ (by show k ≠ b; omega)
theorem len (h : FlR n enc w lo hi s xs) : ∃ a cap, s = .slice a xs.length cap ∧ xs.length ≤ 9223372036854775807 := by
  cases h with
  | nil a cap => exact ⟨a, cap, rfl, by simp⟩
  | cons b o cap xs h0 hlo hhi hcap hmax => exact ⟨_, cap, rfl, by omega⟩
theorem at' {a : Option Addr} {m cap : Nat} (h : FlR n enc w lo hi (.slice a m cap) xs) (k : Nat) (hk : k < xs.length) :
    ∃ b o, a = some ⟨b, o, none⟩ ∧ lo ≤ b ∧ b < hi ∧ ∀ t, t < n → w.cell? ⟨b, o + k * n + t, none⟩ = some (enc xs[k] t) := by
  cases h with
  | nil a cap => simp at hk
  | cons b o cap xs h0 hlo hhi hcap hmax c => exact ⟨b, o, rfl, hlo, hhi, c k hk⟩
/-- what the call owns reads so -/
theorem of_owns {base : Nat} {T : TypeId} {v : Value} {cells : List Value} (h : w.ownsRow base T n v xs.length cells) (hc : ∀ i (hi : i < xs.length) t, t < n → cells[i * n + t]? = some (enc xs[i] t)) : FlR n enc w base w.heap.size v xs := by
  rcases h.2 with ⟨rfl, h0⟩ | ⟨g, cap, cur, rfl, hg, hh, hn, hm, hs, ht⟩
  · have : xs = [] := List.eq_nil_of_length_eq_zero h0
    subst this
    exact .nil _ _
  · by_cases h0 : xs.length = 0
    · have : xs = [] := List.eq_nil_of_length_eq_zero h0
      subst this
      exact .nil _ _
    · refine .cons g 0 cap xs (by omega) hg (heap_lt hh) hn hm fun i hi t htn => ?_
      rw [cell_of_heap hh, Nat.zero_add, ← hc i hi t htn, ← ht, List.getElem?_take]
      have hlt : i * n + t < xs.length * n := by
        have : (i + 1) * n ≤ xs.length * n := Nat.mul_le_mul_right _ hi
        rw [Nat.add_mul] at this; omega
      simp [hlt]
end FlR

abbrev encI : Int → Nat → Value := fun x _ => .int .i64 x
abbrev encB : Bool → Nat → Value := fun x _ => .bool x
abbrev IntsR : World → Nat → Nat → Value → List Int → Prop := FlR 1 encI
abbrev BoolsR : World → Nat → Nat → Value → List Bool → Prop := FlR 1 encB
/-- an event: kind, value -/
abbrev Ev := Int × Int
def encE (e : Ev) : Nat → Value | 0 => .int .i64 e.1 | _ => .int .i64 e.2
abbrev EvsR : World → Nat → Nat → Value → List Ev → Prop := FlR 2 encE
/-- an instruction -/
structure Ins where
  op : Int
  a : Int
  b : Int
  c : Int
  d : Int
  deriving DecidableEq
def encN (x : Ins) : Nat → Value | 0 => .int .i64 x.op | 1 => .int .i64 x.a | 2 => .int .i64 x.b | 3 => .int .i64 x.c | _ => .int .i64 x.d
abbrev InssR : World → Nat → Nat → Value → List Ins → Prop := FlR 5 encN

theorem IntsR.at {w : World} {lo hi : Nat} {xs : List Int} {a : Option Addr} {m cap : Nat} (h : IntsR w lo hi (.slice a m cap) xs) (k : Nat) (hk : k < xs.length) :
    ∃ b o, a = some ⟨b, o, none⟩ ∧ lo ≤ b ∧ b < hi ∧ w.cell? ⟨b, o + k, none⟩ = some (.int .i64 xs[k]) := by
  obtain ⟨b, o, ha, h1, h2, c⟩ := h.at' k hk
  exact ⟨b, o, ha, h1, h2, by simpa using c 0 (by omega)⟩
theorem BoolsR.at {w : World} {lo hi : Nat} {xs : List Bool} {a : Option Addr} {m cap : Nat} (h : BoolsR w lo hi (.slice a m cap) xs) (k : Nat) (hk : k < xs.length) :
    ∃ b o, a = some ⟨b, o, none⟩ ∧ lo ≤ b ∧ b < hi ∧ w.cell? ⟨b, o + k, none⟩ = some (.bool xs[k]) := by
  obtain ⟨b, o, ha, h1, h2, c⟩ := h.at' k hk
  exact ⟨b, o, ha, h1, h2, by simpa using c 0 (by omega)⟩
theorem EvsR.at {w : World} {lo hi : Nat} {xs : List Ev} {a : Option Addr} {m cap : Nat} (h : EvsR w lo hi (.slice a m cap) xs) (k : Nat) (hk : k < xs.length) :
    ∃ b o, a = some ⟨b, o, none⟩ ∧ lo ≤ b ∧ b < hi ∧ w.cell? ⟨b, o + k * 2, none⟩ = some (.int .i64 xs[k].1) ∧ w.cell? ⟨b, o + k * 2 + 1, none⟩ = some (.int .i64 xs[k].2) := by
  obtain ⟨b, o, ha, h1, h2, c⟩ := h.at' k hk
  exact ⟨b, o, ha, h1, h2, c 0 (by omega), c 1 (by omega)⟩
theorem InssR.at {w : World} {lo hi : Nat} {xs : List Ins} {a : Option Addr} {m cap : Nat} (h : InssR w lo hi (.slice a m cap) xs) (k : Nat) (hk : k < xs.length) :
    ∃ b o, a = some ⟨b, o, none⟩ ∧ lo ≤ b ∧ b < hi ∧ w.cell? ⟨b, o + k * 5, none⟩ = some (.int .i64 xs[k].op) ∧ w.cell? ⟨b, o + k * 5 + 1, none⟩ = some (.int .i64 xs[k].a) ∧ w.cell? ⟨b, o + k * 5 + 2, none⟩ = some (.int .i64 xs[k].b) ∧
      w.cell? ⟨b, o + k * 5 + 3, none⟩ = some (.int .i64 xs[k].c) ∧ w.cell? ⟨b, o + k * 5 + 4, none⟩ = some (.int .i64 xs[k].d) := by
  obtain ⟨b, o, ha, h1, h2, c⟩ := h.at' k hk
  exact ⟨b, o, ha, h1, h2, c 0 (by omega), c 1 (by omega), c 2 (by omega), c 3 (by omega), c 4 (by omega)⟩

/-- a slice of slices of ints -/
inductive MatR (w : World) (lo hi : Nat) : Value → List (List Int) → Prop
  | nil (a : Option Addr) (cap : Nat) : MatR w lo hi (.slice a 0 cap) []
  | cons (b o cap : Nat) (xs : List (List Int)) (S : Nat → Value) (h0 : 0 < xs.length) (hlo : lo ≤ b) (hhi : b < hi) (hcap : xs.length ≤ cap) (hmax : cap ≤ 9223372036854775807)
      (c : ∀ i (h : i < xs.length), w.cell? ⟨b, o + i, none⟩ = some (S i)) (r : ∀ i (h : i < xs.length), IntsR w lo hi (S i) xs[i]) : MatR w lo hi (.slice (some ⟨b, o, none⟩) xs.length cap) xs
namespace MatR
variable {w w' : World} {lo hi lo' hi' : Nat} {s : Value} {xs : List (List Int)}
theorem keep (h : MatR w lo hi s xs) (hk : ∀ k, lo ≤ k → k < hi → w'.heap[k]? = w.heap[k]?) : MatR w' lo hi s xs := by
  cases h with
  | nil a cap => exact .nil a cap
  | cons b o cap xs S h0 hlo hhi hcap hmax c r =>
    have hc : ∀ j, w'.cell? ⟨b, j, none⟩ = w.cell? ⟨b, j, none⟩ := fun j => World.cell?_of_block (w := w) (hk b hlo hhi)
    exact .cons b o cap xs S h0 hlo hhi hcap hmax (fun i h => by rw [hc]; exact c i h) (fun i h => (r i h).keep hk)
theorem mono (h : MatR w lo hi s xs) (hl : lo' ≤ lo) (hh : hi ≤ hi') : MatR w lo' hi' s xs := by
  cases h with
  | nil a cap => exact .nil a cap
  | cons b o cap xs S h0 hlo hhi hcap hmax c r => exact .cons b o cap xs S h0 (by omega) (by omega) hcap hmax c (fun i h => (r i h).mono hl hh)
theorem kp (h : MatR w lo hi s xs) {T : Nat → Prop} (hk : Kp T w w') (hh : hi ≤ w.heap.size) (ht : ∀ k, T k → k < lo ∨ hi ≤ k) : MatR w' lo hi s xs :=
  h.keep fun k h1 h2 => hk.block k (by omega) (fun s => by have := ht k s; omega)
theorem new (h : MatR w lo hi s xs) (hh : hi ≤ w.heap.size) (hk : New w w') : MatR w' lo hi s xs := h.kp hk hh (fun _ f => f.elim)
theorem len (h : MatR w lo hi s xs) : ∃ a cap, s = .slice a xs.length cap ∧ xs.length ≤ 9223372036854775807 := by
  cases h with
  | nil a cap => exact ⟨a, cap, rfl, by simp⟩
  | cons b o cap xs S h0 hlo hhi hcap hmax => exact ⟨_, cap, rfl, by omega⟩
theorem at' {a : Option Addr} {m cap : Nat} (h : MatR w lo hi (.slice a m cap) xs) (k : Nat) (hk : k < xs.length) :
    ∃ b o s, a = some ⟨b, o, none⟩ ∧ lo ≤ b ∧ b < hi ∧ w.cell? ⟨b, o + k, none⟩ = some s ∧ IntsR w lo hi s xs[k] := by
  cases h with
  | nil a cap => simp at hk
  | cons b o cap xs S h0 hlo hhi hcap hmax c r => exact ⟨b, o, S k, rfl, hlo, hhi, c k hk, r k hk⟩
end MatR

/-- a new row of n cells an element, whose first j elements are those of xs -/
structure RowF {α : Type} (n : Nat) (enc : α → Nat → Value) (w : World) (b : Nat) (T : TypeId) (xs : List α) (j : Nat) : Prop where
  is : ∃ cs : Array Value, w.heap[b]? = some (.cells cs T (0, 0)) ∧ cs.size = xs.length * n ∧ ∀ i (h : i < xs.length), i < j → ∀ t, t < n → cs[i * n + t]? = some (enc xs[i] t)
namespace RowF
variable {α : Type} {n : Nat} {enc : α → Nat → Value} {w w' : World} {b : Nat} {T : TypeId} {xs : List α} {j : Nat}
theorem zero (w : World) (z : Value) : RowF n enc (w.alloc (.cells (mkCells z n xs.length) T)) w.heap.size T xs 0 := ⟨_, alloc_heap _ _, mkCells_size _ _ _, fun i _ h => absurd h (Nat.not_lt_zero _)⟩
theorem row (h : RowF n enc w b T xs j) : Row w b (xs.length * n) T := by obtain ⟨cs, h1, h2, _⟩ := h.is; exact ⟨cs, h1, h2⟩
theorem keep (h : RowF n enc w b T xs j) (hb : w'.heap[b]? = w.heap[b]?) : RowF n enc w' b T xs j := by obtain ⟨cs, h1, h2, h3⟩ := h.is; exact ⟨cs, hb.trans h1, h2, h3⟩
theorem new (h : RowF n enc w b T xs j) (k : New w w') : RowF n enc w' b T xs j := h.keep (k.block b h.row.lt (fun f => f))
theorem owns (h : RowF n enc w b T xs xs.length) (hm : xs.length ≤ maxLen) : ∃ cells, w.ownsRow b T n (.slice (some ⟨b, 0, none⟩) xs.length xs.length) xs.length cells ∧ ∀ i (hi : i < xs.length) t, t < n → cells[i * n + t]? = some (enc xs[i] t) := by
  obtain ⟨cs, h1, h2, h3⟩ := h.is
  refine ⟨cs.toList, ⟨by simpa using h2, .inr ⟨b, xs.length, cs, rfl, Nat.le_refl _, h1, Nat.le_refl _, hm, h2, ?_⟩⟩, fun i hi t ht => by simpa using h3 i hi hi t ht⟩
  rw [List.take_of_length_le (by simp [h2])]
theorem reads (h : RowF n enc w b T xs xs.length) (hm : xs.length ≤ maxLen) : FlR n enc w b w.heap.size (.slice (some ⟨b, 0, none⟩) xs.length xs.length) xs := by
  obtain ⟨cells, h1, h2⟩ := h.owns hm
  exact FlR.of_owns h1 h2
end RowF
theorem RowF.step1 {α : Type} {enc : α → Nat → Value} {w : World} {b : Nat} {T : TypeId} {xs : List α} {j : Nat} (h : RowF 1 enc w b T xs j) (hj : j < xs.length) {v : Value} (hv : v = enc xs[j] 0) : RowF 1 enc (w.setCell ⟨b, j, none⟩ v) b T xs (j + 1) := by
  subst hv
  obtain ⟨cs, h1, h2, h3⟩ := h.is
  refine ⟨_, setCell_heap h1 _, by simpa using h2, fun i hi hij t ht => ?_⟩
  obtain rfl : t = 0 := by omega
  simp only [Nat.mul_one, Nat.add_zero] at *
  rw [Array.getElem?_setIfInBounds]
  by_cases e : j = i
  · subst e; simp [h2, hj]
  · simp only [e, if_false]; exact (by simpa using h3 i hi (by omega) 0 (by omega))
theorem RowF.step2 {α : Type} {enc : α → Nat → Value} {w : World} {b : Nat} {T : TypeId} {xs : List α} {j : Nat} (h : RowF 2 enc w b T xs j) (hj : j < xs.length) {v u : Value} (hv : v = enc xs[j] 0) (hu : u = enc xs[j] 1) :
    RowF 2 enc ((w.setCell ⟨b, j * 2, none⟩ v).setCell ⟨b, j * 2 + 1, none⟩ u) b T xs (j + 1) := by
  subst hv; subst hu
  obtain ⟨cs, h1, h2, h3⟩ := h.is
  refine ⟨_, setCell_heap (setCell_heap h1 _) _, by simpa using h2, fun i hi hij t ht => ?_⟩
  rw [Array.getElem?_setIfInBounds, Array.getElem?_setIfInBounds]
  by_cases e : j = i
  · subst e
    match t, ht with
    | 0, _ => simp [h2]; omega
    | 1, _ => simp [h2]; omega
  · rw [if_neg (by omega), if_neg (by omega)]
    exact h3 i hi (by omega) t ht

theorem RowF.step5 {α : Type} {enc : α → Nat → Value} {w : World} {b : Nat} {T : TypeId} {xs : List α} {j : Nat} (h : RowF 5 enc w b T xs j) (hj : j < xs.length) {v0 v1 v2 v3 v4 : Value} (e0 : v0 = enc xs[j] 0) (e1 : v1 = enc xs[j] 1) (e2 : v2 = enc xs[j] 2) (e3 : v3 = enc xs[j] 3) (e4 : v4 = enc xs[j] 4) :
    RowF 5 enc (((((w.setCell ⟨b, j * 5, none⟩ v0).setCell ⟨b, j * 5 + 1, none⟩ v1).setCell ⟨b, j * 5 + 2, none⟩ v2).setCell ⟨b, j * 5 + 3, none⟩ v3).setCell ⟨b, j * 5 + 4, none⟩ v4) b T xs (j + 1) := by
  subst e0; subst e1; subst e2; subst e3; subst e4
  obtain ⟨cs, h1, h2, h3⟩ := h.is
  refine ⟨_, setCell_heap (setCell_heap (setCell_heap (setCell_heap (setCell_heap h1 _) _) _) _) _, by simpa using h2, fun i hi hij t ht => ?_⟩
  simp only [Array.getElem?_setIfInBounds, Array.size_setIfInBounds]
  by_cases e : j = i
  · subst e
    match t, ht with
    | 0, _ => simp [h2]; omega
    | 1, _ => simp [h2]; omega
    | 2, _ => simp [h2]; omega
    | 3, _ => simp [h2]; omega
    | 4, _ => simp [h2]; omega
  · rw [if_neg (by omega), if_neg (by omega), if_neg (by omega), if_neg (by omega), if_neg (by omega)]
    exact h3 i hi (by omega) t ht

/-- the call's own row, from base on: v holds the list xs -/
def OwnF {α : Type} (n : Nat) (enc : α → Nat → Value) (w : World) (base : Nat) (T : TypeId) (v : Value) (xs : List α) : Prop :=
  ∃ cells, w.ownsRow base T n v xs.length cells ∧ ∀ i (hi : i < xs.length) t, t < n → cells[i * n + t]? = some (enc xs[i] t)
namespace OwnF
variable {α : Type} {n : Nat} {enc : α → Nat → Value} {w w' : World} {base : Nat} {T : TypeId} {v : Value} {xs : List α}
theorem reads (h : OwnF n enc w base T v xs) : FlR n enc w base w.heap.size v xs := by obtain ⟨cells, h1, h2⟩ := h; exact FlR.of_owns h1 h2
theorem keep (h : OwnF n enc w base T v xs) (hk : ∀ k, v.ownBlock = some k → w'.heap[k]? = w.heap[k]?) : OwnF n enc w' base T v xs := by
  obtain ⟨cells, ⟨h1, h2⟩, h3⟩ := h
  refine ⟨cells, ⟨h1, ?_⟩, h3⟩
  rcases h2 with h2 | ⟨g, cap, cur, rfl, hb, hh, r⟩
  · exact .inl h2
  · exact .inr ⟨g, cap, cur, rfl, hb, by rw [hk g rfl]; exact hh, r⟩
theorem lt (h : OwnF n enc w base T v xs) : ∀ k, v.ownBlock = some k → base ≤ k ∧ k < w.heap.size := by obtain ⟨cells, h1, _⟩ := h; exact h1.lt
theorem kp (h : OwnF n enc w base T v xs) {S : Nat → Prop} (k : Kp S w w') (hs : ∀ b, v.ownBlock = some b → ¬ S b) : OwnF n enc w' base T v xs := h.keep fun b hb => k.block b (h.lt b hb).2 (hs b hb)
theorem new (h : OwnF n enc w base T v xs) (k : New w w') : OwnF n enc w' base T v xs := h.kp k (fun _ _ f => f)
theorem mono (h : OwnF n enc w base T v xs) {base' : Nat} (hb : base' ≤ base) : OwnF n enc w base' T v xs := by
  obtain ⟨cells, ⟨h1, h2⟩, h3⟩ := h
  refine ⟨cells, ⟨h1, ?_⟩, h3⟩
  rcases h2 with h2 | ⟨g, cap, cur, rfl, hb', r⟩
  · exact .inl h2
  · exact .inr ⟨g, cap, cur, rfl, by omega, r⟩
/-- carried over a call that turns other blocks -/
theorem rng (h : OwnF n enc w base T v xs) {S : Nat → Prop} (k : Kp S w w') {top : Nat} (ht : ∀ b, v.ownBlock = some b → b < top) (hs : ∀ b, S b → b < base ∨ top ≤ b) : OwnF n enc w' base T v xs :=
  h.kp k fun b hb sb => by have h1 := h.lt b hb; have h2 := ht b hb; have := hs b sb; omega
/-- nil, or a row of its own -/
theorem form (h : OwnF n enc w base T v xs) : (xs = [] ∧ v = .slice none 0 0) ∨ ∃ b cap cs, v = .slice (some ⟨b, 0, none⟩) xs.length cap ∧ base ≤ b ∧ xs.length ≤ cap ∧ cap ≤ maxLen ∧ w.heap[b]? = some (.cells cs T (0, 0)) ∧ cs.size = cap * n ∧
    ∀ i (hi : i < xs.length) t, t < n → cs[i * n + t]? = some (enc xs[i] t) := by
  obtain ⟨cells, ⟨h1, h2⟩, h3⟩ := h
  rcases h2 with ⟨rfl, h0⟩ | ⟨g, cap, cur, rfl, hb, hh, hn, hm, hs, ht⟩
  · exact .inl ⟨List.eq_nil_of_length_eq_zero h0, rfl⟩
  · refine .inr ⟨g, cap, cur, rfl, hb, hn, hm, hh, hs, fun i hi t htn => ?_⟩
    rw [← h3 i hi t htn, ← ht, List.getElem?_take]
    have hlt : i * n + t < xs.length * n := by
      have : (i + 1) * n ≤ xs.length * n := Nat.mul_le_mul_right _ hi
      rw [Nat.add_mul] at this; omega
    simp [hlt]
end OwnF
theorem RowF.own {α : Type} {n : Nat} {enc : α → Nat → Value} {w : World} {b : Nat} {T : TypeId} {xs : List α} (h : RowF n enc w b T xs xs.length) (hm : xs.length ≤ maxLen) : OwnF n enc w b T (.slice (some ⟨b, 0, none⟩) xs.length xs.length) xs := h.owns hm

/-- what is left of 'left' behind n things -/
def szOf (left : Int) (n : Nat) : Int := if left - n < 0 then -1 else left - n
theorem szOf_lo {left : Int} {n : Nat} (h : left < n) : szOf left n = -1 := by unfold szOf; rw [if_pos (by omega)]
theorem szOf_hi {left : Int} {n : Nat} (h : (n : Int) ≤ left) : szOf left n = left - n := by unfold szOf; rw [if_neg (by omega)]
theorem szOf_bd {left : Int} {n : Nat} (h0 : 0 ≤ left) (h1 : left ≤ 1048576) : -1 ≤ szOf left n ∧ szOf left n ≤ 1048576 := by unfold szOf; split <;> omega
theorem szOf_nonneg {left : Int} {n : Nat} (h : 0 ≤ szOf left n) : (n : Int) ≤ left := by unfold szOf at h; split at h <;> omega
/-- the numbers k, k+1 .. -/
def marks (k : Int) : Nat → List Int | 0 => [] | n + 1 => k :: marks (k + 1) n
theorem marks_length : ∀ (n : Nat) (k : Int), (marks k n).length = n
  | 0, _ => rfl
  | n + 1, k => by simp [marks, marks_length n]
theorem marks_get : ∀ (n : Nat) (k : Int) (i : Nat) (h : i < (marks k n).length), (marks k n)[i] = k + i
  | n + 1, k, 0, _ => by simp [marks]
  | n + 1, k, i + 1, h => by simp [marks, marks_get n]; omega
end Go.Proofs.YtckikiaockkmbaaDoor
