/- Expressions as trees, and how a slice of expressions in memory reads as a list of trees. No program in sight; no conditions. -/
import Derived.Test.YtckikiaockkmbaaDoorKit
namespace Go.Proofs.YtckikiaockkmbaaDoor
open Go.RowKit Kit
set_option linter.unusedVariables false

/-- an expression -/
inductive Ex where
  | node (kind val : Int) (kids : List Ex)

namespace Ex
def kind : Ex → Int | node k _ _ => k
def val : Ex → Int | node _ v _ => v
def kids : Ex → List Ex | node _ _ ks => ks

mutual
/-- how many nodes -/
def size : Ex → Nat | node _ _ ks => sizes ks + 1
def sizes : List Ex → Nat | [] => 0 | e :: es => size e + sizes es
end
mutual
def same : Ex → Ex → Bool | node k v ks, node k' v' ks' => k == k' && v == v' && sames ks ks'
def sames : List Ex → List Ex → Bool
  | [], [] => true
  | e :: es, f :: fs => same e f && sames es fs
  | _, _ => false
end

theorem size_kids (e : Ex) : sizes e.kids + 1 = e.size := by cases e; rfl
theorem size_pos (e : Ex) : 1 ≤ e.size := by have := size_kids e; omega
theorem length_sizes : ∀ l : List Ex, l.length ≤ sizes l
  | [] => by simp [sizes]
  | e :: es => by have := length_sizes es; have := size_pos e; simp [sizes]; omega
theorem sizes_get : ∀ (l : List Ex) (i : Nat) (h : i < l.length), l[i].size ≤ sizes l
  | e :: es, 0, _ => by simp [sizes]
  | e :: es, i + 1, h => by have := sizes_get es i (by simpa using h); simp [sizes]; omega
theorem kids_get (l : List Ex) (i : Nat) (h : i < l.length) : sizes l[i].kids < sizes l := by
  have := sizes_get l i h; have := size_kids l[i]; omega
theorem same_eq (e f : Ex) : same e f = (e.kind == f.kind && e.val == f.val && sames e.kids f.kids) := by cases e; cases f; rfl
theorem sames_length : ∀ (l m : List Ex), sames l m = true → l.length = m.length
  | [], [], _ => rfl
  | e :: es, f :: fs, h => by
    simp only [sames, Bool.and_eq_true] at h
    simp [sames_length es fs h.2]
  | [], _ :: _, h => by simp [sames] at h
  | _ :: _, [], h => by simp [sames] at h
theorem sames_nil : sames [] [] = true := by simp [sames]
theorem sames_drop (l m : List Ex) (k : Nat) (h : k < l.length) (h' : k < m.length) : sames (l.drop k) (m.drop k) = (same l[k] m[k] && sames (l.drop (k + 1)) (m.drop (k + 1))) := by
  rw [List.drop_eq_getElem_cons h, List.drop_eq_getElem_cons h']; rfl
mutual
theorem same_refl : ∀ e : Ex, same e e = true | node k v ks => by simp [same, sames_refl ks]
theorem sames_refl : ∀ l : List Ex, sames l l = true | [] => by simp [sames] | e :: es => by simp [sames, same_refl e, sames_refl es]
end
mutual
theorem same_iff : ∀ (e f : Ex), same e f = true → e = f
  | node k v ks, node k' v' ks', h => by
    simp only [same, Bool.and_eq_true, beq_iff_eq] at h
    rw [h.1.1, h.1.2, sames_iff ks ks' h.2]
theorem sames_iff : ∀ (l m : List Ex), sames l m = true → l = m
  | [], [], _ => rfl
  | e :: es, f :: fs, h => by
    simp only [sames, Bool.and_eq_true] at h
    rw [same_iff e f h.1, sames_iff es fs h.2]
  | [], _ :: _, h => by simp [sames] at h
  | _ :: _, [], h => by simp [sames] at h
end
end Ex

/-- THE SLICE VALUE s READS IN w AS THE LIST ks; all its blocks lie in lo .. hi-1 -/
inductive KidsR (w : World) (lo hi : Nat) : Value → List Ex → Prop
  | nil (a : Option Addr) (cap : Nat) : KidsR w lo hi (.slice a 0 cap) []
  | cons (b o cap : Nat) (ks : List Ex) (S : Nat → Value) (h0 : 0 < ks.length) (hlo : lo ≤ b) (hhi : b < hi) (hcap : ks.length ≤ cap) (hmax : cap ≤ 9223372036854775807)
      (c0 : ∀ i (h : i < ks.length), w.cell? ⟨b, o + i * 3, none⟩ = some (.int .i64 ks[i].kind))
      (c1 : ∀ i (h : i < ks.length), w.cell? ⟨b, o + i * 3 + 1, none⟩ = some (.int .i64 ks[i].val))
      (c2 : ∀ i (h : i < ks.length), w.cell? ⟨b, o + i * 3 + 2, none⟩ = some (S i))
      (r : ∀ i (h : i < ks.length), KidsR w lo hi (S i) ks[i].kids) : KidsR w lo hi (.slice (some ⟨b, o, none⟩) ks.length cap) ks

theorem KidsR.keep {w w' : World} {lo hi : Nat} {s : Value} {ks : List Ex} (h : KidsR w lo hi s ks) (hk : ∀ k, lo ≤ k → k < hi → w'.heap[k]? = w.heap[k]?) : KidsR w' lo hi s ks := by
  induction h with
  | nil a cap => exact .nil a cap
  | cons b o cap ks S h0 hlo hhi hcap hmax c0 c1 c2 r ih =>
    have hc : ∀ j, w'.cell? ⟨b, j, none⟩ = w.cell? ⟨b, j, none⟩ := fun j => World.cell?_of_block (w := w) (hk b hlo hhi)
    exact .cons b o cap ks S h0 hlo hhi hcap hmax (fun i h => by rw [hc]; exact c0 i h) (fun i h => by rw [hc]; exact c1 i h) (fun i h => by rw [hc]; exact c2 i h) ih

theorem KidsR.mono {w : World} {lo hi lo' hi' : Nat} {s : Value} {ks : List Ex} (h : KidsR w lo hi s ks) (hl : lo' ≤ lo) (hh : hi ≤ hi') : KidsR w lo' hi' s ks := by
  induction h with
  | nil a cap => exact .nil a cap
  | cons b o cap ks S h0 hlo hhi hcap hmax c0 c1 c2 r ih => exact .cons b o cap ks S h0 (by omega) (by omega) hcap hmax c0 c1 c2 ih

theorem KidsR.kp {w w' : World} {lo hi : Nat} {s : Value} {ks : List Ex} (h : KidsR w lo hi s ks) {T : Nat → Prop} (hk : Kp T w w') (hh : hi ≤ w.heap.size) (ht : ∀ k, T k → k < lo ∨ hi ≤ k) : KidsR w' lo hi s ks :=
  h.keep fun k h1 h2 => hk.block k (by omega) (fun s => by have := ht k s; omega)
theorem KidsR.new {w w' : World} {lo hi : Nat} {s : Value} {ks : List Ex} (h : KidsR w lo hi s ks) (hh : hi ≤ w.heap.size) (hk : New w w') : KidsR w' lo hi s ks :=
  h.kp hk hh (fun _ f => f.elim)

theorem KidsR.set {w : World} {lo hi : Nat} {s : Value} {ks : List Ex} (h : KidsR w lo hi s ks) {b : Nat} (hb : b < lo ∨ hi ≤ b) (o : Nat) (v : Value) : KidsR (w.setCell ⟨b, o, none⟩ v) lo hi s ks :=
  h.keep fun k h1 h2 => Below.heap_setCell _ _ _ _ (by show k ≠ b; omega)

/-- what a reading of a slice lets one see, in one form: its length, and behind it its cells -/
theorem KidsR.len {w : World} {lo hi : Nat} {s : Value} {ks : List Ex} (h : KidsR w lo hi s ks) : ∃ a cap, s = .slice a ks.length cap ∧ ks.length ≤ 9223372036854775807 := by
  cases h with
  | nil a cap => exact ⟨a, cap, rfl, by simp⟩
  | cons b o cap ks S h0 hlo hhi hcap hmax => exact ⟨_, cap, rfl, by omega⟩

/-- element k of a slice that reads: where it lies -/
theorem KidsR.at {w : World} {lo hi : Nat} {a : Option Addr} {n cap : Nat} {ks : List Ex} (h : KidsR w lo hi (.slice a n cap) ks) (k : Nat) (hk : k < ks.length) :
    ∃ b o s, a = some ⟨b, o, none⟩ ∧ lo ≤ b ∧ b < hi ∧ w.cell? ⟨b, o + k * 3, none⟩ = some (.int .i64 ks[k].kind) ∧ w.cell? ⟨b, o + k * 3 + 1, none⟩ = some (.int .i64 ks[k].val) ∧ w.cell? ⟨b, o + k * 3 + 2, none⟩ = some s ∧ KidsR w lo hi s ks[k].kids := by
  cases h with
  | nil a cap => simp at hk
  | cons b o cap ks S h0 hlo hhi hcap hmax c0 c1 c2 r => exact ⟨b, o, S k, rfl, hlo, hhi, c0 k hk, c1 k hk, c2 k hk, r k hk⟩

/-- the first j elements of the row b are those of l; what they lead to lies behind b -/
structure Filled (w : World) (b : Nat) (l : List Ex) (j : Nat) : Prop where
  ex : ∃ S : Nat → Value, ∀ i (h : i < l.length), i < j → w.cell? ⟨b, i * 3, none⟩ = some (.int .i64 l[i].kind) ∧ w.cell? ⟨b, i * 3 + 1, none⟩ = some (.int .i64 l[i].val) ∧ w.cell? ⟨b, i * 3 + 2, none⟩ = some (S i) ∧
    KidsR w (b + 1) w.heap.size (S i) l[i].kids

theorem Filled.zero (w : World) (b : Nat) (l : List Ex) : Filled w b l 0 := ⟨fun _ => .nilIface, fun i _ h => absurd h (Nat.not_lt_zero _)⟩

theorem Filled.kp {w w' : World} {b : Nat} {l : List Ex} {j : Nat} (h : Filled w b l j) (hb : b < w.heap.size) {T : Nat → Prop} (k : Kp T w w') (ht : ∀ k, T k → k < b) : Filled w' b l j := by
  obtain ⟨S, hS⟩ := h.ex
  refine ⟨S, fun i hi hij => ?_⟩
  obtain ⟨a, b', c, d⟩ := hS i hi hij
  have hc : ∀ j, w'.cell? ⟨b, j, none⟩ = w.cell? ⟨b, j, none⟩ := fun j => k.cell hb (fun s => by have := ht _ s; omega) j
  exact ⟨by rw [hc]; exact a, by rw [hc]; exact b', by rw [hc]; exact c, (d.kp k (Nat.le_refl _) (fun k s => .inl (by have := ht _ s; omega))).mono (Nat.le_refl _) k.size⟩
theorem Filled.new {w w' : World} {b : Nat} {l : List Ex} {j : Nat} (h : Filled w b l j) (hb : b < w.heap.size) (k : New w w') : Filled w' b l j := h.kp hb k (fun _ f => f.elim)

theorem Filled.step {w : World} {b : Nat} {T : TypeId} {l : List Ex} {j : Nat} (h : Filled w b l j) (hr : Row w b (l.length * 3) T) (hj : j < l.length) {s : Value} {k v : Int} (hk : k = l[j].kind) (hv : v = l[j].val) (hs : KidsR w (b + 1) w.heap.size s l[j].kids) :
    Filled (((w.setCell ⟨b, j * 3, none⟩ (.int .i64 k)).setCell ⟨b, j * 3 + 1, none⟩ (.int .i64 v)).setCell ⟨b, j * 3 + 2, none⟩ s) b l (j + 1) := by
  subst hk; subst hv
  obtain ⟨S, hS⟩ := h.ex
  obtain ⟨x0, h0⟩ := hr.cell (j * 3) (by omega)
  obtain ⟨x1, h1⟩ := hr.cell (j * 3 + 1) (by omega)
  obtain ⟨x2, h2⟩ := hr.cell (j * 3 + 2) (by omega)
  have ne : ∀ {p q : Nat}, p ≠ q → (⟨b, p, none⟩ : Addr) ≠ ⟨b, q, none⟩ := fun hpq e => hpq (Addr.mk.inj e).2.1
  have K : ∀ {s : Value} {ks : List Ex}, KidsR w (b + 1) w.heap.size s ks → KidsR (((w.setCell ⟨b, j * 3, none⟩ (.int .i64 l[j].kind)).setCell ⟨b, j * 3 + 1, none⟩ (.int .i64 l[j].val)).setCell ⟨b, j * 3 + 2, none⟩ s) (b + 1) (((w.setCell ⟨b, j * 3, none⟩ (.int .i64 l[j].kind)).setCell ⟨b, j * 3 + 1, none⟩ (.int .i64 l[j].val)).setCell ⟨b, j * 3 + 2, none⟩ s).heap.size s ks := fun h => by
    simp only [World.size_setCell]
    exact ((h.set (.inl (by omega)) _ _).set (.inl (by omega)) _ _).set (.inl (by omega)) _ _
  have K' : ∀ {s' : Value} {ks : List Ex}, KidsR w (b + 1) w.heap.size s' ks → KidsR (((w.setCell ⟨b, j * 3, none⟩ (.int .i64 l[j].kind)).setCell ⟨b, j * 3 + 1, none⟩ (.int .i64 l[j].val)).setCell ⟨b, j * 3 + 2, none⟩ s) (b + 1) (((w.setCell ⟨b, j * 3, none⟩ (.int .i64 l[j].kind)).setCell ⟨b, j * 3 + 1, none⟩ (.int .i64 l[j].val)).setCell ⟨b, j * 3 + 2, none⟩ s).heap.size s' ks := fun h => by
    simp only [World.size_setCell]
    exact ((h.set (.inl (by omega)) _ _).set (.inl (by omega)) _ _).set (.inl (by omega)) _ _
  refine ⟨fun i => if i = j then s else S i, fun i hi hij => ?_⟩
  by_cases e : i = j
  · subst e
    refine ⟨?_, ?_, ?_, ?_⟩
    · rw [World.cell?_setCell_other _ _ _ _ (ne (by omega)), World.cell?_setCell_other _ _ _ _ (ne (by omega))]
      exact World.cell?_setCell_same _ _ _ h0
    · rw [World.cell?_setCell_other _ _ _ _ (ne (by omega))]
      exact World.cell?_setCell_same _ _ _ ((World.cell?_setCell_other _ _ _ _ (ne (by omega))).trans h1)
    · simp only [if_true]
      exact World.cell?_setCell_same _ _ _ ((World.cell?_setCell_other _ _ _ _ (ne (by omega))).trans ((World.cell?_setCell_other _ _ _ _ (ne (by omega))).trans h2))
    · simp only [if_true]; exact K' hs
  · obtain ⟨a, b', c, d⟩ := hS i hi (by omega)
    simp only [e, if_false]
    refine ⟨?_, ?_, ?_, K' d⟩
    · rw [World.cell?_setCell_other _ _ _ _ (ne (by omega)), World.cell?_setCell_other _ _ _ _ (ne (by omega)), World.cell?_setCell_other _ _ _ _ (ne (by omega))]; exact a
    · rw [World.cell?_setCell_other _ _ _ _ (ne (by omega)), World.cell?_setCell_other _ _ _ _ (ne (by omega)), World.cell?_setCell_other _ _ _ _ (ne (by omega))]; exact b'
    · rw [World.cell?_setCell_other _ _ _ _ (ne (by omega)), World.cell?_setCell_other _ _ _ _ (ne (by omega)), World.cell?_setCell_other _ _ _ _ (ne (by omega))]; exact c

theorem Filled.done {w : World} {b : Nat} {l : List Ex} (h : Filled w b l l.length) (hb : b < w.heap.size) (hm : l.length ≤ 9223372036854775807) : KidsR w b w.heap.size (.slice (some ⟨b, 0, none⟩) l.length l.length) l := by
  obtain ⟨S, hS⟩ := h.ex
  cases l with
  | nil => exact .nil _ _
  | cons e es =>
    exact .cons b 0 _ (e :: es) S (by simp) (Nat.le_refl _) hb (Nat.le_refl _) hm (fun i hi => by simpa using (hS i hi hi).1) (fun i hi => by simpa using (hS i hi hi).2.1) (fun i hi => by simpa using (hS i hi hi).2.2.1)
      (fun i hi => (hS i hi hi).2.2.2.mono (Nat.le_succ _) (Nat.le_refl _))

end Go.Proofs.YtckikiaockkmbaaDoor
