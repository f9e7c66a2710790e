/- Expressions as trees, and how a slice of expressions in memory reads as a list of trees. No program in sight; no conditions. -/
import Derived.Test.YtljokgoghphgdaaVP1
import Derived.StillTailTactics
import Derived.Deep.RegionHeld
import Derived.WalkKit
import Derived.Laws.Rows
import Derived.Test.YtljokgoghphgdaaChecked
import Derived.ProofKit
namespace Go.Proofs.Ytljokgoghphgdaa
open Go.RowKit Kit
set_option linter.unusedVariables false

/-- an expression -/
inductive Ex where
  | node (kind val : Int) (kids : List Ex)

namespace Ex
def kind : Ex → Int | node k _ _ => k
def val : Ex → Int | node _ v _ => v
def kids : Ex → List Ex | node _ _ ks => ks

mutual
/-- how many nodes -/
def size : Ex → Nat | node _ _ ks => sizes ks + 1
def sizes : List Ex → Nat | [] => 0 | e :: es => size e + sizes es
end
mutual
def same : Ex → Ex → Bool | node k v ks, node k' v' ks' => k == k' && v == v' && sames ks ks'
def sames : List Ex → List Ex → Bool
  | [], [] => true
  | e :: es, f :: fs => same e f && sames es fs
  | _, _ => false
end

theorem size_kids (e : Ex) : sizes e.kids + 1 = e.size := by cases e; rfl
theorem size_pos (e : Ex) : 1 ≤ e.size := by have := size_kids e; omega
theorem length_sizes : ∀ l : List Ex, l.length ≤ sizes l
  | [] => by simp [sizes]
  | e :: es => by have := length_sizes es; have := size_pos e; simp [sizes]; omega
theorem sizes_get : ∀ (l : List Ex) (i : Nat) (h : i < l.length), l[i].size ≤ sizes l
  | e :: es, 0, _ => by simp [sizes]
  | e :: es, i + 1, h => by have := sizes_get es i (by simpa using h); simp [sizes]; omega
theorem kids_get (l : List Ex) (i : Nat) (h : i < l.length) : sizes l[i].kids < sizes l := by
  have := sizes_get l i h; have := size_kids l[i]; omega
mutual
theorem same_refl : ∀ e : Ex, same e e = true | node k v ks => by simp [same, sames_refl ks]
theorem sames_refl : ∀ l : List Ex, sames l l = true | [] => by simp [sames] | e :: es => by simp [sames, same_refl e, sames_refl es]
end
mutual
theorem same_iff : ∀ (e f : Ex), same e f = true → e = f
  | node k v ks, node k' v' ks', h => by
    simp only [same, Bool.and_eq_true, beq_iff_eq] at h
    rw [h.1.1, h.1.2, sames_iff ks ks' h.2]
theorem sames_iff : ∀ (l m : List Ex), sames l m = true → l = m
  | [], [], _ => rfl
  | e :: es, f :: fs, h => by
    simp only [sames, Bool.and_eq_true] at h
    rw [same_iff e f h.1, sames_iff es fs h.2]
  | [], _ :: _, h => by simp [sames] at h
  | _ :: _, [], h => by simp [sames] at h
end
end Ex

/-- THE SLICE VALUE s READS IN w AS THE LIST ks; all its blocks lie in lo .. hi-1 -/
inductive KidsR (w : World) (lo hi : Nat) : Value → List Ex → Prop
  | nil (a : Option Addr) (cap : Nat) : KidsR w lo hi (.slice a 0 cap) []
  | cons (b o cap : Nat) (ks : List Ex) (S : Nat → Value) (h0 : 0 < ks.length) (hlo : lo ≤ b) (hhi : b < hi) (hcap : ks.length ≤ cap) (hmax : cap ≤ 9223372036854775807)
      (c0 : ∀ i (h : i < ks.length), w.cell? ⟨b, o + i * 3, none⟩ = some (.int .i64 ks[i].kind))
      (c1 : ∀ i (h : i < ks.length), w.cell? ⟨b, o + i * 3 + 1, none⟩ = some (.int .i64 ks[i].val))
      (c2 : ∀ i (h : i < ks.length), w.cell? ⟨b, o + i * 3 + 2, none⟩ = some (S i))
      (r : ∀ i (h : i < ks.length), KidsR w lo hi (S i) ks[i].kids) : KidsR w lo hi (.slice (some ⟨b, o, none⟩) ks.length cap) ks

theorem KidsR.keep {w w' : World} {lo hi : Nat} {s : Value} {ks : List Ex} (h : KidsR w lo hi s ks) (hk : ∀ k, lo ≤ k → k < hi → w'.heap[k]? = w.heap[k]?) : KidsR w' lo hi s ks := by
  induction h with
  | nil a cap => exact .nil a cap
  | cons b o cap ks S h0 hlo hhi hcap hmax c0 c1 c2 r ih =>
    have hc : ∀ j, w'.cell? ⟨b, j, none⟩ = w.cell? ⟨b, j, none⟩ := fun j => World.cell?_of_block (w := w) (hk b hlo hhi)
    exact .cons b o cap ks S h0 hlo hhi hcap hmax (fun i h => by rw [hc]; exact c0 i h) (fun i h => by rw [hc]; exact c1 i h) (fun i h => by rw [hc]; exact c2 i h) ih

theorem KidsR.mono {w : World} {lo hi lo' hi' : Nat} {s : Value} {ks : List Ex} (h : KidsR w lo hi s ks) (hl : lo' ≤ lo) (hh : hi ≤ hi') : KidsR w lo' hi' s ks := by
  induction h with
  | nil a cap => exact .nil a cap
  | cons b o cap ks S h0 hlo hhi hcap hmax c0 c1 c2 r ih => exact .cons b o cap ks S h0 (by omega) (by omega) hcap hmax c0 c1 c2 ih

theorem KidsR.kp {w w' : World} {lo hi : Nat} {s : Value} {ks : List Ex} (h : KidsR w lo hi s ks) {T : Nat → Prop} (hk : Kp T w w') (hh : hi ≤ w.heap.size) (ht : ∀ k, T k → k < lo ∨ hi ≤ k) : KidsR w' lo hi s ks :=
  h.keep fun k h1 h2 => hk.block k (by omega) (fun s => by have := ht k s; omega)
theorem KidsR.new {w w' : World} {lo hi : Nat} {s : Value} {ks : List Ex} (h : KidsR w lo hi s ks) (hh : hi ≤ w.heap.size) (hk : New w w') : KidsR w' lo hi s ks :=
  h.kp hk hh (fun _ f => f.elim)

theorem KidsR.set {w : World} {lo hi : Nat} {s : Value} {ks : List Ex} (h : KidsR w lo hi s ks) {b : Nat} (hb : b < lo ∨ hi ≤ b) (o : Nat) (v : Value) : KidsR (w.setCell ⟨b, o, none⟩ v) lo hi s ks :=
  h.keep fun k h1 h2 => Below.heap_setCell _ _ _ _ (by show k ≠ b; omega)

/-- what a reading of a slice lets one see, in one form: its length, and behind it its cells -/
theorem KidsR.len {w : World} {lo hi : Nat} {s : Value} {ks : List Ex} (h : KidsR w lo hi s ks) : ∃ a cap, s = .slice a ks.length cap ∧ ks.length ≤ 9223372036854775807 := by
  cases h with
  | nil a cap => exact ⟨a, cap, rfl, by simp⟩
  | cons b o cap ks S h0 hlo hhi hcap hmax => exact ⟨_, cap, rfl, by omega⟩

/-- element k of a slice that reads: where it lies -/
theorem KidsR.at {w : World} {lo hi : Nat} {a : Option Addr} {n cap : Nat} {ks : List Ex} (h : KidsR w lo hi (.slice a n cap) ks) (k : Nat) (hk : k < ks.length) :
    ∃ b o s, a = some ⟨b, o, none⟩ ∧ lo ≤ b ∧ b < hi ∧ w.cell? ⟨b, o + k * 3, none⟩ = some (.int .i64 ks[k].kind) ∧ w.cell? ⟨b, o + k * 3 + 1, none⟩ = some (.int .i64 ks[k].val) ∧ w.cell? ⟨b, o + k * 3 + 2, none⟩ = some s ∧ KidsR w lo hi s ks[k].kids := by
  cases h with
  | nil a cap => simp at hk
  | cons b o cap ks S h0 hlo hhi hcap hmax c0 c1 c2 r => exact ⟨b, o, S k, rfl, hlo, hhi, c0 k hk, c1 k hk, c2 k hk, r k hk⟩

/-- the first j elements of the row b are those of l; what they lead to lies behind b -/
structure Filled (w : World) (b : Nat) (l : List Ex) (j : Nat) : Prop where
  ex : ∃ S : Nat → Value, ∀ i (h : i < l.length), i < j → w.cell? ⟨b, i * 3, none⟩ = some (.int .i64 l[i].kind) ∧ w.cell? ⟨b, i * 3 + 1, none⟩ = some (.int .i64 l[i].val) ∧ w.cell? ⟨b, i * 3 + 2, none⟩ = some (S i) ∧
    KidsR w (b + 1) w.heap.size (S i) l[i].kids

theorem Filled.zero (w : World) (b : Nat) (l : List Ex) : Filled w b l 0 := ⟨fun _ => .nilIface, fun i _ h => absurd h (Nat.not_lt_zero _)⟩

theorem Filled.kp {w w' : World} {b : Nat} {l : List Ex} {j : Nat} (h : Filled w b l j) (hb : b < w.heap.size) {T : Nat → Prop} (k : Kp T w w') (ht : ∀ k, T k → k < b) : Filled w' b l j := by
  obtain ⟨S, hS⟩ := h.ex
  refine ⟨S, fun i hi hij => ?_⟩
  obtain ⟨a, b', c, d⟩ := hS i hi hij
  have hc : ∀ j, w'.cell? ⟨b, j, none⟩ = w.cell? ⟨b, j, none⟩ := fun j => k.cell hb (fun s => by have := ht _ s; omega) j
  exact ⟨by rw [hc]; exact a, by rw [hc]; exact b', by rw [hc]; exact c, (d.kp k (Nat.le_refl _) (fun k s => .inl (by have := ht _ s; omega))).mono (Nat.le_refl _) k.size⟩
theorem Filled.new {w w' : World} {b : Nat} {l : List Ex} {j : Nat} (h : Filled w b l j) (hb : b < w.heap.size) (k : New w w') : Filled w' b l j := h.kp hb k (fun _ f => f.elim)

theorem Filled.step {w : World} {b : Nat} {T : TypeId} {l : List Ex} {j : Nat} (h : Filled w b l j) (hr : Row w b (l.length * 3) T) (hj : j < l.length) {s : Value} {k v : Int} (hk : k = l[j].kind) (hv : v = l[j].val) (hs : KidsR w (b + 1) w.heap.size s l[j].kids) :
    Filled (((w.setCell ⟨b, j * 3, none⟩ (.int .i64 k)).setCell ⟨b, j * 3 + 1, none⟩ (.int .i64 v)).setCell ⟨b, j * 3 + 2, none⟩ s) b l (j + 1) := by
  subst hk; subst hv
  obtain ⟨S, hS⟩ := h.ex
  obtain ⟨x0, h0⟩ := hr.cell (j * 3) (by omega)
  obtain ⟨x1, h1⟩ := hr.cell (j * 3 + 1) (by omega)
  obtain ⟨x2, h2⟩ := hr.cell (j * 3 + 2) (by omega)
  have ne : ∀ {p q : Nat}, p ≠ q → (⟨b, p, none⟩ : Addr) ≠ ⟨b, q, none⟩ := fun hpq e => hpq (Addr.mk.inj e).2.1
  have K : ∀ {s : Value} {ks : List Ex}, KidsR w (b + 1) w.heap.size s ks → KidsR (((w.setCell ⟨b, j * 3, none⟩ (.int .i64 l[j].kind)).setCell ⟨b, j * 3 + 1, none⟩ (.int .i64 l[j].val)).setCell ⟨b, j * 3 + 2, none⟩ s) (b + 1) (((w.setCell ⟨b, j * 3, none⟩ (.int .i64 l[j].kind)).setCell ⟨b, j * 3 + 1, none⟩ (.int .i64 l[j].val)).setCell ⟨b, j * 3 + 2, none⟩ s).heap.size s ks := fun h => by
    simp only [World.size_setCell]
    exact ((h.set (.inl (by omega)) _ _).set (.inl (by omega)) _ _).set (.inl (by omega)) _ _
  have K' : ∀ {s' : Value} {ks : List Ex}, KidsR w (b + 1) w.heap.size s' ks → KidsR (((w.setCell ⟨b, j * 3, none⟩ (.int .i64 l[j].kind)).setCell ⟨b, j * 3 + 1, none⟩ (.int .i64 l[j].val)).setCell ⟨b, j * 3 + 2, none⟩ s) (b + 1) (((w.setCell ⟨b, j * 3, none⟩ (.int .i64 l[j].kind)).setCell ⟨b, j * 3 + 1, none⟩ (.int .i64 l[j].val)).setCell ⟨b, j * 3 + 2, none⟩ s).heap.size s' ks := fun h => by
    simp only [World.size_setCell]
    exact ((h.set (.inl (by omega)) _ _).set (.inl (by omega)) _ _).set (.inl (by omega)) _ _
  refine ⟨fun i => if i = j then s else S i, fun i hi hij => ?_⟩
  by_cases e : i = j
  · subst e
    refine ⟨?_, ?_, ?_, ?_⟩
    · rw [World.cell?_setCell_other _ _ _ _ (ne (by omega)), World.cell?_setCell_other _ _ _ _ (ne (by omega))]
      exact World.cell?_setCell_same _ _ _ h0
    · rw [World.cell?_setCell_other _ _ _ _ (ne (by omega))]
      exact World.cell?_setCell_same _ _ _ ((World.cell?_setCell_other _ _ _ _ (ne (by omega))).trans h1)
    · simp only [if_true]
      exact World.cell?_setCell_same _ _ _ ((World.cell?_setCell_other _ _ _ _ (ne (by omega))).trans ((World.cell?_setCell_other _ _ _ _ (ne (by omega))).trans h2))
    · simp only [if_true]; exact K' hs
  · obtain ⟨a, b', c, d⟩ := hS i hi (by omega)
    simp only [e, if_false]
    refine ⟨?_, ?_, ?_, K' d⟩
    · rw [World.cell?_setCell_other _ _ _ _ (ne (by omega)), World.cell?_setCell_other _ _ _ _ (ne (by omega)), World.cell?_setCell_other _ _ _ _ (ne (by omega))]; exact a
    · rw [World.cell?_setCell_other _ _ _ _ (ne (by omega)), World.cell?_setCell_other _ _ _ _ (ne (by omega)), World.cell?_setCell_other _ _ _ _ (ne (by omega))]; exact b'
    · rw [World.cell?_setCell_other _ _ _ _ (ne (by omega)), World.cell?_setCell_other _ _ _ _ (ne (by omega)), World.cell?_setCell_other _ _ _ _ (ne (by omega))]; exact c

theorem Filled.done {w : World} {b : Nat} {l : List Ex} (h : Filled w b l l.length) (hb : b < w.heap.size) (hm : l.length ≤ 9223372036854775807) : KidsR w b w.heap.size (.slice (some ⟨b, 0, none⟩) l.length l.length) l := by
  obtain ⟨S, hS⟩ := h.ex
  cases l with
  | nil => exact .nil _ _
  | cons e es =>
    exact .cons b 0 _ (e :: es) S (by simp) (Nat.le_refl _) hb (Nat.le_refl _) hm (fun i hi => by simpa using (hS i hi hi).1) (fun i hi => by simpa using (hS i hi hi).2.1) (fun i hi => by simpa using (hS i hi hi).2.2.1)
      (fun i hi => (hS i hi hi).2.2.2.mono (Nat.le_succ _) (Nat.le_refl _))

end Go.Proofs.Ytljokgoghphgdaa

/- Statements as trees, and how a slice of statements in memory reads as a list of them. No program in sight; no conditions. -/
namespace Go.Proofs.Ytljokgoghphgdaa
open Go.RowKit Kit
set_option linter.unusedVariables false

/-- a statement -/
inductive St where
  | node (kind target : Int) (index value : Ex) (count : Int) (body els : List St)

namespace St
def kind : St → Int | node k _ _ _ _ _ _ => k
def target : St → Int | node _ t _ _ _ _ _ => t
def index : St → Ex | node _ _ i _ _ _ _ => i
def value : St → Ex | node _ _ _ v _ _ _ => v
def count : St → Int | node _ _ _ _ c _ _ => c
def body : St → List St | node _ _ _ _ _ b _ => b
def els : St → List St | node _ _ _ _ _ _ e => e
theorem eta (s : St) : s = node s.kind s.target s.index s.value s.count s.body s.els := by cases s; rfl

mutual
/-- what the laws count: a statement is one, and so is each operand of its expressions -/
def size : St → Nat | node _ _ i v _ b e => Ex.sizes i.kids + Ex.sizes v.kids + sizes b + sizes e + 1
def sizes : List St → Nat | [] => 0 | s :: l => size s + sizes l
end
mutual
def same : St → St → Bool
  | node k t i v c b e, node k' t' i' v' c' b' e' => k == k' && t == t' && Ex.same i i' && Ex.same v v' && c == c' && sames b b' && sames e e'
def sames : List St → List St → Bool
  | [], [] => true
  | s :: l, t :: m => same s t && sames l m
  | _, _ => false
end
theorem size_eq (s : St) : s.size = Ex.sizes s.index.kids + Ex.sizes s.value.kids + sizes s.body + sizes s.els + 1 := by cases s; rfl
theorem size_pos (s : St) : 1 ≤ s.size := by have := size_eq s; omega
theorem length_sizes : ∀ l : List St, l.length ≤ sizes l
  | [] => by simp [sizes]
  | e :: es => by have := length_sizes es; have := size_pos e; simp [sizes]; omega
theorem sizes_get : ∀ (l : List St) (i : Nat) (h : i < l.length), l[i].size ≤ sizes l
  | e :: es, 0, _ => by simp [sizes]
  | e :: es, i + 1, h => by have := sizes_get es i (by simpa using h); simp [sizes]; omega
mutual
theorem same_refl : ∀ s : St, same s s = true | node k t i v c b e => by simp [same, sames_refl b, sames_refl e, Ex.same_refl]
theorem sames_refl : ∀ l : List St, sames l l = true | [] => by simp [sames] | e :: es => by simp [sames, same_refl e, sames_refl es]
end
end St

/-- THE SLICE VALUE s READS IN w AS THE LIST l; all its blocks lie in lo .. hi-1 -/
inductive StsR (w : World) (lo hi : Nat) : Value → List St → Prop
  | nil (a : Option Addr) (cap : Nat) : StsR w lo hi (.slice a 0 cap) []
  | cons (b o cap : Nat) (l : List St) (SI SV SB SE : Nat → Value) (h0 : 0 < l.length) (hlo : lo ≤ b) (hhi : b < hi) (hcap : l.length ≤ cap) (hmax : cap ≤ 9223372036854775807)
      (c0 : ∀ i (h : i < l.length), w.cell? ⟨b, o + i * 11, none⟩ = some (.int .i64 l[i].kind))
      (c1 : ∀ i (h : i < l.length), w.cell? ⟨b, o + i * 11 + 1, none⟩ = some (.int .i64 l[i].target))
      (c2 : ∀ i (h : i < l.length), w.cell? ⟨b, o + i * 11 + 2, none⟩ = some (.int .i64 l[i].index.kind))
      (c3 : ∀ i (h : i < l.length), w.cell? ⟨b, o + i * 11 + 3, none⟩ = some (.int .i64 l[i].index.val))
      (c4 : ∀ i (h : i < l.length), w.cell? ⟨b, o + i * 11 + 4, none⟩ = some (SI i))
      (c5 : ∀ i (h : i < l.length), w.cell? ⟨b, o + i * 11 + 5, none⟩ = some (.int .i64 l[i].value.kind))
      (c6 : ∀ i (h : i < l.length), w.cell? ⟨b, o + i * 11 + 6, none⟩ = some (.int .i64 l[i].value.val))
      (c7 : ∀ i (h : i < l.length), w.cell? ⟨b, o + i * 11 + 7, none⟩ = some (SV i))
      (c8 : ∀ i (h : i < l.length), w.cell? ⟨b, o + i * 11 + 8, none⟩ = some (.int .i64 l[i].count))
      (c9 : ∀ i (h : i < l.length), w.cell? ⟨b, o + i * 11 + 9, none⟩ = some (SB i))
      (c10 : ∀ i (h : i < l.length), w.cell? ⟨b, o + i * 11 + 10, none⟩ = some (SE i))
      (ri : ∀ i (h : i < l.length), KidsR w lo hi (SI i) l[i].index.kids) (rv : ∀ i (h : i < l.length), KidsR w lo hi (SV i) l[i].value.kids)
      (rb : ∀ i (h : i < l.length), StsR w lo hi (SB i) l[i].body) (re : ∀ i (h : i < l.length), StsR w lo hi (SE i) l[i].els) : StsR w lo hi (.slice (some ⟨b, o, none⟩) l.length cap) l

namespace StsR
variable {w w' : World} {lo hi lo' hi' : Nat} {s : Value} {l : List St}
theorem keep (h : StsR w lo hi s l) (hk : ∀ k, lo ≤ k → k < hi → w'.heap[k]? = w.heap[k]?) : StsR w' lo hi s l := by
  induction h with
  | nil a cap => exact .nil a cap
  | cons b o cap l SI SV SB SE h0 hlo hhi hcap hmax c0 c1 c2 c3 c4 c5 c6 c7 c8 c9 c10 ri rv rb re ihb ihe =>
    have hc : ∀ j, w'.cell? ⟨b, j, none⟩ = w.cell? ⟨b, j, none⟩ := fun j => World.cell?_of_block (w := w) (hk b hlo hhi)
    exact .cons b o cap l SI SV SB SE h0 hlo hhi hcap hmax (fun i h => by rw [hc]; exact c0 i h) (fun i h => by rw [hc]; exact c1 i h) (fun i h => by rw [hc]; exact c2 i h) (fun i h => by rw [hc]; exact c3 i h)
      (fun i h => by rw [hc]; exact c4 i h) (fun i h => by rw [hc]; exact c5 i h) (fun i h => by rw [hc]; exact c6 i h) (fun i h => by rw [hc]; exact c7 i h) (fun i h => by rw [hc]; exact c8 i h)
      (fun i h => by rw [hc]; exact c9 i h) (fun i h => by rw [hc]; exact c10 i h) (fun i h => (ri i h).keep hk) (fun i h => (rv i h).keep hk) ihb ihe
theorem mono (h : StsR w lo hi s l) (hl : lo' ≤ lo) (hh : hi ≤ hi') : StsR w lo' hi' s l := by
  induction h with
  | nil a cap => exact .nil a cap
  | cons b o cap l SI SV SB SE h0 hlo hhi hcap hmax c0 c1 c2 c3 c4 c5 c6 c7 c8 c9 c10 ri rv rb re ihb ihe =>
    exact .cons b o cap l SI SV SB SE h0 (by omega) (by omega) hcap hmax c0 c1 c2 c3 c4 c5 c6 c7 c8 c9 c10 (fun i h => (ri i h).mono hl hh) (fun i h => (rv i h).mono hl hh) ihb ihe
theorem kp (h : StsR w lo hi s l) {T : Nat → Prop} (hk : Kp T w w') (hh : hi ≤ w.heap.size) (ht : ∀ k, T k → k < lo ∨ hi ≤ k) : StsR w' lo hi s l :=
  h.keep fun k h1 h2 => hk.block k (by omega) (fun s => by have := ht k s; omega)
theorem new (h : StsR w lo hi s l) (hh : hi ≤ w.heap.size) (hk : New w w') : StsR w' lo hi s l := h.kp hk hh (fun _ f => f.elim)
theorem set (h : StsR w lo hi s l) {b : Nat} (hb : b < lo ∨ hi ≤ b) (o : Nat) (v : Value) : StsR (w.setCell ⟨b, o, none⟩ v) lo hi s l :=
  h.keep fun k h1 h2 => Below.heap_setCell _ _ _ _ (by show k ≠ b; omega)
theorem len (h : StsR w lo hi s l) : ∃ a cap, s = .slice a l.length cap ∧ l.length ≤ 9223372036854775807 := by
  cases h with
  | nil a cap => exact ⟨a, cap, rfl, by simp⟩
  | cons b o cap l SI SV SB SE h0 hlo hhi hcap hmax => exact ⟨_, cap, rfl, by omega⟩
/-- what element k is, and where it lies -/
structure At (w : World) (lo hi b o : Nat) (x : St) (i v bd el : Value) : Prop where
  hlo : lo ≤ b
  hhi : b < hi
  c0 : w.cell? ⟨b, o, none⟩ = some (.int .i64 x.kind)
  c1 : w.cell? ⟨b, o + 1, none⟩ = some (.int .i64 x.target)
  c2 : w.cell? ⟨b, o + 2, none⟩ = some (.int .i64 x.index.kind)
  c3 : w.cell? ⟨b, o + 3, none⟩ = some (.int .i64 x.index.val)
  c4 : w.cell? ⟨b, o + 4, none⟩ = some i
  c5 : w.cell? ⟨b, o + 5, none⟩ = some (.int .i64 x.value.kind)
  c6 : w.cell? ⟨b, o + 6, none⟩ = some (.int .i64 x.value.val)
  c7 : w.cell? ⟨b, o + 7, none⟩ = some v
  c8 : w.cell? ⟨b, o + 8, none⟩ = some (.int .i64 x.count)
  c9 : w.cell? ⟨b, o + 9, none⟩ = some bd
  c10 : w.cell? ⟨b, o + 10, none⟩ = some el
  ri : KidsR w lo hi i x.index.kids
  rv : KidsR w lo hi v x.value.kids
  rb : StsR w lo hi bd x.body
  re : StsR w lo hi el x.els
theorem elem {a : Option Addr} {n cap : Nat} (h : StsR w lo hi (.slice a n cap) l) (k : Nat) (hk : k < l.length) : ∃ b o i v bd el, a = some ⟨b, o, none⟩ ∧ At w lo hi b (o + k * 11) l[k] i v bd el := by
  cases h with
  | nil a cap => simp at hk
  | cons b o cap l SI SV SB SE h0 hlo hhi hcap hmax c0 c1 c2 c3 c4 c5 c6 c7 c8 c9 c10 ri rv rb re =>
    exact ⟨b, o, SI k, SV k, SB k, SE k, rfl, ⟨hlo, hhi, c0 k hk, c1 k hk, c2 k hk, c3 k hk, c4 k hk, c5 k hk, c6 k hk, c7 k hk, c8 k hk, c9 k hk, c10 k hk, ri k hk, rv k hk, rb k hk, re k hk⟩⟩
end StsR
theorem StsR.At.new {w w' : World} {lo hi b o : Nat} {x : St} {i v bd el : Value} (h : StsR.At w lo hi b o x i v bd el) (hh : hi ≤ w.heap.size) (k : New w w') : StsR.At w' lo hi b o x i v bd el := by
  have hc : ∀ j, w'.cell? ⟨b, j, none⟩ = w.cell? ⟨b, j, none⟩ := fun j => k.cell (by have := h.hhi; omega) (fun f => f) j
  exact ⟨h.hlo, h.hhi, (hc _).trans h.c0, (hc _).trans h.c1, (hc _).trans h.c2, (hc _).trans h.c3, (hc _).trans h.c4, (hc _).trans h.c5, (hc _).trans h.c6, (hc _).trans h.c7, (hc _).trans h.c8, (hc _).trans h.c9, (hc _).trans h.c10,
    h.ri.new hh k, h.rv.new hh k, h.rb.new hh k, h.re.new hh k⟩
end Go.Proofs.Ytljokgoghphgdaa

/- Rows of the call's own whose elements lead on into memory (expressions, statements): they grow by append, or are changed in one cell; what an element leads to lies in blocks apart from the row's own. No program in sight; no conditions. -/
namespace Go.Proofs.Ytljokgoghphgdaa
open Go.RowKit Kit
set_option linter.unusedVariables false
/-- what an element means, seen from blocks lo .. hi - 1 -/
structure Means (α β : Type) where
  R : World → Nat → Nat → α → β → Prop
  keep : ∀ {w w' : World} {lo hi : Nat} {x : α} {y : β}, R w lo hi x y → (∀ k, lo ≤ k → k < hi → w'.heap[k]? = w.heap[k]?) → R w' lo hi x y
  mono : ∀ {w : World} {lo hi lo' hi' : Nat} {x : α} {y : β}, R w lo hi x y → lo' ≤ lo → hi ≤ hi' → R w lo' hi' x y
/-- a row of the call's own, from block base on, that means the list l -/
def RowG {α β : Type} (n : Nat) (enc : α → Nat → Value) (M : Means α β) (w : World) (base : Nat) (T : TypeId) (v : Value) (l : List β) : Prop :=
  ∃ xs : List α, OwnF n enc w base T v xs ∧ xs.length = l.length ∧ ∀ i (h : i < xs.length) (h' : i < l.length), ∃ lo hi, base ≤ lo ∧ hi ≤ w.heap.size ∧ (∀ b, v.ownBlock = some b → b < lo ∨ hi ≤ b) ∧ M.R w lo hi xs[i] l[i]
namespace RowG
variable {α β : Type} {n : Nat} {enc : α → Nat → Value} {M : Means α β} {w w' : World} {base : Nat} {T : TypeId} {v : Value} {l : List β}
theorem nil (w : World) (base : Nat) (T : TypeId) : RowG n enc M w base T (.slice none 0 0) [] := ⟨[], OwnF.nil w base T, rfl, fun i h => absurd h (Nat.not_lt_zero _)⟩
theorem empty (w : World) (T : TypeId) {base : Nat} (hb : base ≤ w.heap.size) : RowG n enc M (w.alloc (.cells #[] T)) base T (.slice (some ⟨w.heap.size, 0, none⟩) 0 0) [] := ⟨[], OwnF.empty w T hb, rfl, fun i h => absurd h (Nat.not_lt_zero _)⟩
theorem lt (h : RowG n enc M w base T v l) : ∀ k, v.ownBlock = some k → base ≤ k ∧ k < w.heap.size := by obtain ⟨xs, h1, _⟩ := h; exact h1.lt
theorem len (h : RowG n enc M w base T v l) : ∃ a cap, v = .slice a l.length cap ∧ l.length ≤ 9223372036854775807 := by
  obtain ⟨xs, h1, h2, _⟩ := h
  obtain ⟨a, cap, e, hl⟩ := h1.reads.len
  exact ⟨a, cap, by rw [e, h2], by omega⟩
theorem kp (h : RowG n enc M w base T v l) {S : Nat → Prop} (k : Kp S w w') (hs : ∀ b, S b → b < base) : RowG n enc M w' base T v l := by
  obtain ⟨xs, h1, h2, h3⟩ := h
  refine ⟨xs, h1.kp k (fun b hb hS => by have := (h1.lt b hb).1; have := hs b hS; omega), h2, fun i hi h' => ?_⟩
  obtain ⟨lo, hi2, p1, p2, p3, p4⟩ := h3 i hi h'
  exact ⟨lo, hi2, p1, Nat.le_trans p2 k.size, p3, M.keep p4 fun b q1 q2 => k.block b (by omega) (fun hS => by have := hs b hS; omega)⟩
theorem new (h : RowG n enc M w base T v l) (k : New w w') : RowG n enc M w' base T v l := h.kp k (fun _ f => f.elim)
theorem mono (h : RowG n enc M w base T v l) {base' : Nat} (hb : base' ≤ base) : RowG n enc M w base' T v l := by
  obtain ⟨xs, h1, h2, h3⟩ := h
  refine ⟨xs, h1.mono hb, h2, fun i hi h' => ?_⟩
  obtain ⟨lo, hi2, p1, p2, p3, p4⟩ := h3 i hi h'
  exact ⟨lo, hi2, by omega, p2, p3, p4⟩
/-- one element more: what append leaves -/
theorem snoc {xs : List α} {v' : Value} {x : α} {y : β} {lo hi : Nat} (hb : base ≤ w.heap.size) (h2 : xs.length = l.length) (h1 : OwnF n enc w base T v xs)
    (h3 : ∀ i (h : i < xs.length) (h' : i < l.length), ∃ lo hi, base ≤ lo ∧ hi ≤ w.heap.size ∧ (∀ b, v.ownBlock = some b → b < lo ∨ hi ≤ b) ∧ M.R w lo hi xs[i] l[i])
    (hn : OwnF n enc w' base T v' (xs ++ [x])) (k : Kp (fun k => v.ownBlock = some k) w w') (hv : v'.ownBlock = v.ownBlock ∨ v'.ownBlock = some w.heap.size)
    (q1 : base ≤ lo) (q2 : hi ≤ w.heap.size) (q3 : ∀ b, v.ownBlock = some b → b < lo ∨ hi ≤ b) (q4 : M.R w lo hi x y) : RowG n enc M w' base T v' (l ++ [y]) := by
  have off : ∀ lo hi, hi ≤ w.heap.size → (∀ b, v.ownBlock = some b → b < lo ∨ hi ≤ b) → ∀ b, v'.ownBlock = some b → b < lo ∨ hi ≤ b := by
    intro lo hi p2 p3 b hb
    rcases hv with e | e
    · exact p3 b (e ▸ hb)
    · rw [e] at hb; cases hb; omega
  have kk : ∀ lo hi, hi ≤ w.heap.size → (∀ b, v.ownBlock = some b → b < lo ∨ hi ≤ b) → ∀ c, lo ≤ c → c < hi → w'.heap[c]? = w.heap[c]? := fun lo hi p2 p3 c c1 c2 => k.block c (by omega) (fun e => by have := p3 c e; omega)
  refine ⟨xs ++ [x], hn, by simp [h2], fun i hi' h' => ?_⟩
  by_cases e : i < xs.length
  · have e2 : i < l.length := by omega
    obtain ⟨lo2, hi2, p1, p2, p3, p4⟩ := h3 i e e2
    rw [List.getElem_append_left e, List.getElem_append_left e2]
    exact ⟨lo2, hi2, p1, Nat.le_trans p2 k.size, off _ _ p2 p3, M.keep p4 (kk _ _ p2 p3)⟩
  · have e1 : i = xs.length := by simp at hi'; omega
    subst e1
    have e3 : (xs ++ [x])[xs.length] = x := by simp
    have e4 : (l ++ [y])[xs.length] = y := by simp [h2]
    rw [e3, e4]
    exact ⟨lo, hi, q1, Nat.le_trans q2 k.size, off _ _ q2 q3, M.keep q4 (kk _ _ q2 q3)⟩
/-- nil, or a row with cells that may be written -/
theorem row (h : RowG n enc M w base T v l) (j : Nat) (hj : j < l.length) : ∃ b cap x lo hi, v = .slice (some ⟨b, 0, none⟩) l.length cap ∧ base ≤ b ∧ b < w.heap.size ∧ base ≤ lo ∧ hi ≤ w.heap.size ∧ (b < lo ∨ hi ≤ b) ∧ M.R w lo hi x l[j] ∧
    (∀ t, t < n → w.cell? ⟨b, j * n + t, none⟩ = some (enc x t)) ∧ (∀ o, w.frozen? ⟨b, o, none⟩ = false) ∧
    ∀ t, t < n → ∀ (x' : α) (y' : β) u, (∀ q, q < n → enc x' q = if q = t then u else enc x q) → M.R w lo hi x' y' → RowG n enc M (w.setCell ⟨b, j * n + t, none⟩ u) base T v (l.set j y') := by
  obtain ⟨xs, h1, h2, h3⟩ := h
  have hjx : j < xs.length := by omega
  obtain ⟨lo, hi, p1, p2, p3, p4⟩ := h3 j hjx hj
  rcases h1.form with ⟨e, _⟩ | ⟨b, cap, cs, rfl, hb1, hb2, hb3, hh, hs, hc⟩
  · subst e; exact absurd hjx (Nat.not_lt_zero _)
  · have hbw := heap_lt hh
    have hbo := p3 b (by simp [Value.ownBlock])
    refine ⟨b, cap, xs[j], lo, hi, by rw [h2], hb1, hbw, p1, p2, hbo, p4, fun t ht => (cell_of_heap hh _).trans (hc j hjx t ht), fun o => frozen_of_heap hh o, fun t ht x' y' u hu hm => ?_⟩
    have kk : Kp (fun k => k = b) w (w.setCell ⟨b, j * n + t, none⟩ u) := (Kp.refl (fun k => k = b) w).setCell (.inl rfl) _
    have keep : ∀ lo hi, hi ≤ w.heap.size → (∀ k, (Value.slice (some ⟨b, 0, none⟩) xs.length cap).ownBlock = some k → k < lo ∨ hi ≤ k) → ∀ c, lo ≤ c → c < hi → (w.setCell ⟨b, j * n + t, none⟩ u).heap[c]? = w.heap[c]? :=
      fun lo hi p2 p3 c c1 c2 => kk.block c (by omega) (fun e => by have := p3 b (by simp [Value.ownBlock]); omega)
    refine ⟨xs.set j x', ?_, by simp [h2], fun i hi' h' => ?_⟩
    · rw [show xs.length = (xs.set j x').length by simp]
      refine OwnF.mk' (setCell_heap hh u) hb1 (by simpa using hb2) hb3 (by simpa using hs) fun i hi' q hq => ?_
      have hi2 : i < xs.length := by simpa using hi'
      rw [Array.getElem?_setIfInBounds]
      by_cases e : j = i
      · subst e
        rw [List.getElem_set_self, hu q hq]
        by_cases e2 : q = t
        · subst e2
          have hlt : j * n + q < cs.size := by
            have : (j + 1) * n ≤ xs.length * n := Nat.mul_le_mul_right _ hjx
            have h3 : xs.length * n ≤ cap * n := Nat.mul_le_mul_right _ hb2
            rw [Nat.add_mul] at this; omega
          simp [hlt]
        · rw [if_neg (by omega), if_neg e2]; exact hc j hjx q hq
      · rw [List.getElem_set_ne e]
        have ne : j * n + t ≠ i * n + q := by
          rcases Nat.lt_or_ge j i with g | g
          · have : (j + 1) * n ≤ i * n := Nat.mul_le_mul_right _ g
            rw [Nat.add_mul] at this; omega
          · have : (i + 1) * n ≤ j * n := Nat.mul_le_mul_right _ (by omega)
            rw [Nat.add_mul] at this; omega
        rw [if_neg ne]; exact hc i hi2 q hq
    · have hi2 : i < xs.length := by simpa using hi'
      have h2' : i < l.length := by simpa using h'
      by_cases e : j = i
      · subst e
        rw [List.getElem_set_self, List.getElem_set_self]
        exact ⟨lo, hi, p1, Nat.le_trans p2 kk.size, p3, M.keep hm (keep _ _ p2 p3)⟩
      · rw [List.getElem_set_ne e, List.getElem_set_ne e]
        obtain ⟨lo2, hi3, r1, r2, r3, r4⟩ := h3 i hi2 h2'
        exact ⟨lo2, hi3, r1, Nat.le_trans r2 kk.size, r3, M.keep r4 (keep _ _ r2 r3)⟩
end RowG
section
variable {α β : Type} {n : Nat} {enc : α → Nat → Value} {M : Means α β} {P : Program} {w : World}
theorem one_src {b c : Nat} {y : α} (hc : 1 ≤ c) (hm : c ≤ 9223372036854775807) (hnews : ∀ t, t < n → w.cell? ⟨b, t, none⟩ = some (enc y t)) : FlR n enc w b (b + 1) (.slice (some ⟨b, 0, none⟩) 1 c) [y] :=
  .cons b 0 c [y] (by simp) (Nat.le_refl _) (by omega) (by simpa using hc) hm fun i hi t ht => by
    obtain rfl : i = 0 := by simpa using hi
    simpa using hnews t ht
/-- append of one element that leads on, in a list -/
theorem wpList_grow {ops : Array Oper} {rest : List Oper} {o : Oper} {a : Act} {Q : Exit → Act → World → Prop} (hgd : o.guard = none) (s x : Operand) (t : TypeId)
    (ho : o.op = .call { callee := .builtin .append, args := #[s, x], argTypes := #[t, t] })
    (base : Nat) (e : TypeId) (z : Value) (bytes : Nat) (ht : P.underlying t = some (.slice e)) (hinfo : (P.info? e).map (fun i => (i.zero, i.size, i.bytes)) = some (some z, n, bytes)) (hzs : z.cells.size = n) (hn : 0 < n)
    (v : Value) (l : List β) (hs : a.eval s = v) (hown : RowG n enc M w base e v l) (b c : Nat) (y : α) (u : β) (hx : a.eval x = .slice (some ⟨b, 0, none⟩) 1 c) (hc1 : 1 ≤ c) (hc2 : c ≤ 9223372036854775807) (hnews : ∀ t, t < n → w.cell? ⟨b, t, none⟩ = some (enc y t)) (h1 : ∀ t, (enc y t).oneCell' = true)
    (lo hi : Nat) (q1 : base ≤ lo) (q2 : hi ≤ w.heap.size) (q3 : ∀ b, v.ownBlock = some b → b < lo ∨ hi ≤ b) (q4 : M.R w lo hi y u)
    (hlen : (l.length + 1) * bytes ≤ 140737488355328) (h63 : l.length + 1 ≤ 9223372036854775807) (hbase : base ≤ w.heap.size)
    (h : ∀ v' w', RowG n enc M w' base e v' (l ++ [u]) → Kp (fun k => v.ownBlock = some k) w w' → (v'.ownBlock = v.ownBlock ∨ v'.ownBlock = some w.heap.size) → wpList P ops Q rest (a.put o.dst v') w') : wpList P ops Q (o :: rest) a w := by
  obtain ⟨xs, o1, o2, o3⟩ := hown
  refine wpList_pushesN hgd s x t ho base e z bytes ht hinfo hzs hn v xs hs o1 _ [y] hx (one_src hc1 hc2 hnews) (fun y' hy => by rw [List.mem_singleton] at hy; subst hy; exact h1) (by rw [o2]; exact hlen) (by rw [o2]; exact h63) hbase fun v' w' n1 n2 n3 => ?_
  exact h v' w' (RowG.snoc hbase o2 o1 o3 n1 n2 n3 q1 q2 q3 q4) n2 n3
/-- the same at a step of a region that draws -/
theorem step_grow {ops : Array Oper} {o : Oper} {a : Act} {K : Act → World → Prop} {Q : Exit → Act → World → Prop} {E : Prop} (hgd : o.guard = none) (s x : Operand) (t : TypeId)
    (ho : o.op = .call { callee := .builtin .append, args := #[s, x], argTypes := #[t, t] })
    (base : Nat) (e : TypeId) (z : Value) (bytes : Nat) (ht : P.underlying t = some (.slice e)) (hinfo : (P.info? e).map (fun i => (i.zero, i.size, i.bytes)) = some (some z, n, bytes)) (hzs : z.cells.size = n) (hn : 0 < n)
    (v : Value) (l : List β) (hs : a.eval s = v) (hown : RowG n enc M w base e v l) (b c : Nat) (y : α) (u : β) (hx : a.eval x = .slice (some ⟨b, 0, none⟩) 1 c) (hc1 : 1 ≤ c) (hc2 : c ≤ 9223372036854775807) (hnews : ∀ t, t < n → w.cell? ⟨b, t, none⟩ = some (enc y t)) (h1 : ∀ t, (enc y t).oneCell' = true)
    (lo hi : Nat) (q1 : base ≤ lo) (q2 : hi ≤ w.heap.size) (q3 : ∀ b, v.ownBlock = some b → b < lo ∨ hi ≤ b) (q4 : M.R w lo hi y u)
    (hlen : (l.length + 1) * bytes ≤ 140737488355328) (h63 : l.length + 1 ≤ 9223372036854775807) (hbase : base ≤ w.heap.size)
    (h : ∀ v' w', RowG n enc M w' base e v' (l ++ [u]) → Kp (fun k => v.ownBlock = some k) w w' → (v'.ownBlock = v.ownBlock ∨ v'.ownBlock = some w.heap.size) → K (a.put o.dst v') w') : if Region.wanted o (yielded ops a.tmps) = true then Oper.wp P o a w K Q else E := by
  obtain ⟨xs, o1, o2, o3⟩ := hown
  refine step_pushes hgd s x t ho base e z bytes ht hinfo hzs hn v xs hs o1 _ [y] hx (one_src hc1 hc2 hnews) (fun y' hy => by rw [List.mem_singleton] at hy; subst hy; exact h1) (by rw [o2]; exact hlen) (by rw [o2]; exact h63) hbase fun v' w' n1 n2 n3 => ?_
  exact h v' w' (RowG.snoc hbase o2 o1 o3 n1 n2 n3 q1 q2 q3 q4) n2 n3
end
/-- an expression as it lies -/
structure RX where
  k : Int
  v : Int
  s : Value
def encX (x : RX) : Nat → Value | 0 => .int .i64 x.k | 1 => .int .i64 x.v | _ => x.s
structure RX.Is (w : World) (lo hi : Nat) (x : RX) (e : Ex) : Prop where
  k : x.k = e.kind
  v : x.v = e.val
  s : KidsR w lo hi x.s e.kids
def MX : Means RX Ex := ⟨RX.Is, fun h k => ⟨h.k, h.v, h.s.keep k⟩, fun h a b => ⟨h.k, h.v, h.s.mono a b⟩⟩
/-- a statement as it lies -/
structure RS where
  k : Int
  t : Int
  ik : Int
  iv : Int
  i : Value
  vk : Int
  vv : Int
  v : Value
  c : Int
  b : Value
  e : Value
def encRS (x : RS) : Nat → Value | 0 => .int .i64 x.k | 1 => .int .i64 x.t | 2 => .int .i64 x.ik | 3 => .int .i64 x.iv | 4 => x.i | 5 => .int .i64 x.vk | 6 => .int .i64 x.vv | 7 => x.v | 8 => .int .i64 x.c | 9 => x.b | _ => x.e
structure RS.Is (w : World) (lo hi : Nat) (x : RS) (s : St) : Prop where
  k : x.k = s.kind
  t : x.t = s.target
  ik : x.ik = s.index.kind
  iv : x.iv = s.index.val
  i : KidsR w lo hi x.i s.index.kids
  vk : x.vk = s.value.kind
  vv : x.vv = s.value.val
  v : KidsR w lo hi x.v s.value.kids
  c : x.c = s.count
  b : StsR w lo hi x.b s.body
  e : StsR w lo hi x.e s.els
def MS : Means RS St := ⟨RS.Is, fun h k => ⟨h.k, h.t, h.ik, h.iv, h.i.keep k, h.vk, h.vv, h.v.keep k, h.c, h.b.keep k, h.e.keep k⟩, fun h p q => ⟨h.k, h.t, h.ik, h.iv, h.i.mono p q, h.vk, h.vv, h.v.mono p q, h.c, h.b.mono p q, h.e.mono p q⟩⟩
abbrev ExsG (w : World) (base : Nat) (T : TypeId) (v : Value) (l : List Ex) : Prop := RowG 3 encX MX w base T v l
abbrev StsG (w : World) (base : Nat) (T : TypeId) (v : Value) (l : List St) : Prop := RowG 11 encRS MS w base T v l
theorem KidsR.one {w : World} {lo hi : Nat} {s : Value} {ks : List Ex} (h : KidsR w lo hi s ks) : s.oneCell' = true := by obtain ⟨a, c, rfl, _⟩ := h.len; rfl
theorem StsR.one {w : World} {lo hi : Nat} {s : Value} {l : List St} (h : StsR w lo hi s l) : s.oneCell' = true := by obtain ⟨a, c, rfl, _⟩ := h.len; rfl
theorem RX.Is.one {w : World} {lo hi : Nat} {x : RX} {e : Ex} (h : RX.Is w lo hi x e) : ∀ t, (encX x t).oneCell' = true := fun t => by match t with | 0 => rfl | 1 => rfl | _ + 2 => exact h.s.one
theorem RS.Is.one {w : World} {lo hi : Nat} {x : RS} {s : St} (h : RS.Is w lo hi x s) : ∀ t, (encRS x t).oneCell' = true := fun t => by
  match t with | 0 => rfl | 1 => rfl | 2 => rfl | 3 => rfl | 4 => exact h.i.one | 5 => rfl | 6 => rfl | 7 => exact h.v.one | 8 => rfl | 9 => exact h.b.one | _ + 10 => exact h.e.one
theorem RowG.kids {w : World} {base : Nat} {T : TypeId} {v : Value} {l : List Ex} (h : ExsG w base T v l) : KidsR w base w.heap.size v l := by
  obtain ⟨xs, h1, h2, h3⟩ := h
  have hr := h1.reads
  cases hr with
  | nil a cap =>
    have e : l = [] := List.eq_nil_of_length_eq_zero (by simpa using h2.symm)
    subst e; exact .nil _ _
  | cons b o cap xs h0 hlo hhi hcap hmax c =>
    have hi : ∀ i (h : i < l.length), i < xs.length := fun i h => by omega
    have hg : ∀ i (h : i < l.length), xs.getD i ⟨0, 0, .nilIface⟩ = xs[i]'(hi i h) := fun i h => by simp [List.getElem?_eq_getElem (hi i h)]
    have hk : ∀ i (h : i < l.length), RX.Is w base w.heap.size (xs[i]'(hi i h)) l[i] := fun i h => by
      obtain ⟨lo, hi2, p1, p2, _, p4⟩ := h3 i (hi i h) h
      exact MX.mono p4 p1 p2
    rw [h2]
    refine .cons b o cap l (fun i => (xs.getD i ⟨0, 0, .nilIface⟩).s) (by omega) hlo hhi (by omega) hmax (fun i h => ?_) (fun i h => ?_) (fun i h => ?_) (fun i h => ?_)
    · rw [← (hk i h).k]; exact c i (hi i h) 0 (by omega)
    · rw [← (hk i h).v]; exact c i (hi i h) 1 (by omega)
    · simp only [hg i h]; exact c i (hi i h) 2 (by omega)
    · simp only [hg i h]; exact (hk i h).s
theorem RowG.sts {w : World} {base : Nat} {T : TypeId} {v : Value} {l : List St} (h : StsG w base T v l) : StsR w base w.heap.size v l := by
  obtain ⟨xs, h1, h2, h3⟩ := h
  have hr := h1.reads
  cases hr with
  | nil a cap =>
    have e : l = [] := List.eq_nil_of_length_eq_zero (by simpa using h2.symm)
    subst e; exact .nil _ _
  | cons b o cap xs h0 hlo hhi hcap hmax c =>
    let d : RS := ⟨0, 0, 0, 0, .nilIface, 0, 0, .nilIface, 0, .nilIface, .nilIface⟩
    have hi : ∀ i (h : i < l.length), i < xs.length := fun i h => by omega
    have hg : ∀ i (h : i < l.length), xs.getD i d = xs[i]'(hi i h) := fun i h => by simp [List.getElem?_eq_getElem (hi i h)]
    have hk : ∀ i (h : i < l.length), RS.Is w base w.heap.size (xs[i]'(hi i h)) l[i] := fun i h => by
      obtain ⟨lo, hi2, p1, p2, _, p4⟩ := h3 i (hi i h) h
      exact MS.mono p4 p1 p2
    rw [h2]
    refine .cons b o cap l (fun i => (xs.getD i d).i) (fun i => (xs.getD i d).v) (fun i => (xs.getD i d).b) (fun i => (xs.getD i d).e) (by omega) hlo hhi (by omega) hmax (fun i h => ?_) (fun i h => ?_) (fun i h => ?_) (fun i h => ?_) (fun i h => ?_) (fun i h => ?_) (fun i h => ?_) (fun i h => ?_) (fun i h => ?_) (fun i h => ?_) (fun i h => ?_) (fun i h => ?_) (fun i h => ?_) (fun i h => ?_) (fun i h => ?_)
    · rw [← (hk i h).k]; exact c i (hi i h) 0 (by omega)
    · rw [← (hk i h).t]; exact c i (hi i h) 1 (by omega)
    · rw [← (hk i h).ik]; exact c i (hi i h) 2 (by omega)
    · rw [← (hk i h).iv]; exact c i (hi i h) 3 (by omega)
    · simp only [hg i h]; exact c i (hi i h) 4 (by omega)
    · rw [← (hk i h).vk]; exact c i (hi i h) 5 (by omega)
    · rw [← (hk i h).vv]; exact c i (hi i h) 6 (by omega)
    · simp only [hg i h]; exact c i (hi i h) 7 (by omega)
    · rw [← (hk i h).c]; exact c i (hi i h) 8 (by omega)
    · simp only [hg i h]; exact c i (hi i h) 9 (by omega)
    · simp only [hg i h]; exact c i (hi i h) 10 (by omega)
    · simp only [hg i h]; exact (hk i h).i
    · simp only [hg i h]; exact (hk i h).v
    · simp only [hg i h]; exact (hk i h).b
    · simp only [hg i h]; exact (hk i h).e
end Go.Proofs.Ytljokgoghphgdaa

/- A law for a region that draws its order and ends in a tail (stores, assignments) that waits for all the rest: a condition S on the world holds behind every operation ahead of that tail, so what only reads may be taken first. No program in sight. -/
namespace Go.Proofs.Ytljokgoghphgdaa
open Go
section
variable {P : Program} {ops : Array Oper} {Q : Exit → Act → World → Prop} {md : Region.Mode} {S : World → Prop} {k : Nat}
/-- whatever order is drawn; S is owed as long as number k has not come -/
def AnyK (P : Program) (md : Region.Mode) (ops : Array Oper) (Q : Exit → Act → World → Prop) (S : World → Prop) (k : Nat) : Nat → Array Bool → Act → World → Prop
  | 0, listed, a, w => Region.ready md ops listed = [] ∧ Q .normal a w
  | f + 1, listed, a, w => (Region.ready md ops listed = [] → Q .normal a w) ∧ ∀ i ∈ Region.ready md ops listed, wpOp P ops Q i (fun a' w' => ((listed.setIfInBounds i true).getD k true = false → S w') ∧ AnyK P md ops Q S k f (listed.setIfInBounds i true) a' w') a w
theorem AnyK.any : ∀ (f : Nat) (listed : Array Bool) (a : Act) (w : World), AnyK P md ops Q S k f listed a w → wpAny P md ops Q f listed a w
  | 0, _, _, _, h => h
  | f + 1, _, _, _, h => ⟨h.1, fun i hi => wpOp_mono (fun a' w' h' => AnyK.any f _ a' w' h'.2) (h.2 i hi)⟩
theorem not_k {i j : Nat} {listed : Array Bool} (hw : Region.waitsFor md ops k i = true) (hi : i ∈ Region.ready md ops listed) (hj : j ∈ Region.ready md ops listed) : j ≠ k := by
  rintro rfl
  obtain ⟨oj, hoj, e, he, hb, hon⟩ := Region.waitsFor_spec hw
  obtain ⟨_, o', ho', hall⟩ := mem_ready.1 hj
  have : o' = oj := Option.some.inj (ho'.symm.trans hoj)
  subst this
  have h2 := hall e he hb
  rw [hon, getD_both (mem_ready.1 hi).1] at h2
  cases h2
theorem set_other {i : Nat} {listed : Array Bool} (h : (listed.setIfInBounds i true).getD k true = false) : listed.getD k true = false := by
  by_cases e : i = k
  · subst e
    rcases Nat.lt_or_ge i listed.size with h' | h'
    · simp [h'] at h
    · simp [h'] at h
  · rwa [getD_set_ne true e] at h
theorem AnyK.first {i : Nat} {oi : Oper} {v : Value} {S0 : World → Prop} (hi : ops[i]? = some oi) (hsel : ∀ (j : Nat) (o : Oper) cs b, ops[j]? = some o → o.op ≠ .select cs b)
    (hQ : ∀ c a w, Q (.panic c) (a.put oi.dst v) w → Q (.panic c) a w) (hw : (∀ w, S0 w) ∨ (S0 = S ∧ Region.waitsFor md ops k i = true)) (hik : i ≠ k) : ∀ (f : Nat) (listed : Array Bool) (a : Act) (w : World),
      (∀ j oj, ops[j]? = some oj → j ≠ i → listed.getD j true = false → (∀ e ∈ oj.after, Region.binds md e = true → e.on ≠ i) → oi.apart ops oj = true) →
      i ∈ Region.ready md ops listed → YieldsIf P ops S0 oi v a → S0 w → (listed.getD k true = false → S w) → ((∀ w, S0 w) ∨ listed.getD k true = false) → AnyK P md ops Q S k f (listed.setIfInBounds i true) (a.put oi.dst v) w → AnyK P md ops Q S k (f + 1) listed a w
  | f, listed, a, w, hfree, hr, hy, hS0, hS, hk, H => by
    refine ⟨fun h => (by rw [h] at hr; cases hr), fun j hj => ?_⟩
    by_cases hji : j = i
    · subst hji; exact hy.wpOp hi hS0 ⟨fun h => hS (set_other h), H⟩
    have hin := ready_mono hj hji
    match f, H with
    | 0, H => rw [H.1] at hin; cases hin
    | f + 1, H =>
      obtain ⟨hjun, oj, hoj, hall⟩ := mem_ready.1 hj
      have hnot : ∀ e ∈ oj.after, Region.binds md e = true → e.on ≠ i := fun e he hb heq => by
        have h1 := hall e he hb
        rw [heq, getD_both (mem_ready.1 hr).1] at h1
        cases h1
      refine wpOp_mono (fun a' w' h3 => ?_) (wpOp_putIf hoj (hfree j oj hoj hji hjun hnot) (fun cs b => hsel i oi cs b hi) (fun cs b => hsel j oj cs b hoj) hQ hy (H.2 j hin))
      have hSw : (listed.setIfInBounds j true).getD k true = false → S w' := fun h => h3.2.1 (by rw [Array.setIfInBounds_comm _ _ (Ne.symm hji), getD_set_ne true hik]; exact h)
      have hjk : (∀ w, S0 w) ∨ (listed.setIfInBounds j true).getD k true = false := by
        rcases hw with hw | hw
        · exact .inl hw
        · rcases hk with hk | hk
          · exact .inl hk
          · exact .inr (by rw [getD_set_ne true (not_k hw.2 hr hj)]; exact hk)
      have hS0' : S0 w' := by
        rcases hjk with h | h
        · exact h w'
        · rcases hw with hw | hw
          · exact hw w'
          · rw [hw.1]; exact hSw h
      refine ⟨hSw, AnyK.first hi hsel hQ hw hik f (listed.setIfInBounds j true) a' w' ?_ (ready_mono hr (Ne.symm hji)) h3.1 hS0' hSw hjk ?_⟩
      · intro q oq hq hqi hun hno
        refine hfree q oq hq hqi ?_ hno
        by_cases e : j = q
        · subst e; exact hjun
        · rw [getD_set_ne true e] at hun; exact hun
      · rw [Array.setIfInBounds_comm _ _ hji]; exact h3.2.2
/-- number i, which reads what S tells of, is taken first -/
theorem AnyK.take {i : Nat} {oi : Oper} {v : Value} {f : Nat} {listed : Array Bool} {a : Act} {w : World} (hi : ops[i]? = some oi) (hs : Region.noSelect ops = true) (hf : Region.free md ops listed i = true)
    (hr : (Region.ready md ops listed).contains i = true) (hw : (Region.waitsFor md ops k i && !(listed.getD k true) && !(i == k)) = true) (hQ : ∀ c a w, Q (.panic c) (a.put oi.dst v) w → Q (.panic c) a w) (hy : YieldsIf P ops S oi v a) (hS : S w)
    (h : AnyK P md ops Q S k f (listed.setIfInBounds i true) (a.put oi.dst v) w) : AnyK P md ops Q S k (f + 1) listed a w := by
  simp only [Bool.and_eq_true, Bool.not_eq_true', beq_eq_false_iff_ne] at hw
  exact AnyK.first hi (Region.noSelect_spec hs) hQ (.inr ⟨rfl, hw.1.1⟩) hw.2 f listed a w (Region.free_spec hi hf) (by simpa using hr) hy hS (fun _ => hS) (.inr hw.1.2) h
/-- number i, which yields in whatever world, is taken first -/
theorem AnyK.takeW {i : Nat} {oi : Oper} {v : Value} {f : Nat} {listed : Array Bool} {a : Act} {w : World} (hi : ops[i]? = some oi) (hs : Region.noSelect ops = true) (hf : Region.free md ops listed i = true)
    (hr : (Region.ready md ops listed).contains i = true) (hik : (i == k) = false) (hQ : ∀ c a w, Q (.panic c) (a.put oi.dst v) w → Q (.panic c) a w) (hy : YieldsIf P ops (fun _ => True) oi v a) (hS : S w)
    (h : AnyK P md ops Q S k f (listed.setIfInBounds i true) (a.put oi.dst v) w) : AnyK P md ops Q S k (f + 1) listed a w :=
  AnyK.first hi (Region.noSelect_spec hs) hQ (.inl fun _ => trivial) (by simpa using hik) f listed a w (Region.free_spec hi hf) (by simpa using hr) hy trivial (fun _ => hS) (.inl fun _ => trivial) h
/-- number i is all that can come -/
theorem AnyK.step {i : Nat} {o : Oper} {f : Nat} {listed : Array Bool} {a : Act} {w : World} (hr : Region.ready md ops listed = [i]) (ho : ops[i]? = some o)
    (h : ∀ K' : Act → World → Prop, Shut (∀ a w, S w → (S w → AnyK P md ops Q S k f (listed.setIfInBounds i true) a w) → K' a w) → if Region.wanted o (yielded ops a.tmps) = true then Oper.wp P o a w K' Q else K' (a.put o.dst undef) w) :
    AnyK P md ops Q S k (f + 1) listed a w := by
  refine ⟨fun h0 => (by rw [hr] at h0; cases h0), fun j hj => ?_⟩
  rw [hr, List.mem_singleton] at hj
  subst hj
  exact wpOp_step ho (fun K' hK => h K' (fun a w hS hW => hK a w ⟨fun _ => hS, hW hS⟩))
/-- two may come -/
theorem AnyK.two {i j : Nat} {oi oj : Oper} {f : Nat} {listed : Array Bool} {a : Act} {w : World} (hr : Region.ready md ops listed = [i, j]) (hi : ops[i]? = some oi) (hj : ops[j]? = some oj)
    (h1 : ∀ K' : Act → World → Prop, Shut (∀ a w, S w → (S w → AnyK P md ops Q S k f (listed.setIfInBounds i true) a w) → K' a w) → if Region.wanted oi (yielded ops a.tmps) = true then Oper.wp P oi a w K' Q else K' (a.put oi.dst undef) w)
    (h2 : ∀ K' : Act → World → Prop, Shut (∀ a w, S w → (S w → AnyK P md ops Q S k f (listed.setIfInBounds j true) a w) → K' a w) → if Region.wanted oj (yielded ops a.tmps) = true then Oper.wp P oj a w K' Q else K' (a.put oj.dst undef) w) :
    AnyK P md ops Q S k (f + 1) listed a w := by
  refine ⟨fun h0 => (by rw [hr] at h0; cases h0), fun q hq => ?_⟩
  rw [hr, List.mem_cons, List.mem_singleton] at hq
  rcases hq with rfl | rfl
  · exact wpOp_step hi (fun K' hK => h1 K' (fun a w hS hW => hK a w ⟨fun _ => hS, hW hS⟩))
  · exact wpOp_step hj (fun K' hK => h2 K' (fun a w hS hW => hK a w ⟨fun _ => hS, hW hS⟩))
theorem set_done {q : Nat} {listed : Array Bool} (h : q = k ∨ listed.getD k true = true) : (listed.setIfInBounds q true).getD k true = true := by
  cases e : (listed.setIfInBounds q true).getD k true with
  | true => rfl
  | false =>
    rcases h with h | h
    · subst h
      rcases Nat.lt_or_ge q listed.size with h' | h'
      · simp [h'] at e
      · simp [h'] at e
    · rw [set_other e] at h; cases h
theorem AnyK.seq : ∀ (l : List Oper) (q : Nat) (listed : Array Bool) (a : Act) (w : World), (q = k ∨ listed.getD k true = true) → (∀ j, l[j]? = ops[q + j]?) → Region.seqB md ops l.length q listed = true → wpList P ops Q l a w → AnyK P md ops Q S k l.length listed a w
  | [], _, _, _, _, _, _, hB, h => ⟨by simpa [Region.seqB] using hB, h⟩
  | o :: l, q, listed, a, w, hk, hl, hB, h => by
    have h0 : ops[q]? = some o := by simpa using (hl 0).symm
    simp only [List.length_cons, Region.seqB, Bool.and_eq_true, decide_eq_true_eq] at hB
    refine ⟨fun h1 => (by rw [hB.1] at h1; cases h1), fun i hi => ?_⟩
    rw [hB.1, List.mem_singleton] at hi
    subst hi
    have hw : wpOp P ops Q i (wpList P ops Q l) a w := by unfold wpOp; simp only [h0]; exact h
    have hd := set_done hk
    exact wpOp_mono (fun a' w' h' => ⟨fun hn => (by rw [hd] at hn; cases hn), AnyK.seq l (i + 1) _ a' w' (.inr hd) (fun j => by have := hl (j + 1); simpa [Nat.add_assoc, Nat.add_comm 1 j] using this) hB.2 h'⟩) hw
/-- the tail, in its order -/
theorem AnyK.last {listed : Array Bool} {a : Act} {w : World} (hB : Region.seqB md ops (ops.size - k) k listed = true) (h : wpList P ops Q (ops.toList.drop k) a w) : AnyK P md ops Q S k (ops.size - k) listed a w := by
  have hl : (ops.toList.drop k).length = ops.size - k := by simp
  rw [← hl] at hB ⊢
  exact AnyK.seq _ k listed a w (.inl rfl) (fun j => by simp [List.getElem?_drop]) hB h
theorem wp_region_tail {id : Nat} {a : Act} {w : World} (hm : P.follows .mixedOrders = true) (hS : S w.drew)
    (h : S w.drew → AnyK P .any ops Q S k ops.size (Array.replicate ops.size false) a w.drew) : (Code.region id ops true).wp P Q a w :=
  wp_region_any hm (AnyK.any _ _ _ _ (h hS))
end
theorem results_cell_tmp {P : Program} {fn : Func} {p q : Tmp} {ty : TypeId} (h : fn.results = #[.cell p ty, .tmp q]) (tmps : Array Value) (w : World) (g : Nat) (t : TypeId) (cs : Array Value) (fr : Nat × Nat) (d : TypeDesc) (u : Value)
    (hp : tmps.getD p undef = .pointer (some ⟨g, 0, none⟩)) (hq : tmps.getD q undef = u) (hg : w.heap[g]? = some (.cells cs t fr))
    (hu : P.underlying ty = some d) (hd : (match d with | .struct _ | .array _ _ => true | _ => false) = true) (hi : (P.info? ty).map (·.size) = some cs.size) :
    (results fn tmps).run P w = .ok (.tuple #[.agg cs, u]) w := by
  have hp' : tmps[p]?.getD undef = .pointer (some ⟨g, 0, none⟩) := by simpa using hp
  have hq' : tmps[q]?.getD undef = u := by simpa using hq
  simp [results, h, hp', hq', asAddr, run_loadVar_row w g t ty cs fr d hg hu hd hi]
end Go.Proofs.Ytljokgoghphgdaa

/- Many stores into one block, one behind another. No program in sight; no conditions. -/
namespace Go.Proofs.Ytljokgoghphgdaa.Kit
open Go.RowKit
/-- the values vs stored from cell o on -/
def setMany (w : World) (b o : Nat) : List Value → World
  | [] => w
  | v :: vs => setMany (w.setCell ⟨b, o, none⟩ v) b (o + 1) vs
theorem setMany_kp (b : Nat) : ∀ (vs : List Value) (w : World) (o : Nat), Kp (fun k => k = b) w (setMany w b o vs)
  | [], _, _ => Kp.refl _ _
  | v :: vs, w, o => ((Kp.refl (fun k => k = b) w).setCell (p := ⟨b, o, none⟩) (.inl rfl) v).trans ((setMany_kp b vs (w.setCell ⟨b, o, none⟩ v) (o + 1)).mono fun _ _ e => e)
theorem setMany_size (b : Nat) : ∀ (vs : List Value) (w : World) (o : Nat), (setMany w b o vs).heap.size = w.heap.size
  | [], _, _ => rfl
  | v :: vs, w, o => (setMany_size b vs (w.setCell ⟨b, o, none⟩ v) (o + 1)).trans (World.size_setCell _ _ _)
theorem setMany_heap {b : Nat} {T : TypeId} {f : Nat × Nat} : ∀ (vs : List Value) (w : World) (o : Nat) (cs : Array Value), w.heap[b]? = some (.cells cs T f) → o + vs.length = cs.size →
    (setMany w b o vs).heap[b]? = some (.cells (cs.toList.take o ++ vs).toArray T f)
  | [], w, o, cs, h, hs => by
    have : cs.toList.take o = cs.toList := List.take_of_length_le (by simp at hs; simp [hs])
    rw [this]; simpa [setMany] using h
  | v :: vs, w, o, cs, h, hs => by
    have ho : o < cs.size := by simp at hs; omega
    have := setMany_heap vs (w.setCell ⟨b, o, none⟩ v) (o + 1) (cs.setIfInBounds o v) (setCell_heap h v) (by simp at hs ⊢; omega)
    rw [show setMany w b o (v :: vs) = setMany (w.setCell ⟨b, o, none⟩ v) b (o + 1) vs from rfl, this]
    congr 3
    have e : (cs.setIfInBounds o v).toList.take (o + 1) = cs.toList.take o ++ [v] := by
      rw [Array.toList_setIfInBounds, List.take_succ_eq_append_getElem (by simpa using ho), List.take_set_of_le (Nat.le_refl _), List.getElem_set_self]
    rw [e, List.append_assoc]; rfl
theorem setMany_row {w : World} {b : Nat} {T : TypeId} {f : Nat × Nat} {cs : Array Value} (vs : List Value) (h : w.heap[b]? = some (.cells cs T f)) (hs : vs.length = cs.size) : (setMany w b 0 vs).heap[b]? = some (.cells vs.toArray T f) := by
  have := setMany_heap vs w 0 cs h (by omega)
  simpa using this
theorem setMany_other {w : World} {b c : Nat} {x : Obj} (vs : List Value) (o : Nat) (h : w.heap[c]? = some x) (hb : c ≠ b) : (setMany w b o vs).heap[c]? = some x := ((setMany_kp b vs w o).block c (heap_lt h) (fun e => hb e)).trans h
end Go.Proofs.Ytljokgoghphgdaa.Kit

/- What the program's validity is, in plain words: labels, declarations, values, memories, expressions, statements. No program in sight; no conditions. -/
namespace Go.Proofs.Ytljokgoghphgdaa.Val
open Go.RowKit Kit
set_option linter.unusedVariables false
def good (xs : List Int) : Bool := xs.all Lab.okL
def okV (x : Int) : Bool := Lab.inside x 0 255
def okVs (xs : List Int) : Bool := xs.all okV
def declB (xa xb : List Int) : Bool := decide (1 ≤ xa.length) && decide (xa.length ≤ 12) && decide (xb.length ≤ 2) && good xa && good xb
def rowB (a : List Int) : Bool := decide (a.length = 4) && okVs a
def fitB (nv na : Nat) (ya : List Int) (yb : List (List Int)) : Bool := decide (ya.length = nv) && decide (yb.length = na) && okVs ya && yb.all rowB
theorem good_bad {xs : List Int} {j : Nat} (h : j < xs.length) (hb : Lab.okL xs[j] = false) : good xs = false := by
  rw [good, List.all_eq_false]; exact ⟨_, List.getElem_mem h, by simp [hb]⟩
theorem good_take {xs : List Int} {j : Nat} (h : j < xs.length) : good (xs.take (j + 1)) = (good (xs.take j) && Lab.okL xs[j]) := by rw [List.take_succ_eq_append_getElem h]; simp only [good, List.all_append, List.all_cons, List.all_nil, Bool.and_true]
theorem okVs_bad {xs : List Int} {j : Nat} (h : j < xs.length) (hb : okV xs[j] = false) : okVs xs = false := by
  rw [okVs, List.all_eq_false]; exact ⟨_, List.getElem_mem h, by simp [hb]⟩
theorem okVs_take {xs : List Int} {j : Nat} (h : j < xs.length) : okVs (xs.take (j + 1)) = (okVs (xs.take j) && okV xs[j]) := by rw [List.take_succ_eq_append_getElem h]; simp only [okVs, List.all_append, List.all_cons, List.all_nil, Bool.and_true]
theorem all_bad {α : Type} {p : α → Bool} {xs : List α} {j : Nat} (h : j < xs.length) (hb : p xs[j] = false) : xs.all p = false := by
  rw [List.all_eq_false]; exact ⟨_, List.getElem_mem h, by simp [hb]⟩
theorem all_take {α : Type} {p : α → Bool} {xs : List α} {j : Nat} (h : j < xs.length) : (xs.take (j + 1)).all p = ((xs.take j).all p && p xs[j]) := by rw [List.take_succ_eq_append_getElem h]; simp only [List.all_append, List.all_cons, List.all_nil, Bool.and_true]

/-- expressions -/
def arity (k : Int) : Int := if k = 1 ∨ k = 2 then 0 else if k = 3 then 1 else if 4 ≤ k ∧ k ≤ 10 then 2 else if k = 11 then 3 else -1
def limit (nv na : Nat) (k : Int) : Int := if k = 1 then 256 else if k = 2 then nv else if k = 3 then na else 1
def atom (e : Ex) : Bool := e.kind == 1 || e.kind == 2
def atom0 : List Ex → Bool | [] => false | e :: _ => atom e
mutual
def shp (nv na : Nat) : Ex → Nat → Bool
  | .node k v ks, d => decide (1 ≤ d) && decide ((ks.length : Int) = arity k) && decide (0 ≤ v) && decide (v < limit nv na k) && shps nv na ks (d - 1) && (!(k == 3) || atom0 ks)
def shps (nv na : Nat) : List Ex → Nat → Bool
  | [], _ => true
  | e :: es, d => shp nv na e d && shps nv na es d
end
mutual
def cnt : Ex → Nat → Nat
  | .node _ _ ks, d => 1 + (if 0 < d then cnts ks (d - 1) else 0)
def cnts : List Ex → Nat → Nat
  | [], _ => 0
  | e :: es, d => cnt e d + cnts es d
end
mutual
theorem cnt_size (nv na : Nat) : ∀ (e : Ex) (d : Nat), shp nv na e d = true → cnt e d = e.size
  | .node k v ks, d, h => by
    simp only [shp, Bool.and_eq_true, decide_eq_true_eq] at h
    have h1 := cnts_size nv na ks (d - 1) h.1.2
    have h2 := h.1.1.1.1.1
    rw [cnt, Ex.size, if_pos (by omega), h1]; omega
theorem cnts_size (nv na : Nat) : ∀ (l : List Ex) (d : Nat), shps nv na l d = true → cnts l d = Ex.sizes l
  | [], _, _ => by simp [cnts, Ex.sizes]
  | e :: es, d, h => by
    simp only [shps, Bool.and_eq_true] at h
    rw [cnts, Ex.sizes, cnt_size nv na e d h.1, cnts_size nv na es d h.2]
end
theorem shps_bad (nv na : Nat) : ∀ (l : List Ex) (d j : Nat) (h : j < l.length), shp nv na l[j] d = false → shps nv na l d = false
  | e :: es, d, 0, _, hb => by simp only [List.getElem_cons_zero] at hb; simp [shps, hb]
  | e :: es, d, j + 1, h, hb => by simp only [List.getElem_cons_succ] at hb; simp [shps, shps_bad nv na es d j (by simpa using h) hb]
theorem shps_append (nv na : Nat) : ∀ (l m : List Ex) (d : Nat), shps nv na (l ++ m) d = (shps nv na l d && shps nv na m d)
  | [], m, d => by simp [shps]
  | e :: es, m, d => by simp [shps, shps_append nv na es m d, Bool.and_assoc]
theorem shps_take (nv na : Nat) {l : List Ex} {j : Nat} (d : Nat) (h : j < l.length) : shps nv na (l.take (j + 1)) d = (shps nv na (l.take j) d && shp nv na l[j] d) := by
  rw [List.take_succ_eq_append_getElem h, shps_append]; simp [shps]
theorem cnts_append : ∀ (l m : List Ex) (d : Nat), cnts (l ++ m) d = cnts l d + cnts m d
  | [], m, d => by simp [cnts]
  | e :: es, m, d => by simp [cnts, cnts_append es m d]; omega
theorem cnts_take {l : List Ex} {j : Nat} (d : Nat) (h : j < l.length) : cnts (l.take (j + 1)) d = cnts (l.take j) d + cnt l[j] d := by
  rw [List.take_succ_eq_append_getElem h, cnts_append]; simp [cnts]
mutual
theorem cnt_le : ∀ (e : Ex) (d : Nat), cnt e d ≤ e.size
  | .node k v ks, d => by
    have := cnts_le ks (d - 1)
    rw [cnt, Ex.size]; split <;> omega
theorem cnts_le : ∀ (l : List Ex) (d : Nat), cnts l d ≤ Ex.sizes l
  | [], _ => by simp [cnts]
  | e :: es, d => by have := cnt_le e d; have := cnts_le es d; simp [cnts, Ex.sizes]; omega
end
def right (nv na : Nat) (e : Ex) : Bool := shp nv na e 5 && decide (cnt e 5 ≤ 15)
/-- what scan finds: from count c on -/
def scanB (nv na : Nat) (e : Ex) (d c : Nat) : Bool := shp nv na e d && decide (c + e.size ≤ 15)
def exprB (xa xb : List Int) (e : Ex) : Bool := declB xa xb && right xa.length xb.length e
end Go.Proofs.Ytljokgoghphgdaa.Val

/- szExpr, szExprS of laws: what is left of 'left' behind all nodes. Condition: left at most 2^20. -/
namespace Go.Proofs.Ytljokgoghphgdaa
open Go.RowKit Kit
set_option linter.unusedVariables false
theorem Ex.sizes_take_drop : ∀ (l : List Ex) (j : Nat), Ex.sizes l = Ex.sizes (l.take j) + Ex.sizes (l.drop j)
  | [], j => by simp [Ex.sizes]
  | e :: es, 0 => by simp [Ex.sizes]
  | e :: es, j + 1 => by have := Ex.sizes_take_drop es j; simp [Ex.sizes]; omega
end Go.Proofs.Ytljokgoghphgdaa
namespace Go.Proofs.Ytljokgoghphgdaa.SzE
open Go.RowKit Kit
set_option linter.unusedVariables false

end Go.Proofs.Ytljokgoghphgdaa.SzE
