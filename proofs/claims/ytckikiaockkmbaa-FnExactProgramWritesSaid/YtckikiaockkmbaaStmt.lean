/- Statements as trees, and how a slice of statements in memory reads as a list of them. No program in sight; no conditions. -/
import Derived.Test.YtckikiaockkmbaaTree
namespace Go.Proofs.Ytckikiaockkmbaa
open Go.RowKit Kit
set_option linter.unusedVariables false

/-- a statement -/
inductive St where
  | node (kind target : Int) (index value : Ex) (count : Int) (body els : List St)

namespace St
def kind : St → Int | node k _ _ _ _ _ _ => k
def target : St → Int | node _ t _ _ _ _ _ => t
def index : St → Ex | node _ _ i _ _ _ _ => i
def value : St → Ex | node _ _ _ v _ _ _ => v
def count : St → Int | node _ _ _ _ c _ _ => c
def body : St → List St | node _ _ _ _ _ b _ => b
def els : St → List St | node _ _ _ _ _ _ e => e
theorem eta (s : St) : s = node s.kind s.target s.index s.value s.count s.body s.els := by cases s; rfl

mutual
/-- what the laws count: a statement is one, and so is each operand of its expressions -/
def size : St → Nat | node _ _ i v _ b e => Ex.sizes i.kids + Ex.sizes v.kids + sizes b + sizes e + 1
def sizes : List St → Nat | [] => 0 | s :: l => size s + sizes l
end
mutual
def same : St → St → Bool
  | node k t i v c b e, node k' t' i' v' c' b' e' => k == k' && t == t' && Ex.same i i' && Ex.same v v' && c == c' && sames b b' && sames e e'
def sames : List St → List St → Bool
  | [], [] => true
  | s :: l, t :: m => same s t && sames l m
  | _, _ => false
end
theorem size_eq (s : St) : s.size = Ex.sizes s.index.kids + Ex.sizes s.value.kids + sizes s.body + sizes s.els + 1 := by cases s; rfl
theorem size_pos (s : St) : 1 ≤ s.size := by have := size_eq s; omega
theorem length_sizes : ∀ l : List St, l.length ≤ sizes l
  | [] => by simp [sizes]
  | e :: es => by have := length_sizes es; have := size_pos e; simp [sizes]; omega
theorem sizes_get : ∀ (l : List St) (i : Nat) (h : i < l.length), l[i].size ≤ sizes l
  | e :: es, 0, _ => by simp [sizes]
  | e :: es, i + 1, h => by have := sizes_get es i (by simpa using h); simp [sizes]; omega
theorem same_eq (s t : St) : same s t = (s.kind == t.kind && s.target == t.target && Ex.same s.index t.index && Ex.same s.value t.value && s.count == t.count && sames s.body t.body && sames s.els t.els) := by cases s; cases t; rfl
theorem sames_length : ∀ (l m : List St), sames l m = true → l.length = m.length
  | [], [], _ => rfl
  | e :: es, f :: fs, h => by
    simp only [sames, Bool.and_eq_true] at h
    simp [sames_length es fs h.2]
  | [], _ :: _, h => by simp [sames] at h
  | _ :: _, [], h => by simp [sames] at h
theorem sames_nil : sames [] [] = true := by simp [sames]
theorem sames_drop (l m : List St) (k : Nat) (h : k < l.length) (h' : k < m.length) : sames (l.drop k) (m.drop k) = (same l[k] m[k] && sames (l.drop (k + 1)) (m.drop (k + 1))) := by
  rw [List.drop_eq_getElem_cons h, List.drop_eq_getElem_cons h']; rfl
mutual
theorem same_refl : ∀ s : St, same s s = true | node k t i v c b e => by simp [same, sames_refl b, sames_refl e, Ex.same_refl]
theorem sames_refl : ∀ l : List St, sames l l = true | [] => by simp [sames] | e :: es => by simp [sames, same_refl e, sames_refl es]
end
end St

/-- THE SLICE VALUE s READS IN w AS THE LIST l; all its blocks lie in lo .. hi-1 -/
inductive StsR (w : World) (lo hi : Nat) : Value → List St → Prop
  | nil (a : Option Addr) (cap : Nat) : StsR w lo hi (.slice a 0 cap) []
  | cons (b o cap : Nat) (l : List St) (SI SV SB SE : Nat → Value) (h0 : 0 < l.length) (hlo : lo ≤ b) (hhi : b < hi) (hcap : l.length ≤ cap) (hmax : cap ≤ 9223372036854775807)
      (c0 : ∀ i (h : i < l.length), w.cell? ⟨b, o + i * 11, none⟩ = some (.int .i64 l[i].kind))
      (c1 : ∀ i (h : i < l.length), w.cell? ⟨b, o + i * 11 + 1, none⟩ = some (.int .i64 l[i].target))
      (c2 : ∀ i (h : i < l.length), w.cell? ⟨b, o + i * 11 + 2, none⟩ = some (.int .i64 l[i].index.kind))
      (c3 : ∀ i (h : i < l.length), w.cell? ⟨b, o + i * 11 + 3, none⟩ = some (.int .i64 l[i].index.val))
      (c4 : ∀ i (h : i < l.length), w.cell? ⟨b, o + i * 11 + 4, none⟩ = some (SI i))
      (c5 : ∀ i (h : i < l.length), w.cell? ⟨b, o + i * 11 + 5, none⟩ = some (.int .i64 l[i].value.kind))
      (c6 : ∀ i (h : i < l.length), w.cell? ⟨b, o + i * 11 + 6, none⟩ = some (.int .i64 l[i].value.val))
      (c7 : ∀ i (h : i < l.length), w.cell? ⟨b, o + i * 11 + 7, none⟩ = some (SV i))
      (c8 : ∀ i (h : i < l.length), w.cell? ⟨b, o + i * 11 + 8, none⟩ = some (.int .i64 l[i].count))
      (c9 : ∀ i (h : i < l.length), w.cell? ⟨b, o + i * 11 + 9, none⟩ = some (SB i))
      (c10 : ∀ i (h : i < l.length), w.cell? ⟨b, o + i * 11 + 10, none⟩ = some (SE i))
      (ri : ∀ i (h : i < l.length), KidsR w lo hi (SI i) l[i].index.kids) (rv : ∀ i (h : i < l.length), KidsR w lo hi (SV i) l[i].value.kids)
      (rb : ∀ i (h : i < l.length), StsR w lo hi (SB i) l[i].body) (re : ∀ i (h : i < l.length), StsR w lo hi (SE i) l[i].els) : StsR w lo hi (.slice (some ⟨b, o, none⟩) l.length cap) l

namespace StsR
variable {w w' : World} {lo hi lo' hi' : Nat} {s : Value} {l : List St}
theorem keep (h : StsR w lo hi s l) (hk : ∀ k, lo ≤ k → k < hi → w'.heap[k]? = w.heap[k]?) : StsR w' lo hi s l := by
  induction h with
  | nil a cap => exact .nil a cap
  | cons b o cap l SI SV SB SE h0 hlo hhi hcap hmax c0 c1 c2 c3 c4 c5 c6 c7 c8 c9 c10 ri rv rb re ihb ihe =>
    have hc : ∀ j, w'.cell? ⟨b, j, none⟩ = w.cell? ⟨b, j, none⟩ := fun j => World.cell?_of_block (w := w) (hk b hlo hhi)
    exact .cons b o cap l SI SV SB SE h0 hlo hhi hcap hmax (fun i h => by rw [hc]; exact c0 i h) (fun i h => by rw [hc]; exact c1 i h) (fun i h => by rw [hc]; exact c2 i h) (fun i h => by rw [hc]; exact c3 i h)
      (fun i h => by rw [hc]; exact c4 i h) (fun i h => by rw [hc]; exact c5 i h) (fun i h => by rw [hc]; exact c6 i h) (fun i h => by rw [hc]; exact c7 i h) (fun i h => by rw [hc]; exact c8 i h)
      (fun i h => by rw [hc]; exact c9 i h) (fun i h => by rw [hc]; exact c10 i h) (fun i h => (ri i h).keep hk) (fun i h => (rv i h).keep hk) ihb ihe
theorem mono (h : StsR w lo hi s l) (hl : lo' ≤ lo) (hh : hi ≤ hi') : StsR w lo' hi' s l := by
  induction h with
  | nil a cap => exact .nil a cap
  | cons b o cap l SI SV SB SE h0 hlo hhi hcap hmax c0 c1 c2 c3 c4 c5 c6 c7 c8 c9 c10 ri rv rb re ihb ihe =>
    exact .cons b o cap l SI SV SB SE h0 (by omega) (by omega) hcap hmax c0 c1 c2 c3 c4 c5 c6 c7 c8 c9 c10 (fun i h => (ri i h).mono hl hh) (fun i h => (rv i h).mono hl hh) ihb ihe
theorem kp (h : StsR w lo hi s l) {T : Nat → Prop} (hk : Kp T w w') (hh : hi ≤ w.heap.size) (ht : ∀ k, T k → k < lo ∨ hi ≤ k) : StsR w' lo hi s l :=
  h.keep fun k h1 h2 => hk.block k (by omega) (fun s => by have := ht k s; omega)
theorem new (h : StsR w lo hi s l) (hh : hi ≤ w.heap.size) (hk : New w w') : StsR w' lo hi s l := h.kp hk hh (fun _ f => f.elim)
theorem set (h : StsR w lo hi s l) {b : Nat} (hb : b < lo ∨ hi ≤ b) (o : Nat) (v : Value) : StsR (w.setCell ⟨b, o, none⟩ v) lo hi s l :=
  h.keep fun k h1 h2 => Below.heap_setCell _ _ _ _ (by show k ≠ b; omega)
theorem len (h : StsR w lo hi s l) : ∃ a cap, s = .slice a l.length cap ∧ l.length ≤ 9223372036854775807 := by
  cases h with
  | nil a cap => exact ⟨a, cap, rfl, by simp⟩
  | cons b o cap l SI SV SB SE h0 hlo hhi hcap hmax => exact ⟨_, cap, rfl, by omega⟩
/-- what element k is, and where it lies -/
structure At (w : World) (lo hi b o : Nat) (x : St) (i v bd el : Value) : Prop where
  hlo : lo ≤ b
  hhi : b < hi
  c0 : w.cell? ⟨b, o, none⟩ = some (.int .i64 x.kind)
  c1 : w.cell? ⟨b, o + 1, none⟩ = some (.int .i64 x.target)
  c2 : w.cell? ⟨b, o + 2, none⟩ = some (.int .i64 x.index.kind)
  c3 : w.cell? ⟨b, o + 3, none⟩ = some (.int .i64 x.index.val)
  c4 : w.cell? ⟨b, o + 4, none⟩ = some i
  c5 : w.cell? ⟨b, o + 5, none⟩ = some (.int .i64 x.value.kind)
  c6 : w.cell? ⟨b, o + 6, none⟩ = some (.int .i64 x.value.val)
  c7 : w.cell? ⟨b, o + 7, none⟩ = some v
  c8 : w.cell? ⟨b, o + 8, none⟩ = some (.int .i64 x.count)
  c9 : w.cell? ⟨b, o + 9, none⟩ = some bd
  c10 : w.cell? ⟨b, o + 10, none⟩ = some el
  ri : KidsR w lo hi i x.index.kids
  rv : KidsR w lo hi v x.value.kids
  rb : StsR w lo hi bd x.body
  re : StsR w lo hi el x.els
theorem elem {a : Option Addr} {n cap : Nat} (h : StsR w lo hi (.slice a n cap) l) (k : Nat) (hk : k < l.length) : ∃ b o i v bd el, a = some ⟨b, o, none⟩ ∧ At w lo hi b (o + k * 11) l[k] i v bd el := by
  cases h with
  | nil a cap => simp at hk
  | cons b o cap l SI SV SB SE h0 hlo hhi hcap hmax c0 c1 c2 c3 c4 c5 c6 c7 c8 c9 c10 ri rv rb re =>
    exact ⟨b, o, SI k, SV k, SB k, SE k, rfl, ⟨hlo, hhi, c0 k hk, c1 k hk, c2 k hk, c3 k hk, c4 k hk, c5 k hk, c6 k hk, c7 k hk, c8 k hk, c9 k hk, c10 k hk, ri k hk, rv k hk, rb k hk, re k hk⟩⟩
end StsR
theorem StsR.At.new {w w' : World} {lo hi b o : Nat} {x : St} {i v bd el : Value} (h : StsR.At w lo hi b o x i v bd el) (hh : hi ≤ w.heap.size) (k : New w w') : StsR.At w' lo hi b o x i v bd el := by
  have hc : ∀ j, w'.cell? ⟨b, j, none⟩ = w.cell? ⟨b, j, none⟩ := fun j => k.cell (by have := h.hhi; omega) (fun f => f) j
  exact ⟨h.hlo, h.hhi, (hc _).trans h.c0, (hc _).trans h.c1, (hc _).trans h.c2, (hc _).trans h.c3, (hc _).trans h.c4, (hc _).trans h.c5, (hc _).trans h.c6, (hc _).trans h.c7, (hc _).trans h.c8, (hc _).trans h.c9, (hc _).trans h.c10,
    h.ri.new hh k, h.rv.new hh k, h.rb.new hh k, h.re.new hh k⟩
end Go.Proofs.Ytckikiaockkmbaa
