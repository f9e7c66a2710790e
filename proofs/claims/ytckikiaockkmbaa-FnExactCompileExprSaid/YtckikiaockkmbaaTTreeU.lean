/- Trees in memory whose rows may be written: rows of their own, none of them shut. No program in sight but for its types; no conditions. -/
import Derived.Test.YtckikiaockkmbaaTP4
import Derived.Test.YtckikiaockkmbaaChecked
namespace Go.Proofs.Ytckikiaockkmbaa
open Go.RowKit Kit
set_option linter.unusedVariables false
/-- the skeleton of a slice of expressions: rows, and the slices in them; the numbers are free -/
inductive KidsK (w : World) (lo hi : Nat) : Value → List Ex → Prop
  | mk (b : Nat) (ks : List Ex) (S : Nat → Value) (hlo : lo ≤ b) (hhi : b < hi) (row : Row w b (ks.length * 3) 58)
      (c2 : ∀ i (h : i < ks.length), w.cell? ⟨b, i * 3 + 2, none⟩ = some (S i)) (r : ∀ i (h : i < ks.length), KidsK w lo hi (S i) ks[i].kids) : KidsK w lo hi (.slice (some ⟨b, 0, none⟩) ks.length ks.length) ks
/-- the skeleton of a slice of statements -/
inductive StsK (w : World) (lo hi : Nat) : Value → List St → Prop
  | mk (b : Nat) (l : List St) (SI SV SB SE : Nat → Value) (hlo : lo ≤ b) (hhi : b < hi) (row : Row w b (l.length * 11) 74)
      (c4 : ∀ i (h : i < l.length), w.cell? ⟨b, i * 11 + 4, none⟩ = some (SI i)) (c7 : ∀ i (h : i < l.length), w.cell? ⟨b, i * 11 + 7, none⟩ = some (SV i)) (c9 : ∀ i (h : i < l.length), w.cell? ⟨b, i * 11 + 9, none⟩ = some (SB i)) (c10 : ∀ i (h : i < l.length), w.cell? ⟨b, i * 11 + 10, none⟩ = some (SE i))
      (ri : ∀ i (h : i < l.length), KidsK w lo hi (SI i) l[i].index.kids) (rv : ∀ i (h : i < l.length), KidsK w lo hi (SV i) l[i].value.kids) (rb : ∀ i (h : i < l.length), StsK w lo hi (SB i) l[i].body) (re : ∀ i (h : i < l.length), StsK w lo hi (SE i) l[i].els) : StsK w lo hi (.slice (some ⟨b, 0, none⟩) l.length l.length) l
/-- a row whose slices stand -/
def Same3 (w w' : World) (lo hi : Nat) : Prop := ∀ b, lo ≤ b → b < hi → (∀ n, Row w b n 58 → Row w' b n 58 ∧ ∀ i, w'.cell? ⟨b, i * 3 + 2, none⟩ = w.cell? ⟨b, i * 3 + 2, none⟩) ∧
  (∀ n, Row w b n 74 → Row w' b n 74 ∧ ∀ i, w'.cell? ⟨b, i * 11 + 4, none⟩ = w.cell? ⟨b, i * 11 + 4, none⟩ ∧ w'.cell? ⟨b, i * 11 + 7, none⟩ = w.cell? ⟨b, i * 11 + 7, none⟩ ∧ w'.cell? ⟨b, i * 11 + 9, none⟩ = w.cell? ⟨b, i * 11 + 9, none⟩ ∧ w'.cell? ⟨b, i * 11 + 10, none⟩ = w.cell? ⟨b, i * 11 + 10, none⟩)
theorem Same3.refl (w : World) (lo hi : Nat) : Same3 w w lo hi := fun b _ _ => ⟨fun n h => ⟨h, fun _ => rfl⟩, fun n h => ⟨h, fun _ => ⟨rfl, rfl, rfl, rfl⟩⟩⟩
theorem Same3.trans {w w' w'' : World} {lo hi : Nat} (h : Same3 w w' lo hi) (k : Same3 w' w'' lo hi) : Same3 w w'' lo hi := fun b h1 h2 => by
  refine ⟨fun n r => ?_, fun n r => ?_⟩
  · obtain ⟨a, c⟩ := (h b h1 h2).1 n r
    obtain ⟨a', c'⟩ := (k b h1 h2).1 n a
    exact ⟨a', fun i => (c' i).trans (c i)⟩
  · obtain ⟨a, c⟩ := (h b h1 h2).2 n r
    obtain ⟨a', c'⟩ := (k b h1 h2).2 n a
    exact ⟨a', fun i => ⟨(c' i).1.trans (c i).1, (c' i).2.1.trans (c i).2.1, (c' i).2.2.1.trans (c i).2.2.1, (c' i).2.2.2.trans (c i).2.2.2⟩⟩
theorem Same3.of {w w' : World} {lo hi : Nat} (h : ∀ k, lo ≤ k → k < hi → w'.heap[k]? = w.heap[k]?) : Same3 w w' lo hi := fun b h1 h2 => by
  have hc : ∀ j, w'.cell? ⟨b, j, none⟩ = w.cell? ⟨b, j, none⟩ := fun j => World.cell?_of_block (w := w) (h b h1 h2)
  exact ⟨fun n r => ⟨r.keep (h b h1 h2), fun i => hc _⟩, fun n r => ⟨r.keep (h b h1 h2), fun i => ⟨hc _, hc _, hc _, hc _⟩⟩⟩
theorem Kit.Row.ty {w : World} {b n m : Nat} {T T' : TypeId} (h : Row w b n T) (k : Row w b m T') : T = T' ∧ n = m := by
  obtain ⟨cs, h1, h2⟩ := h.is
  obtain ⟨ds, k1, k2⟩ := k.is
  rw [h1] at k1; cases k1; exact ⟨rfl, h2.symm.trans k2⟩
/-- a number of an expression is written -/
theorem Same3.setE {w : World} {lo hi b n : Nat} (hr : Row w b n 58) (j : Nat) (hj : j % 3 ≠ 2) (v : Value) : Same3 w (w.setCell ⟨b, j, none⟩ v) lo hi := fun c h1 h2 => by
  by_cases e : c = b
  · subst e
    refine ⟨fun m r => ⟨r.set j v, fun i => World.cell?_setCell_other _ _ _ _ (fun q => ?_)⟩, fun m r => absurd (hr.ty r).1 (by decide)⟩
    have := (Addr.mk.inj q).2.1; omega
  · have hc : ∀ q, (w.setCell ⟨b, j, none⟩ v).cell? ⟨c, q, none⟩ = w.cell? ⟨c, q, none⟩ := fun q => World.cell?_of_block (w := w) (Below.heap_setCell _ _ _ _ e)
    exact ⟨fun m r => ⟨r.keep (Below.heap_setCell _ _ _ _ e), fun i => hc _⟩, fun m r => ⟨r.keep (Below.heap_setCell _ _ _ _ e), fun i => ⟨hc _, hc _, hc _, hc _⟩⟩⟩
theorem Same3.setS {w : World} {lo hi b n : Nat} (hr : Row w b n 74) (j : Nat) (hj : j % 11 ≠ 4 ∧ j % 11 ≠ 7 ∧ j % 11 ≠ 9 ∧ j % 11 ≠ 10) (v : Value) : Same3 w (w.setCell ⟨b, j, none⟩ v) lo hi := fun c h1 h2 => by
  by_cases e : c = b
  · subst e
    refine ⟨fun m r => absurd (hr.ty r).1 (by decide), fun m r => ⟨r.set j v, fun i => ⟨?_, ?_, ?_, ?_⟩⟩⟩
    all_goals
      refine World.cell?_setCell_other _ _ _ _ (fun q => ?_)
      have := (Addr.mk.inj q).2.1
      omega
  · have hc : ∀ q, (w.setCell ⟨b, j, none⟩ v).cell? ⟨c, q, none⟩ = w.cell? ⟨c, q, none⟩ := fun q => World.cell?_of_block (w := w) (Below.heap_setCell _ _ _ _ e)
    exact ⟨fun m r => ⟨r.keep (Below.heap_setCell _ _ _ _ e), fun i => hc _⟩, fun m r => ⟨r.keep (Below.heap_setCell _ _ _ _ e), fun i => ⟨hc _, hc _, hc _, hc _⟩⟩⟩
namespace KidsK
variable {w w' : World} {lo hi lo' hi' : Nat} {s : Value} {ks : List Ex}
theorem same (h : KidsK w lo hi s ks) (k : Same3 w w' lo hi) : KidsK w' lo hi s ks := by
  induction h with
  | mk b ks S hlo hhi row c2 r ih =>
    obtain ⟨a, c⟩ := (k b hlo hhi).1 _ row
    exact .mk b ks S hlo hhi a (fun i h => (c i).trans (c2 i h)) ih
theorem keep (h : KidsK w lo hi s ks) (hk : ∀ k, lo ≤ k → k < hi → w'.heap[k]? = w.heap[k]?) : KidsK w' lo hi s ks := h.same (.of hk)
theorem mono (h : KidsK w lo hi s ks) (hl : lo' ≤ lo) (hh : hi ≤ hi') : KidsK w lo' hi' s ks := by
  induction h with
  | mk b ks S hlo hhi row c2 r ih => exact .mk b ks S (by omega) (by omega) row c2 ih
theorem here (h : KidsK w lo hi s ks) : ∃ b, s = .slice (some ⟨b, 0, none⟩) ks.length ks.length ∧ lo ≤ b ∧ b < hi ∧ Row w b (ks.length * 3) 58 ∧ ∀ i (h : i < ks.length), ∃ u, w.cell? ⟨b, i * 3 + 2, none⟩ = some u ∧ KidsK w lo hi u ks[i].kids := by
  cases h with
  | mk b ks S hlo hhi row c2 r => exact ⟨b, rfl, hlo, hhi, row, fun i h => ⟨S i, c2 i h, r i h⟩⟩
end KidsK
namespace StsK
variable {w w' : World} {lo hi lo' hi' : Nat} {s : Value} {l : List St}
theorem same (h : StsK w lo hi s l) (k : Same3 w w' lo hi) : StsK w' lo hi s l := by
  induction h with
  | mk b l SI SV SB SE hlo hhi row c4 c7 c9 c10 ri rv rb re ihb ihe =>
    obtain ⟨a, c⟩ := (k b hlo hhi).2 _ row
    exact .mk b l SI SV SB SE hlo hhi a (fun i h => (c i).1.trans (c4 i h)) (fun i h => (c i).2.1.trans (c7 i h)) (fun i h => (c i).2.2.1.trans (c9 i h)) (fun i h => (c i).2.2.2.trans (c10 i h)) (fun i h => (ri i h).same k) (fun i h => (rv i h).same k) ihb ihe
theorem keep (h : StsK w lo hi s l) (hk : ∀ k, lo ≤ k → k < hi → w'.heap[k]? = w.heap[k]?) : StsK w' lo hi s l := h.same (.of hk)
theorem mono (h : StsK w lo hi s l) (hl : lo' ≤ lo) (hh : hi ≤ hi') : StsK w lo' hi' s l := by
  induction h with
  | mk b l SI SV SB SE hlo hhi row c4 c7 c9 c10 ri rv rb re ihb ihe => exact .mk b l SI SV SB SE (by omega) (by omega) row c4 c7 c9 c10 (fun i h => (ri i h).mono hl hh) (fun i h => (rv i h).mono hl hh) ihb ihe
theorem here (h : StsK w lo hi s l) : ∃ b, s = .slice (some ⟨b, 0, none⟩) l.length l.length ∧ lo ≤ b ∧ b < hi ∧ Row w b (l.length * 11) 74 ∧ ∀ i (h : i < l.length), ∃ u4 u7 u9 u10, w.cell? ⟨b, i * 11 + 4, none⟩ = some u4 ∧ w.cell? ⟨b, i * 11 + 7, none⟩ = some u7 ∧ w.cell? ⟨b, i * 11 + 9, none⟩ = some u9 ∧ w.cell? ⟨b, i * 11 + 10, none⟩ = some u10 ∧
    KidsK w lo hi u4 l[i].index.kids ∧ KidsK w lo hi u7 l[i].value.kids ∧ StsK w lo hi u9 l[i].body ∧ StsK w lo hi u10 l[i].els := by
  cases h with
  | mk b l SI SV SB SE hlo hhi row c4 c7 c9 c10 ri rv rb re => exact ⟨b, rfl, hlo, hhi, row, fun i h => ⟨SI i, SV i, SB i, SE i, c4 i h, c7 i h, c9 i h, c10 i h, ri i h, rv i h, rb i h, re i h⟩⟩
end StsK
/-- reads, and may be written -/
structure KidsU (w : World) (lo hi : Nat) (s : Value) (ks : List Ex) : Prop where
  r : KidsR w lo hi s ks
  k : KidsK w lo hi s ks
structure StsU (w : World) (lo hi : Nat) (s : Value) (l : List St) : Prop where
  r : StsR w lo hi s l
  k : StsK w lo hi s l
namespace KidsU
variable {w w' : World} {lo hi lo' hi' : Nat} {s : Value} {ks : List Ex}
theorem keep (h : KidsU w lo hi s ks) (hk : ∀ k, lo ≤ k → k < hi → w'.heap[k]? = w.heap[k]?) : KidsU w' lo hi s ks := ⟨h.r.keep hk, h.k.keep hk⟩
theorem mono (h : KidsU w lo hi s ks) (hl : lo' ≤ lo) (hh : hi ≤ hi') : KidsU w lo' hi' s ks := ⟨h.r.mono hl hh, h.k.mono hl hh⟩
theorem kp (h : KidsU w lo hi s ks) {T : Nat → Prop} (hk : Kp T w w') (hh : hi ≤ w.heap.size) (ht : ∀ k, T k → k < lo ∨ hi ≤ k) : KidsU w' lo hi s ks := h.keep fun k h1 h2 => hk.block k (by omega) (fun s => by have := ht k s; omega)
theorem new (h : KidsU w lo hi s ks) (hh : hi ≤ w.heap.size) (hk : New w w') : KidsU w' lo hi s ks := h.kp hk hh (fun _ f => f.elim)
theorem set (h : KidsU w lo hi s ks) {b : Nat} (hb : b < lo ∨ hi ≤ b) (o : Nat) (v : Value) : KidsU (w.setCell ⟨b, o, none⟩ v) lo hi s ks := h.keep fun k h1 h2 => Below.heap_setCell _ _ _ _ (by show k ≠ b; omega)
theorem len (h : KidsU w lo hi s ks) : ∃ a cap, s = .slice a ks.length cap ∧ ks.length ≤ 9223372036854775807 := h.r.len
end KidsU
namespace StsU
variable {w w' : World} {lo hi lo' hi' : Nat} {s : Value} {l : List St}
theorem keep (h : StsU w lo hi s l) (hk : ∀ k, lo ≤ k → k < hi → w'.heap[k]? = w.heap[k]?) : StsU w' lo hi s l := ⟨h.r.keep hk, h.k.keep hk⟩
theorem mono (h : StsU w lo hi s l) (hl : lo' ≤ lo) (hh : hi ≤ hi') : StsU w lo' hi' s l := ⟨h.r.mono hl hh, h.k.mono hl hh⟩
theorem kp (h : StsU w lo hi s l) {T : Nat → Prop} (hk : Kp T w w') (hh : hi ≤ w.heap.size) (ht : ∀ k, T k → k < lo ∨ hi ≤ k) : StsU w' lo hi s l := h.keep fun k h1 h2 => hk.block k (by omega) (fun s => by have := ht k s; omega)
theorem new (h : StsU w lo hi s l) (hh : hi ≤ w.heap.size) (hk : New w w') : StsU w' lo hi s l := h.kp hk hh (fun _ f => f.elim)
theorem set (h : StsU w lo hi s l) {b : Nat} (hb : b < lo ∨ hi ≤ b) (o : Nat) (v : Value) : StsU (w.setCell ⟨b, o, none⟩ v) lo hi s l := h.keep fun k h1 h2 => Below.heap_setCell _ _ _ _ (by show k ≠ b; omega)
theorem len (h : StsU w lo hi s l) : ∃ a cap, s = .slice a l.length cap ∧ l.length ≤ 9223372036854775807 := h.r.len
end StsU
/-- a row of expressions that is filled -/
structure FilledU (w : World) (b : Nat) (l : List Ex) (j : Nat) : Prop where
  f : Filled w b l j
  k : ∃ S : Nat → Value, ∀ i (h : i < l.length), i < j → w.cell? ⟨b, i * 3 + 2, none⟩ = some (S i) ∧ KidsK w (b + 1) w.heap.size (S i) l[i].kids
theorem FilledU.zero (w : World) (b : Nat) (l : List Ex) : FilledU w b l 0 := ⟨.zero _ _ _, fun _ => .nilIface, fun i _ h => absurd h (Nat.not_lt_zero _)⟩
theorem FilledU.new {w w' : World} {b : Nat} {l : List Ex} {j : Nat} (h : FilledU w b l j) (hb : b < w.heap.size) (k : New w w') : FilledU w' b l j := by
  obtain ⟨hf, S, hS⟩ := h
  refine ⟨hf.new hb k, S, fun i hi hij => ?_⟩
  obtain ⟨c, d⟩ := hS i hi hij
  exact ⟨(k.cell hb (fun f => f) _).trans c, (d.keep fun q h1 h2 => k.block q h2 (fun f => f)).mono (Nat.le_refl _) k.size⟩
theorem FilledU.step {w : World} {b : Nat} {T : TypeId} {l : List Ex} {j : Nat} (h : FilledU w b l j) (hr : Row w b (l.length * 3) T) (hj : j < l.length) {s : Value} {k v : Int} (hk : k = l[j].kind) (hv : v = l[j].val) (hs : KidsU w (b + 1) w.heap.size s l[j].kids) :
    FilledU (((w.setCell ⟨b, j * 3, none⟩ (.int .i64 k)).setCell ⟨b, j * 3 + 1, none⟩ (.int .i64 v)).setCell ⟨b, j * 3 + 2, none⟩ s) b l (j + 1) := by
  obtain ⟨hf, S, hS⟩ := h
  refine ⟨hf.step hr hj hk hv hs.r, fun i => if i = j then s else S i, fun i hi hij => ?_⟩
  have K' : ∀ {s' : Value} {ks : List Ex}, KidsK w (b + 1) w.heap.size s' ks → KidsK (((w.setCell ⟨b, j * 3, none⟩ (.int .i64 k)).setCell ⟨b, j * 3 + 1, none⟩ (.int .i64 v)).setCell ⟨b, j * 3 + 2, none⟩ s) (b + 1) (((w.setCell ⟨b, j * 3, none⟩ (.int .i64 k)).setCell ⟨b, j * 3 + 1, none⟩ (.int .i64 v)).setCell ⟨b, j * 3 + 2, none⟩ s).heap.size s' ks := fun h => by
    simp only [World.size_setCell]
    exact h.keep fun q h1 h2 => by rw [Below.heap_setCell _ _ _ _ (by show q ≠ b; omega), Below.heap_setCell _ _ _ _ (by show q ≠ b; omega), Below.heap_setCell _ _ _ _ (by show q ≠ b; omega)]
  have ne : ∀ {p q : Nat}, p ≠ q → (⟨b, p, none⟩ : Addr) ≠ ⟨b, q, none⟩ := fun hpq e => hpq (Addr.mk.inj e).2.1
  by_cases e : i = j
  · subst e
    simp only [if_true]
    obtain ⟨x2, h2⟩ := hr.cell (i * 3 + 2) (by omega)
    exact ⟨World.cell?_setCell_same _ _ _ ((World.cell?_setCell_other _ _ _ _ (ne (by omega))).trans ((World.cell?_setCell_other _ _ _ _ (ne (by omega))).trans h2)), K' hs.k⟩
  · obtain ⟨c, d⟩ := hS i hi (by omega)
    simp only [e, if_false]
    exact ⟨by rw [World.cell?_setCell_other _ _ _ _ (ne (by omega)), World.cell?_setCell_other _ _ _ _ (ne (by omega)), World.cell?_setCell_other _ _ _ _ (ne (by omega))]; exact c, K' d⟩
theorem FilledU.done {w : World} {b : Nat} {l : List Ex} (h : FilledU w b l l.length) (hr : Row w b (l.length * 3) 58) (hm : l.length ≤ 9223372036854775807) : KidsU w b w.heap.size (.slice (some ⟨b, 0, none⟩) l.length l.length) l := by
  obtain ⟨hf, S, hS⟩ := h
  exact ⟨hf.done hr.lt hm, .mk b l S (Nat.le_refl _) hr.lt hr (fun i hi => (hS i hi hi).1) (fun i hi => (hS i hi hi).2.mono (Nat.le_succ _) (Nat.le_refl _))⟩
/-- a row of statements that is filled -/
structure FilledT (w : World) (b : Nat) (T : TypeId) (l : List St) (j : Nat) : Prop where
  f : FilledS w b T l j
  k : ∃ (SI SV SB SE : Nat → Value), ∀ i (h : i < l.length), i < j → (w.cell? ⟨b, i * 11 + 4, none⟩ = some (SI i) ∧ w.cell? ⟨b, i * 11 + 7, none⟩ = some (SV i) ∧ w.cell? ⟨b, i * 11 + 9, none⟩ = some (SB i) ∧ w.cell? ⟨b, i * 11 + 10, none⟩ = some (SE i)) ∧
    KidsK w (b + 1) w.heap.size (SI i) l[i].index.kids ∧ KidsK w (b + 1) w.heap.size (SV i) l[i].value.kids ∧ StsK w (b + 1) w.heap.size (SB i) l[i].body ∧ StsK w (b + 1) w.heap.size (SE i) l[i].els
namespace FilledT
variable {w w' : World} {b : Nat} {T : TypeId} {l : List St} {j : Nat}
theorem zero (w : World) (l : List St) (T : TypeId) (z : Value) : FilledT (w.alloc (.cells (mkCells z 11 l.length) T)) w.heap.size T l 0 :=
  ⟨.zero _ _ _ _, fun _ => .nilIface, fun _ => .nilIface, fun _ => .nilIface, fun _ => .nilIface, fun i _ h => absurd h (Nat.not_lt_zero _)⟩
theorem row (h : FilledT w b T l j) : Row w b (l.length * 11) T := h.f.row
theorem new (h : FilledT w b T l j) (k : New w w') : FilledT w' b T l j := by
  have hb := h.row.lt
  obtain ⟨hf, SI, SV, SB, SE, hS⟩ := h
  refine ⟨hf.new k, SI, SV, SB, SE, fun i hi hij => ?_⟩
  obtain ⟨⟨a, a2, a3, a4⟩, r1, r2, r3, r4⟩ := hS i hi hij
  have hc : ∀ j, w'.cell? ⟨b, j, none⟩ = w.cell? ⟨b, j, none⟩ := fun j => k.cell hb (fun f => f) j
  have hq : ∀ q, b + 1 ≤ q → q < w.heap.size → w'.heap[q]? = w.heap[q]? := fun q h1 h2 => k.block q h2 (fun f => f)
  exact ⟨⟨(hc _).trans a, (hc _).trans a2, (hc _).trans a3, (hc _).trans a4⟩, (r1.keep hq).mono (Nat.le_refl _) k.size, (r2.keep hq).mono (Nat.le_refl _) k.size, (r3.keep hq).mono (Nat.le_refl _) k.size, (r4.keep hq).mono (Nat.le_refl _) k.size⟩
theorem step (h : FilledT w b T l j) (hj : j < l.length) {i v bd el : Value} (ri : KidsU w (b + 1) w.heap.size i l[j].index.kids) (rv : KidsU w (b + 1) w.heap.size v l[j].value.kids) (rb : StsU w (b + 1) w.heap.size bd l[j].body) (re : StsU w (b + 1) w.heap.size el l[j].els)
    {v0 v1 v2 v3 v4 v5 v6 v7 v8 v9 v10 : Value} (e0 : v0 = encS l[j] i v bd el 0) (e1 : v1 = encS l[j] i v bd el 1) (e2 : v2 = encS l[j] i v bd el 2) (e3 : v3 = encS l[j] i v bd el 3) (e4 : v4 = encS l[j] i v bd el 4) (e5 : v5 = encS l[j] i v bd el 5) (e6 : v6 = encS l[j] i v bd el 6) (e7 : v7 = encS l[j] i v bd el 7) (e8 : v8 = encS l[j] i v bd el 8) (e9 : v9 = encS l[j] i v bd el 9) (e10 : v10 = encS l[j] i v bd el 10) :
    FilledT (((((((((((w.setCell ⟨b, j * 11, none⟩ v0).setCell ⟨b, j * 11 + 1, none⟩ v1).setCell ⟨b, j * 11 + 2, none⟩ v2).setCell ⟨b, j * 11 + 3, none⟩ v3).setCell ⟨b, j * 11 + 4, none⟩ v4).setCell ⟨b, j * 11 + 5, none⟩ v5).setCell ⟨b, j * 11 + 6, none⟩ v6).setCell ⟨b, j * 11 + 7, none⟩ v7).setCell ⟨b, j * 11 + 8, none⟩ v8).setCell ⟨b, j * 11 + 9, none⟩ v9).setCell ⟨b, j * 11 + 10, none⟩ v10) b T l (j + 1) := by
  have hf2 := h.f.step hj ri.r rv.r rb.r re.r e0 e1 e2 e3 e4 e5 e6 e7 e8 e9 e10
  have hrow := h.row
  obtain ⟨hf, SI, SV, SB, SE, hS⟩ := h
  have hk : Kp (fun x => x = b) w (((((((((((w.setCell ⟨b, j * 11, none⟩ v0).setCell ⟨b, j * 11 + 1, none⟩ v1).setCell ⟨b, j * 11 + 2, none⟩ v2).setCell ⟨b, j * 11 + 3, none⟩ v3).setCell ⟨b, j * 11 + 4, none⟩ v4).setCell ⟨b, j * 11 + 5, none⟩ v5).setCell ⟨b, j * 11 + 6, none⟩ v6).setCell ⟨b, j * 11 + 7, none⟩ v7).setCell ⟨b, j * 11 + 8, none⟩ v8).setCell ⟨b, j * 11 + 9, none⟩ v9).setCell ⟨b, j * 11 + 10, none⟩ v10) := (Kp.setCell (Kp.setCell (Kp.setCell (Kp.setCell (Kp.setCell (Kp.setCell (Kp.setCell (Kp.setCell (Kp.setCell (Kp.setCell (Kp.setCell (Kp.refl (fun x => x = b) _) (.inl rfl) _) (.inl rfl) _) (.inl rfl) _) (.inl rfl) _) (.inl rfl) _) (.inl rfl) _) (.inl rfl) _) (.inl rfl) _) (.inl rfl) _) (.inl rfl) _) (.inl rfl) _)
  have hz : (((((((((((w.setCell ⟨b, j * 11, none⟩ v0).setCell ⟨b, j * 11 + 1, none⟩ v1).setCell ⟨b, j * 11 + 2, none⟩ v2).setCell ⟨b, j * 11 + 3, none⟩ v3).setCell ⟨b, j * 11 + 4, none⟩ v4).setCell ⟨b, j * 11 + 5, none⟩ v5).setCell ⟨b, j * 11 + 6, none⟩ v6).setCell ⟨b, j * 11 + 7, none⟩ v7).setCell ⟨b, j * 11 + 8, none⟩ v8).setCell ⟨b, j * 11 + 9, none⟩ v9).setCell ⟨b, j * 11 + 10, none⟩ v10).heap.size = w.heap.size := by simp only [World.size_setCell]
  -- the new row tells its own cells
  have hnew := hf2
  obtain ⟨cs, TI, TV, TB, TE, q1, q2, q3⟩ := hf2.is
  obtain ⟨ds, UI, UV, UB, UE, p1, p2, p3⟩ := hf.is
  refine ⟨hnew, fun x => if x = j then i else SI x, fun x => if x = j then v else SV x, fun x => if x = j then bd else SB x, fun x => if x = j then el else SE x, fun x hx hxj => ?_⟩
  generalize hw : (((((((((((w.setCell ⟨b, j * 11, none⟩ v0).setCell ⟨b, j * 11 + 1, none⟩ v1).setCell ⟨b, j * 11 + 2, none⟩ v2).setCell ⟨b, j * 11 + 3, none⟩ v3).setCell ⟨b, j * 11 + 4, none⟩ v4).setCell ⟨b, j * 11 + 5, none⟩ v5).setCell ⟨b, j * 11 + 6, none⟩ v6).setCell ⟨b, j * 11 + 7, none⟩ v7).setCell ⟨b, j * 11 + 8, none⟩ v8).setCell ⟨b, j * 11 + 9, none⟩ v9).setCell ⟨b, j * 11 + 10, none⟩ v10) = w1 at *
  have hq : ∀ q, b + 1 ≤ q → q < w.heap.size → w1.heap[q]? = w.heap[q]? := fun q h1 h2 => hk.block q h2 (fun e => by omega)
  have K : ∀ {s : Value} {ks : List Ex}, KidsK w (b + 1) w.heap.size s ks → KidsK w1 (b + 1) w1.heap.size s ks := fun h => by rw [hz]; exact h.keep hq
  have S : ∀ {s : Value} {ks : List St}, StsK w (b + 1) w.heap.size s ks → StsK w1 (b + 1) w1.heap.size s ks := fun h => by rw [hz]; exact h.keep hq
  have ne : ∀ {p q : Nat}, p ≠ q → (⟨b, p, none⟩ : Addr) ≠ ⟨b, q, none⟩ := fun hpq e => hpq (Addr.mk.inj e).2.1
  by_cases e : x = j
  · subst e
    simp only [if_true]
    subst e4; subst e7; subst e9; subst e10
    refine ⟨⟨?_, ?_, ?_, ?_⟩, K ri.k, K rv.k, S rb.k, S re.k⟩
    all_goals rw [← hw]
    · obtain ⟨y, hy⟩ := hrow.cell (x * 11 + 4) (by omega)
      iterate 6 rw [World.cell?_setCell_other _ _ _ _ (ne (by omega))]
      refine World.cell?_setCell_same _ _ _ (u := y) ?_
      iterate 4 rw [World.cell?_setCell_other _ _ _ _ (ne (by omega))]
      exact hy
    · obtain ⟨y, hy⟩ := hrow.cell (x * 11 + 7) (by omega)
      iterate 3 rw [World.cell?_setCell_other _ _ _ _ (ne (by omega))]
      refine World.cell?_setCell_same _ _ _ (u := y) ?_
      iterate 7 rw [World.cell?_setCell_other _ _ _ _ (ne (by omega))]
      exact hy
    · obtain ⟨y, hy⟩ := hrow.cell (x * 11 + 9) (by omega)
      iterate 1 rw [World.cell?_setCell_other _ _ _ _ (ne (by omega))]
      refine World.cell?_setCell_same _ _ _ (u := y) ?_
      iterate 9 rw [World.cell?_setCell_other _ _ _ _ (ne (by omega))]
      exact hy
    · obtain ⟨y, hy⟩ := hrow.cell (x * 11 + 10) (by omega)
      refine World.cell?_setCell_same _ _ _ (u := y) ?_
      iterate 10 rw [World.cell?_setCell_other _ _ _ _ (ne (by omega))]
      exact hy
  · obtain ⟨⟨a, a2, a3, a4⟩, r1, r2, r3, r4⟩ := hS x hx (by omega)
    simp only [e, if_false]
    refine ⟨⟨?_, ?_, ?_, ?_⟩, K r1, K r2, S r3, S r4⟩
    all_goals rw [← hw]
    all_goals iterate 11 rw [World.cell?_setCell_other _ _ _ _ (ne (by omega))]
    all_goals assumption
theorem done (h : FilledT w b 74 l l.length) (hm : l.length ≤ 9223372036854775807) : StsU w b w.heap.size (.slice (some ⟨b, 0, none⟩) l.length l.length) l := by
  have hr := h.row
  obtain ⟨hf, SI, SV, SB, SE, hS⟩ := h
  exact ⟨hf.done hm, .mk b l SI SV SB SE (Nat.le_refl _) hr.lt hr (fun i hi => (hS i hi hi).1.1) (fun i hi => (hS i hi hi).1.2.1) (fun i hi => (hS i hi hi).1.2.2.1) (fun i hi => (hS i hi hi).1.2.2.2) (fun i hi => (hS i hi hi).2.1.mono (Nat.le_succ _) (Nat.le_refl _)) (fun i hi => (hS i hi hi).2.2.1.mono (Nat.le_succ _) (Nat.le_refl _)) (fun i hi => (hS i hi hi).2.2.2.1.mono (Nat.le_succ _) (Nat.le_refl _)) (fun i hi => (hS i hi hi).2.2.2.2.mono (Nat.le_succ _) (Nat.le_refl _))⟩
end FilledT
end Go.Proofs.Ytckikiaockkmbaa
