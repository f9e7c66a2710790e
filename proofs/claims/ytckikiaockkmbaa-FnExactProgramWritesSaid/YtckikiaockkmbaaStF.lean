/- Statements of the laws: rows of them that are filled; szStmt, toStmt, eqStmt and their lists. Condition: at most 2^20 nodes. -/
import Derived.Test.YtckikiaockkmbaaStmt
namespace Go.Proofs.Ytckikiaockkmbaa
open Go.RowKit Kit
set_option linter.unusedVariables false
theorem St.sizes_take_drop : ∀ (l : List St) (j : Nat), St.sizes l = St.sizes (l.take j) + St.sizes (l.drop j)
  | [], j => by simp [St.sizes]
  | e :: es, 0 => by simp [St.sizes]
  | e :: es, j + 1 => by have := St.sizes_take_drop es j; simp [St.sizes]; omega
theorem St.sizes_take_succ (l : List St) (j : Nat) (h : j < l.length) : St.sizes (l.take (j + 1)) = St.sizes (l.take j) + (Ex.sizes l[j].index.kids + Ex.sizes l[j].value.kids + St.sizes l[j].body + St.sizes l[j].els + 1) := by
  have h1 := St.sizes_take_drop (l.take (j + 1)) j
  rw [List.take_take, Nat.min_eq_left (Nat.le_succ j)] at h1
  rw [h1]; congr 1
  rw [List.take_succ_eq_append_getElem h, List.drop_append_of_le_length (by simp; omega), List.drop_of_length_le (by simp; omega)]
  simp [St.sizes, St.size_eq]
theorem St.parts_get (l : List St) (i : Nat) (h : i < l.length) : Ex.sizes l[i].index.kids + Ex.sizes l[i].value.kids + St.sizes l[i].body + St.sizes l[i].els + 1 ≤ St.sizes l := by
  have := St.sizes_get l i h; have := St.size_eq l[i]; omega
/-- the cells of a statement -/
def encS (x : St) (i v bd el : Value) : Nat → Value
  | 0 => .int .i64 x.kind | 1 => .int .i64 x.target | 2 => .int .i64 x.index.kind | 3 => .int .i64 x.index.val | 4 => i
  | 5 => .int .i64 x.value.kind | 6 => .int .i64 x.value.val | 7 => v | 8 => .int .i64 x.count | 9 => bd | _ => el
/-- the first j elements of the row b are those of l; what they lead to lies behind b -/
structure FilledS (w : World) (b : Nat) (T : TypeId) (l : List St) (j : Nat) : Prop where
  is : ∃ (cs : Array Value) (SI SV SB SE : Nat → Value), w.heap[b]? = some (.cells cs T (0, 0)) ∧ cs.size = l.length * 11 ∧ ∀ i (h : i < l.length), i < j →
    (∀ t, t < 11 → cs[i * 11 + t]? = some (encS l[i] (SI i) (SV i) (SB i) (SE i) t)) ∧
    KidsR w (b + 1) w.heap.size (SI i) l[i].index.kids ∧ KidsR w (b + 1) w.heap.size (SV i) l[i].value.kids ∧ StsR w (b + 1) w.heap.size (SB i) l[i].body ∧ StsR w (b + 1) w.heap.size (SE i) l[i].els
namespace FilledS
variable {w w' : World} {b : Nat} {T : TypeId} {l : List St} {j : Nat}
theorem zero (w : World) (l : List St) (T : TypeId) (z : Value) : FilledS (w.alloc (.cells (mkCells z 11 l.length) T)) w.heap.size T l 0 :=
  ⟨_, fun _ => .nilIface, fun _ => .nilIface, fun _ => .nilIface, fun _ => .nilIface, alloc_heap _ _, mkCells_size _ _ _, fun i _ h => absurd h (Nat.not_lt_zero _)⟩
theorem row (h : FilledS w b T l j) : Row w b (l.length * 11) T := by obtain ⟨cs, _, _, _, _, h1, h2, _⟩ := h.is; exact ⟨cs, h1, h2⟩
theorem new (h : FilledS w b T l j) (k : New w w') : FilledS w' b T l j := by
  have hb := h.row.lt
  obtain ⟨cs, SI, SV, SB, SE, h1, h2, h3⟩ := h.is
  refine ⟨cs, SI, SV, SB, SE, heap_new k h1, h2, fun i hi hij => ?_⟩
  obtain ⟨a, r1, r2, r3, r4⟩ := h3 i hi hij
  exact ⟨a, (r1.new (Nat.le_refl _) k).mono (Nat.le_refl _) k.size, (r2.new (Nat.le_refl _) k).mono (Nat.le_refl _) k.size, (r3.new (Nat.le_refl _) k).mono (Nat.le_refl _) k.size, (r4.new (Nat.le_refl _) k).mono (Nat.le_refl _) k.size⟩
theorem step (h : FilledS w b T l j) (hj : j < l.length) {i v bd el : Value} (ri : KidsR w (b + 1) w.heap.size i l[j].index.kids) (rv : KidsR w (b + 1) w.heap.size v l[j].value.kids) (rb : StsR w (b + 1) w.heap.size bd l[j].body) (re : StsR w (b + 1) w.heap.size el l[j].els)
    {v0 v1 v2 v3 v4 v5 v6 v7 v8 v9 v10 : Value} (e0 : v0 = encS l[j] i v bd el 0) (e1 : v1 = encS l[j] i v bd el 1) (e2 : v2 = encS l[j] i v bd el 2) (e3 : v3 = encS l[j] i v bd el 3) (e4 : v4 = encS l[j] i v bd el 4) (e5 : v5 = encS l[j] i v bd el 5) (e6 : v6 = encS l[j] i v bd el 6) (e7 : v7 = encS l[j] i v bd el 7) (e8 : v8 = encS l[j] i v bd el 8) (e9 : v9 = encS l[j] i v bd el 9) (e10 : v10 = encS l[j] i v bd el 10) :
    FilledS (((((((((((w.setCell ⟨b, j * 11, none⟩ v0).setCell ⟨b, j * 11 + 1, none⟩ v1).setCell ⟨b, j * 11 + 2, none⟩ v2).setCell ⟨b, j * 11 + 3, none⟩ v3).setCell ⟨b, j * 11 + 4, none⟩ v4).setCell ⟨b, j * 11 + 5, none⟩ v5).setCell ⟨b, j * 11 + 6, none⟩ v6).setCell ⟨b, j * 11 + 7, none⟩ v7).setCell ⟨b, j * 11 + 8, none⟩ v8).setCell ⟨b, j * 11 + 9, none⟩ v9).setCell ⟨b, j * 11 + 10, none⟩ v10) b T l (j + 1) := by
  rw [e0, e1, e2, e3, e4, e5, e6, e7, e8, e9, e10]
  obtain ⟨cs, SI, SV, SB, SE, h1, h2, h3⟩ := h.is
  have hk : Kp (fun x => x = b) w (((((((((((w.setCell ⟨b, j * 11, none⟩ (encS l[j] i v bd el 0)).setCell ⟨b, j * 11 + 1, none⟩ (encS l[j] i v bd el 1)).setCell ⟨b, j * 11 + 2, none⟩ (encS l[j] i v bd el 2)).setCell ⟨b, j * 11 + 3, none⟩ (encS l[j] i v bd el 3)).setCell ⟨b, j * 11 + 4, none⟩ (encS l[j] i v bd el 4)).setCell ⟨b, j * 11 + 5, none⟩ (encS l[j] i v bd el 5)).setCell ⟨b, j * 11 + 6, none⟩ (encS l[j] i v bd el 6)).setCell ⟨b, j * 11 + 7, none⟩ (encS l[j] i v bd el 7)).setCell ⟨b, j * 11 + 8, none⟩ (encS l[j] i v bd el 8)).setCell ⟨b, j * 11 + 9, none⟩ (encS l[j] i v bd el 9)).setCell ⟨b, j * 11 + 10, none⟩ (encS l[j] i v bd el 10)) := (Kp.setCell (Kp.setCell (Kp.setCell (Kp.setCell (Kp.setCell (Kp.setCell (Kp.setCell (Kp.setCell (Kp.setCell (Kp.setCell (Kp.setCell (Kp.refl (fun x => x = b) w) (.inl rfl) _) (.inl rfl) _) (.inl rfl) _) (.inl rfl) _) (.inl rfl) _) (.inl rfl) _) (.inl rfl) _) (.inl rfl) _) (.inl rfl) _) (.inl rfl) _) (.inl rfl) _)
  have hz : (((((((((((w.setCell ⟨b, j * 11, none⟩ (encS l[j] i v bd el 0)).setCell ⟨b, j * 11 + 1, none⟩ (encS l[j] i v bd el 1)).setCell ⟨b, j * 11 + 2, none⟩ (encS l[j] i v bd el 2)).setCell ⟨b, j * 11 + 3, none⟩ (encS l[j] i v bd el 3)).setCell ⟨b, j * 11 + 4, none⟩ (encS l[j] i v bd el 4)).setCell ⟨b, j * 11 + 5, none⟩ (encS l[j] i v bd el 5)).setCell ⟨b, j * 11 + 6, none⟩ (encS l[j] i v bd el 6)).setCell ⟨b, j * 11 + 7, none⟩ (encS l[j] i v bd el 7)).setCell ⟨b, j * 11 + 8, none⟩ (encS l[j] i v bd el 8)).setCell ⟨b, j * 11 + 9, none⟩ (encS l[j] i v bd el 9)).setCell ⟨b, j * 11 + 10, none⟩ (encS l[j] i v bd el 10)).heap.size = w.heap.size := by simp only [World.size_setCell]
  generalize hw : (((((((((((w.setCell ⟨b, j * 11, none⟩ (encS l[j] i v bd el 0)).setCell ⟨b, j * 11 + 1, none⟩ (encS l[j] i v bd el 1)).setCell ⟨b, j * 11 + 2, none⟩ (encS l[j] i v bd el 2)).setCell ⟨b, j * 11 + 3, none⟩ (encS l[j] i v bd el 3)).setCell ⟨b, j * 11 + 4, none⟩ (encS l[j] i v bd el 4)).setCell ⟨b, j * 11 + 5, none⟩ (encS l[j] i v bd el 5)).setCell ⟨b, j * 11 + 6, none⟩ (encS l[j] i v bd el 6)).setCell ⟨b, j * 11 + 7, none⟩ (encS l[j] i v bd el 7)).setCell ⟨b, j * 11 + 8, none⟩ (encS l[j] i v bd el 8)).setCell ⟨b, j * 11 + 9, none⟩ (encS l[j] i v bd el 9)).setCell ⟨b, j * 11 + 10, none⟩ (encS l[j] i v bd el 10)) = w1 at *
  have h4 : w1.heap[b]? = some (.cells (((((((((((cs.setIfInBounds (j * 11) (encS l[j] i v bd el 0)).setIfInBounds (j * 11 + 1) (encS l[j] i v bd el 1)).setIfInBounds (j * 11 + 2) (encS l[j] i v bd el 2)).setIfInBounds (j * 11 + 3) (encS l[j] i v bd el 3)).setIfInBounds (j * 11 + 4) (encS l[j] i v bd el 4)).setIfInBounds (j * 11 + 5) (encS l[j] i v bd el 5)).setIfInBounds (j * 11 + 6) (encS l[j] i v bd el 6)).setIfInBounds (j * 11 + 7) (encS l[j] i v bd el 7)).setIfInBounds (j * 11 + 8) (encS l[j] i v bd el 8)).setIfInBounds (j * 11 + 9) (encS l[j] i v bd el 9)).setIfInBounds (j * 11 + 10) (encS l[j] i v bd el 10)) T (0, 0)) := by rw [← hw]; exact (setCell_heap (setCell_heap (setCell_heap (setCell_heap (setCell_heap (setCell_heap (setCell_heap (setCell_heap (setCell_heap (setCell_heap (setCell_heap h1 _) _) _) _) _) _) _) _) _) _) _)
  have K : ∀ {s : Value} {ks : List Ex}, KidsR w (b + 1) w.heap.size s ks → KidsR w1 (b + 1) w1.heap.size s ks := fun h => by rw [hz]; exact h.kp hk (Nat.le_refl _) (fun x e => .inl (by omega))
  have S : ∀ {s : Value} {ks : List St}, StsR w (b + 1) w.heap.size s ks → StsR w1 (b + 1) w1.heap.size s ks := fun h => by rw [hz]; exact h.kp hk (Nat.le_refl _) (fun x e => .inl (by omega))
  refine ⟨_, fun x => if x = j then i else SI x, fun x => if x = j then v else SV x, fun x => if x = j then bd else SB x, fun x => if x = j then el else SE x, h4, by simpa using h2, fun x hx hxj => ?_⟩
  by_cases e : x = j
  · subst e
    simp only [if_true]
    refine ⟨fun t ht => ?_, K ri, K rv, S rb, S re⟩
    simp only [Array.getElem?_setIfInBounds, Array.size_setIfInBounds]
    match t, ht with
    | 0, _ => simp [h2]; omega
    | 1, _ => simp [h2]; omega
    | 2, _ => simp [h2]; omega
    | 3, _ => simp [h2]; omega
    | 4, _ => simp [h2]; omega
    | 5, _ => simp [h2]; omega
    | 6, _ => simp [h2]; omega
    | 7, _ => simp [h2]; omega
    | 8, _ => simp [h2]; omega
    | 9, _ => simp [h2]; omega
    | 10, _ => simp [h2]; omega
  · obtain ⟨a, r1, r2, r3, r4⟩ := h3 x hx (by omega)
    simp only [e, if_false]
    refine ⟨fun t ht => ?_, K r1, K r2, S r3, S r4⟩
    simp only [Array.getElem?_setIfInBounds, Array.size_setIfInBounds]
    rw [if_neg (by omega), if_neg (by omega), if_neg (by omega), if_neg (by omega), if_neg (by omega), if_neg (by omega), if_neg (by omega), if_neg (by omega), if_neg (by omega), if_neg (by omega), if_neg (by omega)]
    exact a t ht
theorem done (h : FilledS w b T l l.length) (hm : l.length ≤ 9223372036854775807) : StsR w b w.heap.size (.slice (some ⟨b, 0, none⟩) l.length l.length) l := by
  have hb := h.row.lt
  obtain ⟨cs, SI, SV, SB, SE, h1, h2, h3⟩ := h.is
  cases l with
  | nil => exact .nil _ _
  | cons e es =>
    refine .cons b 0 _ (e :: es) SI SV SB SE (by simp) (Nat.le_refl _) hb (Nat.le_refl _) hm (fun i hi => by have := (h3 i hi hi).1 0 (by omega); rw [Nat.zero_add]; exact (cell_of_heap h1 _).trans this) (fun i hi => by have := (h3 i hi hi).1 1 (by omega); rw [Nat.zero_add]; exact (cell_of_heap h1 _).trans this) (fun i hi => by have := (h3 i hi hi).1 2 (by omega); rw [Nat.zero_add]; exact (cell_of_heap h1 _).trans this) (fun i hi => by have := (h3 i hi hi).1 3 (by omega); rw [Nat.zero_add]; exact (cell_of_heap h1 _).trans this) (fun i hi => by have := (h3 i hi hi).1 4 (by omega); rw [Nat.zero_add]; exact (cell_of_heap h1 _).trans this) (fun i hi => by have := (h3 i hi hi).1 5 (by omega); rw [Nat.zero_add]; exact (cell_of_heap h1 _).trans this) (fun i hi => by have := (h3 i hi hi).1 6 (by omega); rw [Nat.zero_add]; exact (cell_of_heap h1 _).trans this) (fun i hi => by have := (h3 i hi hi).1 7 (by omega); rw [Nat.zero_add]; exact (cell_of_heap h1 _).trans this) (fun i hi => by have := (h3 i hi hi).1 8 (by omega); rw [Nat.zero_add]; exact (cell_of_heap h1 _).trans this) (fun i hi => by have := (h3 i hi hi).1 9 (by omega); rw [Nat.zero_add]; exact (cell_of_heap h1 _).trans this) (fun i hi => by have := (h3 i hi hi).1 10 (by omega); rw [Nat.zero_add]; exact (cell_of_heap h1 _).trans this) (fun i hi => (h3 i hi hi).2.1.mono (Nat.le_succ _) (Nat.le_refl _)) (fun i hi => (h3 i hi hi).2.2.1.mono (Nat.le_succ _) (Nat.le_refl _)) (fun i hi => (h3 i hi hi).2.2.2.1.mono (Nat.le_succ _) (Nat.le_refl _)) (fun i hi => (h3 i hi hi).2.2.2.2.mono (Nat.le_succ _) (Nat.le_refl _))
end FilledS
theorem Ex.eta' (e : Ex) : Ex.node e.kind e.val e.kids = e := by cases e; rfl
end Go.Proofs.Ytckikiaockkmbaa
