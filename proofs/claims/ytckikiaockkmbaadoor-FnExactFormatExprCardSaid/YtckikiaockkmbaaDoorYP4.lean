/- Statements of the laws: rows of them that are filled; szStmt, toStmt, eqStmt and their lists. Condition: at most 2^20 nodes. -/
import Derived.Test.YtckikiaockkmbaaDoorYP2
import Derived.Shelf.Abstract
import Derived.Test.YtckikiaockkmbaaDoorYP1
import Derived.StillTailTactics
import Derived.Deep.QuietTactic
import Derived.BigQuiet
import Derived.Deep.RegionHeld3
namespace Go.Proofs.YtckikiaockkmbaaDoor
open Go.RowKit Kit
set_option linter.unusedVariables false
theorem St.sizes_take_drop : ∀ (l : List St) (j : Nat), St.sizes l = St.sizes (l.take j) + St.sizes (l.drop j)
  | [], j => by simp [St.sizes]
  | e :: es, 0 => by simp [St.sizes]
  | e :: es, j + 1 => by have := St.sizes_take_drop es j; simp [St.sizes]; omega
theorem St.sizes_take_succ (l : List St) (j : Nat) (h : j < l.length) : St.sizes (l.take (j + 1)) = St.sizes (l.take j) + (Ex.sizes l[j].index.kids + Ex.sizes l[j].value.kids + St.sizes l[j].body + St.sizes l[j].els + 1) := by
  have h1 := St.sizes_take_drop (l.take (j + 1)) j
  rw [List.take_take, Nat.min_eq_left (Nat.le_succ j)] at h1
  rw [h1]; congr 1
  rw [List.take_succ_eq_append_getElem h, List.drop_append_of_le_length (by simp; omega), List.drop_of_length_le (by simp; omega)]
  simp [St.sizes, St.size_eq]
theorem St.parts_get (l : List St) (i : Nat) (h : i < l.length) : Ex.sizes l[i].index.kids + Ex.sizes l[i].value.kids + St.sizes l[i].body + St.sizes l[i].els + 1 ≤ St.sizes l := by
  have := St.sizes_get l i h; have := St.size_eq l[i]; omega
/-- the cells of a statement -/
def encS (x : St) (i v bd el : Value) : Nat → Value
  | 0 => .int .i64 x.kind | 1 => .int .i64 x.target | 2 => .int .i64 x.index.kind | 3 => .int .i64 x.index.val | 4 => i
  | 5 => .int .i64 x.value.kind | 6 => .int .i64 x.value.val | 7 => v | 8 => .int .i64 x.count | 9 => bd | _ => el
/-- the first j elements of the row b are those of l; what they lead to lies behind b -/
structure FilledS (w : World) (b : Nat) (T : TypeId) (l : List St) (j : Nat) : Prop where
  is : ∃ (cs : Array Value) (SI SV SB SE : Nat → Value), w.heap[b]? = some (.cells cs T (0, 0)) ∧ cs.size = l.length * 11 ∧ ∀ i (h : i < l.length), i < j →
    (∀ t, t < 11 → cs[i * 11 + t]? = some (encS l[i] (SI i) (SV i) (SB i) (SE i) t)) ∧
    KidsR w (b + 1) w.heap.size (SI i) l[i].index.kids ∧ KidsR w (b + 1) w.heap.size (SV i) l[i].value.kids ∧ StsR w (b + 1) w.heap.size (SB i) l[i].body ∧ StsR w (b + 1) w.heap.size (SE i) l[i].els
namespace FilledS
variable {w w' : World} {b : Nat} {T : TypeId} {l : List St} {j : Nat}
theorem zero (w : World) (l : List St) (T : TypeId) (z : Value) : FilledS (w.alloc (.cells (mkCells z 11 l.length) T)) w.heap.size T l 0 :=
  ⟨_, fun _ => .nilIface, fun _ => .nilIface, fun _ => .nilIface, fun _ => .nilIface, alloc_heap _ _, mkCells_size _ _ _, fun i _ h => absurd h (Nat.not_lt_zero _)⟩
theorem row (h : FilledS w b T l j) : Row w b (l.length * 11) T := by obtain ⟨cs, _, _, _, _, h1, h2, _⟩ := h.is; exact ⟨cs, h1, h2⟩
theorem new (h : FilledS w b T l j) (k : New w w') : FilledS w' b T l j := by
  have hb := h.row.lt
  obtain ⟨cs, SI, SV, SB, SE, h1, h2, h3⟩ := h.is
  refine ⟨cs, SI, SV, SB, SE, heap_new k h1, h2, fun i hi hij => ?_⟩
  obtain ⟨a, r1, r2, r3, r4⟩ := h3 i hi hij
  exact ⟨a, (r1.new (Nat.le_refl _) k).mono (Nat.le_refl _) k.size, (r2.new (Nat.le_refl _) k).mono (Nat.le_refl _) k.size, (r3.new (Nat.le_refl _) k).mono (Nat.le_refl _) k.size, (r4.new (Nat.le_refl _) k).mono (Nat.le_refl _) k.size⟩
theorem step (h : FilledS w b T l j) (hj : j < l.length) {i v bd el : Value} (ri : KidsR w (b + 1) w.heap.size i l[j].index.kids) (rv : KidsR w (b + 1) w.heap.size v l[j].value.kids) (rb : StsR w (b + 1) w.heap.size bd l[j].body) (re : StsR w (b + 1) w.heap.size el l[j].els)
    {v0 v1 v2 v3 v4 v5 v6 v7 v8 v9 v10 : Value} (e0 : v0 = encS l[j] i v bd el 0) (e1 : v1 = encS l[j] i v bd el 1) (e2 : v2 = encS l[j] i v bd el 2) (e3 : v3 = encS l[j] i v bd el 3) (e4 : v4 = encS l[j] i v bd el 4) (e5 : v5 = encS l[j] i v bd el 5) (e6 : v6 = encS l[j] i v bd el 6) (e7 : v7 = encS l[j] i v bd el 7) (e8 : v8 = encS l[j] i v bd el 8) (e9 : v9 = encS l[j] i v bd el 9) (e10 : v10 = encS l[j] i v bd el 10) :
    FilledS (((((((((((w.setCell ⟨b, j * 11, none⟩ v0).setCell ⟨b, j * 11 + 1, none⟩ v1).setCell ⟨b, j * 11 + 2, none⟩ v2).setCell ⟨b, j * 11 + 3, none⟩ v3).setCell ⟨b, j * 11 + 4, none⟩ v4).setCell ⟨b, j * 11 + 5, none⟩ v5).setCell ⟨b, j * 11 + 6, none⟩ v6).setCell ⟨b, j * 11 + 7, none⟩ v7).setCell ⟨b, j * 11 + 8, none⟩ v8).setCell ⟨b, j * 11 + 9, none⟩ v9).setCell ⟨b, j * 11 + 10, none⟩ v10) b T l (j + 1) := by
  rw [e0, e1, e2, e3, e4, e5, e6, e7, e8, e9, e10]
  obtain ⟨cs, SI, SV, SB, SE, h1, h2, h3⟩ := h.is
  have hk : Kp (fun x => x = b) w (((((((((((w.setCell ⟨b, j * 11, none⟩ (encS l[j] i v bd el 0)).setCell ⟨b, j * 11 + 1, none⟩ (encS l[j] i v bd el 1)).setCell ⟨b, j * 11 + 2, none⟩ (encS l[j] i v bd el 2)).setCell ⟨b, j * 11 + 3, none⟩ (encS l[j] i v bd el 3)).setCell ⟨b, j * 11 + 4, none⟩ (encS l[j] i v bd el 4)).setCell ⟨b, j * 11 + 5, none⟩ (encS l[j] i v bd el 5)).setCell ⟨b, j * 11 + 6, none⟩ (encS l[j] i v bd el 6)).setCell ⟨b, j * 11 + 7, none⟩ (encS l[j] i v bd el 7)).setCell ⟨b, j * 11 + 8, none⟩ (encS l[j] i v bd el 8)).setCell ⟨b, j * 11 + 9, none⟩ (encS l[j] i v bd el 9)).setCell ⟨b, j * 11 + 10, none⟩ (encS l[j] i v bd el 10)) := (Kp.setCell (Kp.setCell (Kp.setCell (Kp.setCell (Kp.setCell (Kp.setCell (Kp.setCell (Kp.setCell (Kp.setCell (Kp.setCell (Kp.setCell (Kp.refl (fun x => x = b) w) (.inl rfl) _) (.inl rfl) _) (.inl rfl) _) (.inl rfl) _) (.inl rfl) _) (.inl rfl) _) (.inl rfl) _) (.inl rfl) _) (.inl rfl) _) (.inl rfl) _) (.inl rfl) _)
  have hz : (((((((((((w.setCell ⟨b, j * 11, none⟩ (encS l[j] i v bd el 0)).setCell ⟨b, j * 11 + 1, none⟩ (encS l[j] i v bd el 1)).setCell ⟨b, j * 11 + 2, none⟩ (encS l[j] i v bd el 2)).setCell ⟨b, j * 11 + 3, none⟩ (encS l[j] i v bd el 3)).setCell ⟨b, j * 11 + 4, none⟩ (encS l[j] i v bd el 4)).setCell ⟨b, j * 11 + 5, none⟩ (encS l[j] i v bd el 5)).setCell ⟨b, j * 11 + 6, none⟩ (encS l[j] i v bd el 6)).setCell ⟨b, j * 11 + 7, none⟩ (encS l[j] i v bd el 7)).setCell ⟨b, j * 11 + 8, none⟩ (encS l[j] i v bd el 8)).setCell ⟨b, j * 11 + 9, none⟩ (encS l[j] i v bd el 9)).setCell ⟨b, j * 11 + 10, none⟩ (encS l[j] i v bd el 10)).heap.size = w.heap.size := by simp only [World.size_setCell]
  generalize hw : (((((((((((w.setCell ⟨b, j * 11, none⟩ (encS l[j] i v bd el 0)).setCell ⟨b, j * 11 + 1, none⟩ (encS l[j] i v bd el 1)).setCell ⟨b, j * 11 + 2, none⟩ (encS l[j] i v bd el 2)).setCell ⟨b, j * 11 + 3, none⟩ (encS l[j] i v bd el 3)).setCell ⟨b, j * 11 + 4, none⟩ (encS l[j] i v bd el 4)).setCell ⟨b, j * 11 + 5, none⟩ (encS l[j] i v bd el 5)).setCell ⟨b, j * 11 + 6, none⟩ (encS l[j] i v bd el 6)).setCell ⟨b, j * 11 + 7, none⟩ (encS l[j] i v bd el 7)).setCell ⟨b, j * 11 + 8, none⟩ (encS l[j] i v bd el 8)).setCell ⟨b, j * 11 + 9, none⟩ (encS l[j] i v bd el 9)).setCell ⟨b, j * 11 + 10, none⟩ (encS l[j] i v bd el 10)) = w1 at *
  have h4 : w1.heap[b]? = some (.cells (((((((((((cs.setIfInBounds (j * 11) (encS l[j] i v bd el 0)).setIfInBounds (j * 11 + 1) (encS l[j] i v bd el 1)).setIfInBounds (j * 11 + 2) (encS l[j] i v bd el 2)).setIfInBounds (j * 11 + 3) (encS l[j] i v bd el 3)).setIfInBounds (j * 11 + 4) (encS l[j] i v bd el 4)).setIfInBounds (j * 11 + 5) (encS l[j] i v bd el 5)).setIfInBounds (j * 11 + 6) (encS l[j] i v bd el 6)).setIfInBounds (j * 11 + 7) (encS l[j] i v bd el 7)).setIfInBounds (j * 11 + 8) (encS l[j] i v bd el 8)).setIfInBounds (j * 11 + 9) (encS l[j] i v bd el 9)).setIfInBounds (j * 11 + 10) (encS l[j] i v bd el 10)) T (0, 0)) := by rw [← hw]; exact (setCell_heap (setCell_heap (setCell_heap (setCell_heap (setCell_heap (setCell_heap (setCell_heap (setCell_heap (setCell_heap (setCell_heap (setCell_heap h1 _) _) _) _) _) _) _) _) _) _) _)
  have K : ∀ {s : Value} {ks : List Ex}, KidsR w (b + 1) w.heap.size s ks → KidsR w1 (b + 1) w1.heap.size s ks := fun h => by rw [hz]; exact h.kp hk (Nat.le_refl _) (fun x e => .inl (by omega))
  have S : ∀ {s : Value} {ks : List St}, StsR w (b + 1) w.heap.size s ks → StsR w1 (b + 1) w1.heap.size s ks := fun h => by rw [hz]; exact h.kp hk (Nat.le_refl _) (fun x e => .inl (by omega))
  refine ⟨_, fun x => if x = j then i else SI x, fun x => if x = j then v else SV x, fun x => if x = j then bd else SB x, fun x => if x = j then el else SE x, h4, by simpa using h2, fun x hx hxj => ?_⟩
  by_cases e : x = j
  · subst e
    simp only [if_true]
    refine ⟨fun t ht => ?_, K ri, K rv, S rb, S re⟩
    simp only [Array.getElem?_setIfInBounds, Array.size_setIfInBounds]
    match t, ht with
    | 0, _ => simp [h2]; omega
    | 1, _ => simp [h2]; omega
    | 2, _ => simp [h2]; omega
    | 3, _ => simp [h2]; omega
    | 4, _ => simp [h2]; omega
    | 5, _ => simp [h2]; omega
    | 6, _ => simp [h2]; omega
    | 7, _ => simp [h2]; omega
    | 8, _ => simp [h2]; omega
    | 9, _ => simp [h2]; omega
    | 10, _ => simp [h2]; omega
  · obtain ⟨a, r1, r2, r3, r4⟩ := h3 x hx (by omega)
    simp only [e, if_false]
    refine ⟨fun t ht => ?_, K r1, K r2, S r3, S r4⟩
    simp only [Array.getElem?_setIfInBounds, Array.size_setIfInBounds]
    rw [if_neg (by omega), if_neg (by omega), if_neg (by omega), if_neg (by omega), if_neg (by omega), if_neg (by omega), if_neg (by omega), if_neg (by omega), if_neg (by omega), if_neg (by omega), if_neg (by omega)]
    exact a t ht
theorem done (h : FilledS w b T l l.length) (hm : l.length ≤ 9223372036854775807) : StsR w b w.heap.size (.slice (some ⟨b, 0, none⟩) l.length l.length) l := by
  have hb := h.row.lt
  obtain ⟨cs, SI, SV, SB, SE, h1, h2, h3⟩ := h.is
  cases l with
  | nil => exact .nil _ _
  | cons e es =>
    refine .cons b 0 _ (e :: es) SI SV SB SE (by simp) (Nat.le_refl _) hb (Nat.le_refl _) hm (fun i hi => by have := (h3 i hi hi).1 0 (by omega); rw [Nat.zero_add]; exact (cell_of_heap h1 _).trans this) (fun i hi => by have := (h3 i hi hi).1 1 (by omega); rw [Nat.zero_add]; exact (cell_of_heap h1 _).trans this) (fun i hi => by have := (h3 i hi hi).1 2 (by omega); rw [Nat.zero_add]; exact (cell_of_heap h1 _).trans this) (fun i hi => by have := (h3 i hi hi).1 3 (by omega); rw [Nat.zero_add]; exact (cell_of_heap h1 _).trans this) (fun i hi => by have := (h3 i hi hi).1 4 (by omega); rw [Nat.zero_add]; exact (cell_of_heap h1 _).trans this) (fun i hi => by have := (h3 i hi hi).1 5 (by omega); rw [Nat.zero_add]; exact (cell_of_heap h1 _).trans this) (fun i hi => by have := (h3 i hi hi).1 6 (by omega); rw [Nat.zero_add]; exact (cell_of_heap h1 _).trans this) (fun i hi => by have := (h3 i hi hi).1 7 (by omega); rw [Nat.zero_add]; exact (cell_of_heap h1 _).trans this) (fun i hi => by have := (h3 i hi hi).1 8 (by omega); rw [Nat.zero_add]; exact (cell_of_heap h1 _).trans this) (fun i hi => by have := (h3 i hi hi).1 9 (by omega); rw [Nat.zero_add]; exact (cell_of_heap h1 _).trans this) (fun i hi => by have := (h3 i hi hi).1 10 (by omega); rw [Nat.zero_add]; exact (cell_of_heap h1 _).trans this) (fun i hi => (h3 i hi hi).2.1.mono (Nat.le_succ _) (Nat.le_refl _)) (fun i hi => (h3 i hi hi).2.2.1.mono (Nat.le_succ _) (Nat.le_refl _)) (fun i hi => (h3 i hi hi).2.2.2.1.mono (Nat.le_succ _) (Nat.le_refl _)) (fun i hi => (h3 i hi hi).2.2.2.2.mono (Nat.le_succ _) (Nat.le_refl _))
end FilledS
theorem Ex.eta' (e : Ex) : Ex.node e.kind e.val e.kids = e := by cases e; rfl
end Go.Proofs.YtckikiaockkmbaaDoor

/- What valid statements are, in plain words. No program in sight; no conditions. -/
namespace Go.Proofs.YtckikiaockkmbaaDoor.Val
open Go.RowKit Kit
set_option linter.unusedVariables false
def noneB (e : Ex) : Bool := e.kind == 0 && e.val == 0 && decide (e.kids.length = 0)
/-- the fields that a statement's kind does not have are zero values -/
def partsB (s : St) : Bool :=
  if s.kind = 4 then decide (s.target = 0) && decide (s.els.length = 0) && decide (1 ≤ s.count) && decide (s.count ≤ 3) && noneB s.index && noneB s.value
  else if s.kind = 3 then decide (s.target = 0) && decide (s.count = 0) && noneB s.index
  else decide (s.body.length = 0) && decide (s.els.length = 0) && decide (s.count = 0) && (s.kind == 2 || noneB s.index)
mutual
def stB (nv na : Nat) : St → Nat → Bool
  | .node k t i v c b e, d => decide (1 ≤ d) && partsB (.node k t i v c b e) &&
      (if k = 1 ∨ k = 5 then decide (0 ≤ t) && decide (t < nv) && right nv na v
       else if k = 2 then decide (0 ≤ t) && decide (t < na) && right nv na i && atom i && right nv na v
       else if k = 3 then right nv na v && blB nv na b (d - 1) && blB nv na e (d - 1)
       else if k = 4 then blB nv na b (d - 1) else false)
def blB (nv na : Nat) : List St → Nat → Bool
  | [], _ => true
  | s :: l, d => stB nv na s d && blB nv na l d
end
mutual
/-- how many statements -/
def stN : St → Nat | .node _ _ _ _ _ b e => 1 + stsN b + stsN e
def stsN : List St → Nat | [] => 0 | s :: l => stN s + stsN l
end
mutual
/-- how many statements, down to a depth -/
def stZ : St → Nat → Nat | .node _ _ _ _ _ b e, d => 1 + (if 1 < d then stsZ b (d - 1) + stsZ e (d - 1) else 0)
def stsZ : List St → Nat → Nat | [], _ => 0 | s :: l, d => stZ s d + stsZ l d
end
mutual
theorem stZ_le : ∀ (s : St) (d : Nat), stZ s d ≤ s.size
  | .node k t i v c b e, d => by
    have := stsZ_le b (d - 1); have := stsZ_le e (d - 1)
    rw [stZ, St.size]; split <;> omega
theorem stsZ_le : ∀ (l : List St) (d : Nat), stsZ l d ≤ St.sizes l
  | [], _ => by simp [stsZ]
  | s :: l, d => by have := stZ_le s d; have := stsZ_le l d; simp [stsZ, St.sizes]; omega
end
theorem blB_zero (nv na : Nat) : ∀ (l : List St), blB nv na l 0 = true → l = []
  | [], _ => rfl
  | s :: l, h => by cases s; simp [blB, stB] at h
theorem partsB_leaf {s : St} (h : partsB s = true) (h3 : s.kind ≠ 3) (h4 : s.kind ≠ 4) : s.body = [] ∧ s.els = [] := by
  unfold partsB at h
  rw [if_neg h4, if_neg h3] at h
  simp only [Bool.and_eq_true, decide_eq_true_eq] at h
  exact ⟨List.eq_nil_of_length_eq_zero h.1.1.1, List.eq_nil_of_length_eq_zero h.1.1.2⟩
mutual
theorem stZ_N (nv na : Nat) : ∀ (s : St) (d : Nat), stB nv na s d = true → stZ s d = stN s
  | .node k t i v c b e, d, h => by
    simp only [stB, Bool.and_eq_true, decide_eq_true_eq] at h
    obtain ⟨⟨hd, hp⟩, hk⟩ := h
    by_cases h3 : k = 3
    · subst h3
      simp only [Int.reduceEq, or_self, if_false, if_true, Bool.and_eq_true] at hk
      rw [stZ, stN]
      by_cases h1 : 1 < d
      · rw [if_pos h1, stsZ_N nv na b (d - 1) hk.1.2, stsZ_N nv na e (d - 1) hk.2]; omega
      · have e0 : d - 1 = 0 := by omega
        rw [e0] at hk
        rw [if_neg h1, blB_zero nv na b hk.1.2, blB_zero nv na e hk.2]; rfl
    · by_cases h4 : k = 4
      · subst h4
        simp only [Int.reduceEq, or_self, if_false, if_true] at hk
        have he : e = [] := by
          unfold partsB at hp
          rw [if_pos (show (St.node 4 t i v c b e).kind = 4 from rfl)] at hp
          simp only [Bool.and_eq_true, decide_eq_true_eq] at hp
          exact List.eq_nil_of_length_eq_zero hp.1.1.1.1.2
        subst he
        rw [stZ, stN]
        by_cases h1 : 1 < d
        · rw [if_pos h1, stsZ_N nv na b (d - 1) hk]; simp [stsZ, stsN]
        · have e0 : d - 1 = 0 := by omega
          rw [e0] at hk
          rw [if_neg h1, blB_zero nv na b hk]; rfl
      · obtain ⟨hb, he⟩ := partsB_leaf hp h3 h4
        have hb' : b = [] := hb
        have he' : e = [] := he
        subst hb'; subst he'
        rw [stZ, stN]; simp [stsZ, stsN]
theorem stsZ_N (nv na : Nat) : ∀ (l : List St) (d : Nat), blB nv na l d = true → stsZ l d = stsN l
  | [], _, _ => by simp [stsZ, stsN]
  | s :: l, d, h => by
    simp only [blB, Bool.and_eq_true] at h
    rw [stsZ, stsN, stZ_N nv na s d h.1, stsZ_N nv na l d h.2]
end
/-- what the program's stmt finds: from count c on -/
def stScan (nv na : Nat) (s : St) (d c : Nat) : Bool := stB nv na s d && decide (c + stN s ≤ 60)
def blScan (nv na : Nat) (l : List St) (d c : Nat) : Bool := blB nv na l d && decide (c + stsN l ≤ 60)
def progB (xa xb : List Int) (l : List St) : Bool := declB xa xb && blB xa.length xb.length l 5 && decide (stsZ l 5 ≤ 60)
end Go.Proofs.YtckikiaockkmbaaDoor.Val

/- slices.IndexFunc, slices.ContainsFunc at ints and at slices of ints; areLabels, areValues of impl. No conditions. -/
namespace Go.Proofs.YtckikiaockkmbaaDoor.Cont
open Go.RowKit Kit
set_option linter.unusedVariables false
set_option maxHeartbeats 1000000 in
theorem indexFuncI (f : Nat) (he : ∀ args w, (callFunc f args).run Tryd.prog w = .ok (.enter f args) w) (p : Int → Bool) (hf : ∀ (w : World) (x : Int), Calls Tryd.prog f #[.int .i64 x] w fun e w' => e = .returned (.bool (p x)) ∧ w = w')
    (w : World) (lo hi : Nat) (s : Value) (xs : List Int) (hs : IntsR w lo hi s xs) :
    Calls Tryd.prog 100 #[s, .func (.func f) #[] #[]] w fun e w' => (∃ r : Int, e = .returned (.int .i64 r) ∧ decide (0 ≤ r) = xs.any p) ∧ w = w' := by
  obtain ⟨a, c, rfl, hl1⟩ := hs.len
  have H := Lib.hid hf; clear hf
  go_enter Tryd.func100, Tryd.ntmps100
  go_wp2_with fail
  go_loop [8] (fun i => ∃ j : Nat, j ≤ xs.length ∧ i = .int .i64 j ∧ Hid ((xs.take j).any p = false)) (fun i => xs.length - (intOf i).toNat)
  case atStart => exact ⟨0, Nat.zero_le _, rfl, Lib.hid rfl⟩
  case round =>
    obtain ⟨j, hj, rfl, hA⟩ := hrel
    by_cases hlt : j < xs.length
    · obtain ⟨b, o, rfl, hb1, hb2, c0⟩ := hs.at j hlt
      have hs1 := Lib.hid (show (xs.take (j + 1)).any p = p xs[j] by rw [List.take_succ_eq_append_getElem hlt, List.any_append, hA.out]; simp)
      have hs2 := Lib.hid (show p xs[j] = true → xs.any p = true from fun h => List.any_eq_true.2 ⟨_, List.getElem_mem hlt, h⟩)
      clear hs hA
      generalize xs[j] = x at *
      go_wp2_with fail
      refine (H.out _ _).mono ?_
      rintro r w1 ⟨rfl, rfl⟩
      cases hp : p x
      · go_wp2
        go_round
        case rel => exact ⟨j + 1, by omega, by go_num, Lib.hid (by rw [hs1.out, hp])⟩
        case measure => simp [intOf]; omega
      · have hfin := Lib.hid (hs2.out hp)
        clear hs1 hs2 hp
        go_wp2
        go_ret
        exact ⟨⟨_, rfl, by rw [hfin.out]; simp⟩, rfl⟩
    · have hge : xs.length ≤ j := by omega
      have hfin := Lib.hid (show xs.any p = false by have h := hA.out; rwa [List.take_of_length_le hge] at h)
      clear hA hs
      go_wp2
      go_ret
      exact ⟨⟨_, rfl, by rw [hfin.out]; simp⟩, rfl⟩
theorem containsFuncI (f : Nat) (he : ∀ args w, (callFunc f args).run Tryd.prog w = .ok (.enter f args) w) (p : Int → Bool) (hf : ∀ (w : World) (x : Int), Calls Tryd.prog f #[.int .i64 x] w fun e w' => e = .returned (.bool (p x)) ∧ w = w')
    (w : World) (lo hi : Nat) (s : Value) (xs : List Int) (hs : IntsR w lo hi s xs) :
    Calls Tryd.prog 83 #[s, .func (.func f) #[] #[]] w fun e w' => e = .returned (.bool (xs.any p)) ∧ w = w' := by
  have H := Lib.hid hf; clear hf
  go_enter Tryd.func83, Tryd.ntmps83
  go_wp2_with fail
  refine (indexFuncI f he p H.out w lo hi s xs hs).mono ?_
  rintro e w1 ⟨⟨r, rfl, hr⟩, rfl⟩
  have hR := Lib.hid hr; clear hr
  go_wp2
  go_ret
  exact ⟨retB hR.out, rfl⟩
theorem areLabels1 (w : World) (x : Int) : Calls Tryd.prog 84 #[.int .i64 x] w fun e w' => e = .returned (.bool (!Lab.okL x)) ∧ w = w' := by
  go_enter Tryd.func84, Tryd.ntmps84
  go_wp2_with fail
  refine (Lab.implLabelValid _ _).mono ?_
  rintro r w1 ⟨rfl, rfl⟩
  go_wp2
  go_ret
  exact ⟨rfl, rfl⟩
theorem areLabels (w : World) (lo hi : Nat) (s : Value) (xs : List Int) (hs : IntsR w lo hi s xs) :
    Calls Tryd.prog 66 #[s] w fun e w' => e = .returned (.bool (Val.good xs)) ∧ w = w' := by
  have hg := Lib.hid (show Val.good xs = !(xs.any fun x => !Lab.okL x) by simp [Val.good, List.all_eq_not_any_not])
  go_enter Tryd.func66, Tryd.ntmps66
  go_wp2_with fail
  refine (containsFuncI 84 (enters_of Tryd.func84 (by kernel_rfl) rfl) (fun x => !Lab.okL x) areLabels1 w lo hi s xs hs).mono ?_
  rintro e w1 ⟨rfl, rfl⟩
  go_wp2
  go_ret
  exact ⟨retB hg.out.symm, rfl⟩
end Go.Proofs.YtckikiaockkmbaaDoor.Cont

/- declared, isMemory of impl; l2Heads, l3Values, l3Fits, l6Heads of spec. No conditions. -/
namespace Go.Proofs.YtckikiaockkmbaaDoor.Decl
open Go.RowKit Kit Val
set_option linter.unusedVariables false
set_option maxHeartbeats 1000000 in
theorem declared {w : World} {lo hi lo' hi' : Nat} {s t : Value} {xa xb : List Int} (sa : IntsR w lo hi s xa) (sb : IntsR w lo' hi' t xb) :
    Calls Tryd.prog 52 #[s, t] w fun e w' => e = .returned (.bool (declB xa xb)) ∧ w = w' := by
  have hA := Lib.hid sa; have hB := Lib.hid sb
  obtain ⟨a, c, rfl, m1⟩ := sa.len
  obtain ⟨a', c', rfl, m2⟩ := sb.len
  clear sa sb
  have D := Lib.hid (show declB xa xb = (Lab.inside xa.length 1 12 && decide (xb.length ≤ 2) && good xa && good xb) by
    have e1 : Lab.inside (xa.length : Int) 1 12 = (decide (1 ≤ xa.length) && decide (xa.length ≤ 12)) := by rw [Bool.eq_iff_iff]; simp [Lab.inside]; omega
    rw [declB, e1])
  cases h1 : Lab.inside (xa.length : Int) 1 12
  · go_enter Tryd.func52, Tryd.ntmps52
    go_wp2_with (go_at_call 22; refine (Lab.within _ _ _ _).mono ?_; rintro e w' ⟨rfl, rfl⟩)
    go_ret
    exact ⟨retB (by rw [D.out, h1]; rfl), rfl⟩
  · by_cases h2 : (xb.length : Int) ≤ 2
    · cases h3 : good xa
      · go_enter Tryd.func52, Tryd.ntmps52
        go_wp2_with (first | (go_at_call 22; refine (Lab.within _ _ _ _).mono ?_; rintro e w' ⟨rfl, rfl⟩) | (go_at_call 66; refine (Cont.areLabels _ _ _ _ _ hA.out).mono ?_; rintro e w' ⟨rfl, rfl⟩))
        go_ret
        exact ⟨retB (by rw [D.out, h1, h3]; simp), rfl⟩
      · go_enter Tryd.func52, Tryd.ntmps52
        go_wp2_with fail
        refine (Lab.within _ _ _ _).mono ?_
        rintro e w' ⟨rfl, rfl⟩
        go_wp2_with fail
        refine (Cont.areLabels _ _ _ _ _ hA.out).mono ?_
        rintro e w' ⟨rfl, rfl⟩
        go_wp2_with fail
        refine (Cont.areLabels _ _ _ _ _ hB.out).mono ?_
        rintro e w' ⟨rfl, rfl⟩
        go_wp2
        go_ret
        exact ⟨retB (by have h2' : decide (xb.length ≤ 2) = true := by simp; omega
                        rw [D.out, h1, h3, h2']; rfl), rfl⟩
    · go_enter Tryd.func52, Tryd.ntmps52
      go_wp2_with (go_at_call 22; refine (Lab.within _ _ _ _).mono ?_; rintro e w' ⟨rfl, rfl⟩)
      go_ret
      exact ⟨retB (by have h2' : decide (xb.length ≤ 2) = false := by simp; omega
                      rw [D.out, h1, h2']; rfl), rfl⟩
set_option maxHeartbeats 2000000 in
theorem heads {w : World} {lo hi : Nat} {ta tb tc : Value} {xa xb : List Int} (sa : IntsR w lo hi ta xa) (sb : IntsR w lo hi tb xb) (h1 : hi ≤ w.heap.size) :
    Calls Tryd.prog 48 #[.agg #[ta, tb, tc]] w fun e w' => e = .returned (.bool (declB xa xb)) ∧ New w w' := by
  obtain ⟨a, c, rfl, m1⟩ := sa.len
  obtain ⟨a', c', rfl, m2⟩ := sb.len
  go_enter Tryd.func48, Tryd.ntmps48
  go_wp2_with fail
  have N0 : New w (w.alloc (.cells #[.slice a xa.length c, .slice a' xb.length c', tc] 41)) := ((Kp.refl _ _).alloc _)
  have bA_0 : (w.alloc (.cells #[.slice a xa.length c, .slice a' xb.length c', tc] 41)).heap[w.heap.size]? = some (.cells #[.slice a xa.length c, .slice a' xb.length c', tc] 41) := alloc_heap _ _
  have z0 : w.heap.size < (w.alloc (.cells #[.slice a xa.length c, .slice a' xb.length c', tc] 41)).heap.size := by simp
  generalize (w.alloc (.cells #[.slice a xa.length c, .slice a' xb.length c', tc] 41)) = w0 at *
  have sa0 := sa.new h1 N0
  have sb0 := sb.new h1 N0
  clear sa sb
  obtain ⟨bA_0_c0, bA_0_c1⟩ := cells2 bA_0
  go_loop [3] (fun i => ∃ j : Nat, j ≤ xa.length ∧ i = .int .i64 j ∧ Hid (good (xa.take j) = true)) (fun i => xa.length - (intOf i).toNat)
  case atStart => exact ⟨0, Nat.zero_le _, rfl, Lib.hid rfl⟩
  case round =>
    obtain ⟨j, hj, rfl, hG⟩ := hrel
    by_cases hlt : j < xa.length
    · obtain ⟨b, o, rfl, hb1, hb2, c0⟩ := IntsR.at sa0 j hlt
      have hB := Lib.hid (good_bad (xs := xa) hlt)
      have hT := Lib.hid (good_take (xs := xa) hlt)
      clear sa0
      generalize xa[j] = x at *
      go_wp2_with fail
      refine (Lab.specLabelValid _ _).mono ?_
      rintro r w1 ⟨rfl, rfl⟩
      cases hp : Lab.okL x
      · have hfin := Lib.hid (show declB xa xb = false by rw [declB, hB.out hp]; simp)
        clear hB hT
        go_wp2
        go_ret
        exact ⟨retB hfin.out.symm, N0⟩
      · have hG2 := Lib.hid (show good (xa.take (j + 1)) = true by rw [hT.out, hG.out, hp]; rfl)
        clear hB hT hG
        go_wp2
        go_round
        case rel => exact ⟨j + 1, by omega, by go_num, hG2⟩
        case measure => simp [intOf]; omega
    · have hGA := Lib.hid (show good xa = true by have h := hG.out; rwa [List.take_of_length_le (by omega)] at h)
      have hge : xa.length ≤ j := by omega
      clear hG sa0
      go_wp2_with fail
      go_loop [4] (fun i => ∃ j : Nat, j ≤ xb.length ∧ i = .int .i64 j ∧ Hid (good (xb.take j) = true)) (fun i => xb.length - (intOf i).toNat)
      case atStart => exact ⟨0, Nat.zero_le _, rfl, Lib.hid rfl⟩
      case round =>
        obtain ⟨j, hj, rfl, hG⟩ := hrel
        by_cases hlt : j < xb.length
        · obtain ⟨b, o, rfl, hb1, hb2, c0⟩ := IntsR.at sb0 j hlt
          have hB := Lib.hid (good_bad (xs := xb) hlt)
          have hT := Lib.hid (good_take (xs := xb) hlt)
          clear sb0
          generalize xb[j] = x at *
          go_wp2_with fail
          refine (Lab.specLabelValid _ _).mono ?_
          rintro r w1 ⟨rfl, rfl⟩
          cases hp : Lab.okL x
          · have hfin := Lib.hid (show declB xa xb = false by rw [declB, hB.out hp]; simp)
            clear hB hT
            go_wp2
            go_ret
            exact ⟨retB hfin.out.symm, N0⟩
          · have hG2 := Lib.hid (show good (xb.take (j + 1)) = true by rw [hT.out, hG.out, hp]; rfl)
            clear hB hT hG
            go_wp2
            go_round
            case rel => exact ⟨j + 1, by omega, by go_num, hG2⟩
            case measure => simp [intOf]; omega
        · have hGB := Lib.hid (show good xb = true by have h := hG.out; rwa [List.take_of_length_le (by omega)] at h)
          have hge2 : xb.length ≤ j := by omega
          have D := Lib.hid (show declB xa xb = (decide (1 ≤ xa.length) && decide (xa.length ≤ 12) && decide (xb.length ≤ 2)) by rw [declB, hGA.out, hGB.out]; simp)
          clear hG sb0 hGA hGB
          by_cases g1 : (1 : Int) ≤ xa.length
          · by_cases g2 : (xa.length : Int) ≤ 12
            · by_cases g3 : (xb.length : Int) ≤ 2
              · have hfin := Lib.hid (show declB xa xb = true by rw [D.out]; simp; omega)
                go_wp2
                go_ret
                exact ⟨retB hfin.out.symm, N0⟩
              · have hfin := Lib.hid (show declB xa xb = false by rw [D.out]; simp; omega)
                go_wp2
                go_ret
                exact ⟨retB hfin.out.symm, N0⟩
            · have hfin := Lib.hid (show declB xa xb = false by rw [D.out]; simp; omega)
              go_wp2
              go_ret
              exact ⟨retB hfin.out.symm, N0⟩
          · have hfin := Lib.hid (show declB xa xb = false by rw [D.out]; simp; omega)
            go_wp2
            go_ret
            exact ⟨retB hfin.out.symm, N0⟩
set_option maxHeartbeats 1000000 in
theorem values {w : World} {lo hi : Nat} {s : Value} {xs : List Int} (hs : IntsR w lo hi s xs) : Calls Tryd.prog 104 #[s] w fun e w' => e = .returned (.bool (okVs xs)) ∧ w = w' := by
  obtain ⟨a, c, rfl, hl1⟩ := hs.len
  go_enter Tryd.func104, Tryd.ntmps104
  go_wp2_with fail
  go_loop [3] (fun i => ∃ j : Nat, j ≤ xs.length ∧ i = .int .i64 j ∧ Hid (okVs (xs.take j) = true)) (fun i => xs.length - (intOf i).toNat)
  case atStart => exact ⟨0, Nat.zero_le _, rfl, Lib.hid rfl⟩
  case round =>
    obtain ⟨j, hj, rfl, hG⟩ := hrel
    by_cases hlt : j < xs.length
    · obtain ⟨b, o, rfl, hb1, hb2, c0⟩ := IntsR.at hs j hlt
      have hB := Lib.hid (okVs_bad (xs := xs) hlt)
      have hT := Lib.hid (okVs_take (xs := xs) hlt)
      clear hs
      generalize xs[j] = x at *
      have hV := Lib.hid (show okV x = (decide (0 ≤ x) && decide (x ≤ 255)) by simp [okV, Lab.inside])
      by_cases g1 : x < 0
      · have hfin := Lib.hid (hB.out (by rw [hV.out]; simp; omega))
        go_wp2
        go_ret
        exact ⟨retB hfin.out.symm, rfl⟩
      · by_cases g2 : x ≤ 255
        · have hG2 := Lib.hid (show okVs (xs.take (j + 1)) = true by rw [hT.out, hG.out, hV.out]; simp; omega)
          clear hB hT hG hV
          go_wp2
          go_round
          case rel => exact ⟨j + 1, by omega, by go_num, hG2⟩
          case measure => simp [intOf]; omega
        · have hfin := Lib.hid (hB.out (by rw [hV.out]; simp; omega))
          go_wp2
          go_ret
          exact ⟨retB hfin.out.symm, rfl⟩
    · have hfin := Lib.hid (show okVs xs = true by have h := hG.out; rwa [List.take_of_length_le (by omega)] at h)
      have hge : xs.length ≤ j := by omega
      clear hG hs
      go_wp2
      go_ret
      exact ⟨retB hfin.out.symm, rfl⟩
set_option maxHeartbeats 2000000 in
theorem fits {w : World} {lo hi : Nat} {a a' : Option Addr} {n c n' c' : Nat} {tc ma mb : Value} {ya : List Int} {yb : List (List Int)} (ra : IntsR w lo hi ma ya) (rb : MatR w lo hi mb yb) (h1 : hi ≤ w.heap.size) :
    Calls Tryd.prog 91 #[.agg #[.slice a n c, .slice a' n' c', tc], .agg #[ma, mb]] w fun e w' => e = .returned (.bool (fitB n n' ya yb)) ∧ New w w' := by
  obtain ⟨c2, d2, rfl, m1⟩ := ra.len
  obtain ⟨c3, d3, rfl, m2⟩ := rb.len
  by_cases e1 : ya.length = n
  · by_cases e2 : yb.length = n'
    · have f1 : ((ya.length : Int) != (n : Int)) = false := by simp; omega
      have f2 : ((yb.length : Int) != (n' : Int)) = false := by simp; omega
      have D := Lib.hid (show fitB n n' ya yb = (okVs ya && yb.all rowB) by simp [fitB, e1, e2])
      clear e1 e2
      go_enter Tryd.func91, Tryd.ntmps91
      go_wp2_with fail
      have N0 : New w ((w.alloc (.cells #[.slice a n c, .slice a' n' c', tc] 41)).alloc (.cells #[.slice c2 ya.length d2, .slice c3 yb.length d3] 101)) := (((Kp.refl _ _).alloc _).alloc _)
      have bA_0 : ((w.alloc (.cells #[.slice a n c, .slice a' n' c', tc] 41)).alloc (.cells #[.slice c2 ya.length d2, .slice c3 yb.length d3] 101)).heap[w.heap.size]? = some (.cells #[.slice a n c, .slice a' n' c', tc] 41) := heap_old (alloc_heap _ _)
      have bB_0 : ((w.alloc (.cells #[.slice a n c, .slice a' n' c', tc] 41)).alloc (.cells #[.slice c2 ya.length d2, .slice c3 yb.length d3] 101)).heap[w.heap.size + 1]? = some (.cells #[.slice c2 ya.length d2, .slice c3 yb.length d3] 101) := heap_at (by simp)
      have z0 : w.heap.size + 1 < ((w.alloc (.cells #[.slice a n c, .slice a' n' c', tc] 41)).alloc (.cells #[.slice c2 ya.length d2, .slice c3 yb.length d3] 101)).heap.size := by simp
      generalize ((w.alloc (.cells #[.slice a n c, .slice a' n' c', tc] 41)).alloc (.cells #[.slice c2 ya.length d2, .slice c3 yb.length d3] 101)) = w0 at *
      obtain ⟨bA_0_c0, bA_0_c1, bA_0_c2⟩ := cells3 bA_0
      obtain ⟨bB_0_c0, bB_0_c1⟩ := cells2 bB_0
      have rb0 := rb.new h1 N0
      have RA := Lib.hid (ra.new h1 N0)
      clear ra rb
      refine (values RA.out).mono ?_
      rintro e w' ⟨rfl, rfl⟩
      cases hv : okVs ya
      · go_wp2
        go_ret
        exact ⟨retB (by rw [D.out, hv]; rfl), N0⟩
      · go_wp2_with fail
        go_loop [5] (fun i => ∃ j : Nat, j ≤ yb.length ∧ i = .int .i64 j ∧ Hid ((yb.take j).all rowB = true)) (fun i => yb.length - (intOf i).toNat)
        case atStart => exact ⟨0, Nat.zero_le _, rfl, Lib.hid rfl⟩
        case round =>
          obtain ⟨j, hj, rfl, hG⟩ := hrel
          by_cases hlt : j < yb.length
          · obtain ⟨b, o, s, rfl, hb1, hb2, g0, q0⟩ := rb0.at' j hlt
            obtain ⟨x2, x3, rfl, _⟩ := q0.len
            have Q := Lib.hid q0
            have hB := Lib.hid (all_bad (p := rowB) (xs := yb) hlt)
            have hT := Lib.hid (all_take (p := rowB) (xs := yb) hlt)
            clear rb0 q0
            generalize yb[j] = x at *
            by_cases h4 : x.length = 4
            · have e4 : ((x.length : Int) != 4) = false := by simp [h4]
              have hR := Lib.hid (show rowB x = okVs x by simp [rowB, h4])
              clear h4
              go_wp2_with fail
              refine (values Q.out).mono ?_
              rintro r w1 ⟨rfl, rfl⟩
              cases hp : okVs x
              · have hfin := Lib.hid (show fitB n n' ya yb = false by rw [D.out, hB.out (by rw [hR.out, hp])]; simp)
                clear hB hT
                go_wp2
                go_ret
                exact ⟨retB hfin.out.symm, N0⟩
              · have hG2 := Lib.hid (show (yb.take (j + 1)).all rowB = true by rw [hT.out, hG.out, hR.out, hp]; rfl)
                clear hB hT hG
                go_wp2
                go_round
                case rel => exact ⟨j + 1, by omega, by go_num, hG2⟩
                case measure => simp [intOf]; omega
            · have e4 : ((x.length : Int) != 4) = true := by simp; omega
              have hfin := Lib.hid (show fitB n n' ya yb = false by rw [D.out, hB.out (by simp [rowB, h4])]; simp)
              clear hB hT h4
              go_wp2
              go_ret
              exact ⟨retB hfin.out.symm, N0⟩
          · have hfin := Lib.hid (show fitB n n' ya yb = true by
              have h := hG.out
              rw [List.take_of_length_le (by omega)] at h
              rw [D.out, hv, h]; rfl)
            have hge : yb.length ≤ j := by omega
            clear hG rb0
            go_wp2
            go_ret
            exact ⟨retB hfin.out.symm, N0⟩
    · have f1 : ((ya.length : Int) != (n : Int)) = false := by simp; omega
      have f2 : ((yb.length : Int) != (n' : Int)) = true := by simp; omega
      have D := Lib.hid (show fitB n n' ya yb = false by simp [fitB, e2])
      clear e1 e2
      go_enter Tryd.func91, Tryd.ntmps91
      go_wp2
      go_ret
      exact ⟨retB D.out.symm, ((Kp.refl _ _).alloc _).alloc _⟩
  · have f1 : ((ya.length : Int) != (n : Int)) = true := by simp; omega
    have D := Lib.hid (show fitB n n' ya yb = false by simp [fitB, e1])
    clear e1
    go_enter Tryd.func91, Tryd.ntmps91
    go_wp2
    go_ret
    exact ⟨retB D.out.symm, ((Kp.refl _ _).alloc _).alloc _⟩
end Go.Proofs.YtckikiaockkmbaaDoor.Decl

/- operands, isPlain, scan, expr of impl. No conditions beyond the sizes. -/
namespace Go.Proofs.YtckikiaockkmbaaDoor.ScanV
open Go.RowKit Kit Val
set_option linter.unusedVariables false
set_option maxHeartbeats 1000000 in
theorem operands {w : World} (k : Int) : Calls Tryd.prog 86 #[.int .i64 k] w fun e w' => e = .returned (.int .i64 (arity k)) ∧ w = w' := by
  by_cases h1 : k = 1
  · subst h1
    have D := Lib.hid (show arity 1 = 0 from rfl)
    go_enter Tryd.func86, Tryd.ntmps86
    go_wp2
    go_ret
    exact ⟨retI D.out.symm, rfl⟩
  by_cases h2 : k = 2
  · subst h2
    clear h1
    have D := Lib.hid (show arity 2 = 0 from rfl)
    go_enter Tryd.func86, Tryd.ntmps86
    go_wp2
    go_ret
    exact ⟨retI D.out.symm, rfl⟩
  by_cases h3 : k = 3
  · subst h3
    clear h1 h2
    have D := Lib.hid (show arity 3 = 1 from rfl)
    go_enter Tryd.func86, Tryd.ntmps86
    go_wp2
    go_ret
    exact ⟨retI D.out.symm, rfl⟩
  by_cases h4 : 4 ≤ k
  rotate_left
  · have e1 : (k == 1) = false := by simp [h1]
    have e2 : (k == 2) = false := by simp [h2]
    have e3 : (k == 3) = false := by simp [h3]
    have hin : Lab.inside k 4 10 = false := by simp [Lab.inside]; omega
    have D := Lib.hid (show arity k = -1 by unfold arity; repeat (first | rw [if_neg (by omega)] | rw [if_pos (by omega)]))
    have e11 : (k == 11) = false := by simp; omega
    clear h1 h2 h3
    go_enter Tryd.func86, Tryd.ntmps86
    go_wp2_with fail
    refine (Lab.within _ _ _ _).mono ?_
    rintro e w1 ⟨rfl, rfl⟩
    rw [hin]
    clear hin
    go_wp2
    go_ret
    exact ⟨retI D.out.symm, rfl⟩
  by_cases h10 : k ≤ 10
  · have e1 : (k == 1) = false := by simp [h1]
    have e2 : (k == 2) = false := by simp [h2]
    have e3 : (k == 3) = false := by simp [h3]
    have hin : Lab.inside k 4 10 = true := by simp [Lab.inside]; omega
    have D := Lib.hid (show arity k = 2 by unfold arity; repeat (first | rw [if_neg (by omega)] | rw [if_pos (by omega)]))
    clear h1 h2 h3
    go_enter Tryd.func86, Tryd.ntmps86
    go_wp2_with fail
    refine (Lab.within _ _ _ _).mono ?_
    rintro e w1 ⟨rfl, rfl⟩
    rw [hin]
    clear hin
    go_wp2
    go_ret
    exact ⟨retI D.out.symm, rfl⟩
  by_cases h11 : k = 11
  · subst h11
    have hin : Lab.inside 11 4 10 = false := by simp [Lab.inside]
    have D := Lib.hid (show arity 11 = 3 from rfl)
    clear h1 h2 h3 h4 h10
    go_enter Tryd.func86, Tryd.ntmps86
    go_wp2_with fail
    refine (Lab.within _ _ _ _).mono ?_
    rintro e w1 ⟨rfl, rfl⟩
    rw [hin]
    clear hin
    go_wp2
    go_ret
    exact ⟨retI D.out.symm, rfl⟩
  have e1 : (k == 1) = false := by simp [h1]
  have e2 : (k == 2) = false := by simp [h2]
  have e3 : (k == 3) = false := by simp [h3]
  have hin : Lab.inside k 4 10 = false := by simp [Lab.inside]; omega
  have D := Lib.hid (show arity k = -1 by unfold arity; repeat (first | rw [if_neg (by omega)] | rw [if_pos (by omega)]))
  have e11 : (k == 11) = false := by simp [h11]
  clear h1 h2 h3
  go_enter Tryd.func86, Tryd.ntmps86
  go_wp2_with fail
  refine (Lab.within _ _ _ _).mono ?_
  rintro e w1 ⟨rfl, rfl⟩
  rw [hin]
  clear hin
  go_wp2
  go_ret
  exact ⟨retI D.out.symm, rfl⟩
set_option maxHeartbeats 1000000 in
theorem isPlain {w : World} (k v : Int) (s : Value) : Calls Tryd.prog 87 #[.agg #[.int .i64 k, .int .i64 v, s]] w fun e w' => e = .returned (.bool (k == 1 || k == 2)) ∧ New w w' := by
  cases h1 : (k == 1)
  · go_enter Tryd.func87, Tryd.ntmps87
    go_wp2
    go_ret
    exact ⟨retB (by simp), (Kp.refl _ _).alloc _⟩
  · go_enter Tryd.func87, Tryd.ntmps87
    go_wp2
    go_ret
    exact ⟨retB (by simp), (Kp.refl _ _).alloc _⟩
theorem limit_hi (nv na : Nat) (k v : Int) : (decide (0 ≤ v) && decide (v < limit nv na k)) = Lab.inside v 0 (limit nv na k - 1) := by rw [Bool.eq_iff_iff]; simp [Lab.inside]; omega
/-- block bc holds the count c -/
def Cnt (w : World) (bc : Nat) (c : Int) : Prop := w.heap[bc]? = some (.cells #[.int .i64 c] 3 (0, 0))
def Does (n : Nat) : Prop := ∀ (w : World) (lo hi : Nat) (a a' : Option Addr) (nv c na c' : Nat) (tc : Value) (k v : Int) (s : Value) (l : List Ex) (d : Int) (bc : Nat) (q : Int), Ex.sizes l < n → KidsR w lo hi s l → hi ≤ w.heap.size → 1 ≤ d → d ≤ 6 → nv ≤ 9223372036854775807 → na ≤ 9223372036854775807 → Cnt w bc q → 0 ≤ q → q ≤ 15 → (bc < lo ∨ hi ≤ bc) →
  Calls Tryd.prog 67 #[.agg #[.slice a nv c, .slice a' na c', tc], .agg #[.int .i64 k, .int .i64 v, s], .int .i64 d, .pointer (some ⟨bc, 0, none⟩)] w fun e w' => e = .returned (.bool (scanB nv na (.node k v l) (6 - d).toNat q.toNat)) ∧ One bc w w' ∧ ∃ q', Cnt w' bc q' ∧ (scanB nv na (.node k v l) (6 - d).toNat q.toNat = true → q' = q + (Ex.node k v l).size)
set_option maxHeartbeats 8000000 in
set_option maxRecDepth 100000 in
theorem scan_step (n : Nat) (H : Does n) (w : World) (lo hi : Nat) (a a' : Option Addr) (nv c na c' : Nat) (tc : Value) (k v : Int) (s : Value) (l : List Ex) (d : Int) (bc : Nat) (q : Int) (hl : Ex.sizes l ≤ n) (hs : KidsR w lo hi s l) (h1 : hi ≤ w.heap.size) (hd0 : 1 ≤ d) (hd6 : d ≤ 6) (hnv : nv ≤ 9223372036854775807) (hna : na ≤ 9223372036854775807) (hq : Cnt w bc q) (hq0 : 0 ≤ q) (hq15 : q ≤ 15) (hbc : bc < lo ∨ hi ≤ bc) :
    Calls Tryd.prog 67 #[.agg #[.slice a nv c, .slice a' na c', tc], .agg #[.int .i64 k, .int .i64 v, s], .int .i64 d, .pointer (some ⟨bc, 0, none⟩)] w fun e w' => e = .returned (.bool (scanB nv na (.node k v l) (6 - d).toNat q.toNat)) ∧ One bc w w' ∧ ∃ q', Cnt w' bc q' ∧ (scanB nv na (.node k v l) (6 - d).toNat q.toNat = true → q' = q + (Ex.node k v l).size) := by
  obtain ⟨a2, c2, rfl, hl1⟩ := hs.len
  have HH := Lib.hid H; clear H
  have hbl := heap_lt hq
  have cq := cell_of_heap hq 0
  have fq := frozen_of_heap hq 0
  go_enter Tryd.func67, Tryd.ntmps67
  go_wp2_with fail
  have N0 : One bc w (((w.setCell ⟨bc, 0, none⟩ (.int .i64 (q + 1))).alloc (.cells #[.slice a nv c, .slice a' na c', tc] 41)).alloc (.cells #[.int .i64 k, .int .i64 v, .slice a2 l.length c2] 45)) := ((Kp.setCell (Kp.refl (fun x => x = bc) w) (.inl rfl) _).alloc _).alloc _
  have bA_0 : (((w.setCell ⟨bc, 0, none⟩ (.int .i64 (q + 1))).alloc (.cells #[.slice a nv c, .slice a' na c', tc] 41)).alloc (.cells #[.int .i64 k, .int .i64 v, .slice a2 l.length c2] 45)).heap[w.heap.size]? = some (.cells #[.slice a nv c, .slice a' na c', tc] 41) := heap_old (heap_at (World.size_setCell _ _ _))
  have bB_0 : (((w.setCell ⟨bc, 0, none⟩ (.int .i64 (q + 1))).alloc (.cells #[.slice a nv c, .slice a' na c', tc] 41)).alloc (.cells #[.int .i64 k, .int .i64 v, .slice a2 l.length c2] 45)).heap[w.heap.size + 1]? = some (.cells #[.int .i64 k, .int .i64 v, .slice a2 l.length c2] 45) := heap_at (by simp)
  have Q0 : Cnt (((w.setCell ⟨bc, 0, none⟩ (.int .i64 (q + 1))).alloc (.cells #[.slice a nv c, .slice a' na c', tc] 41)).alloc (.cells #[.int .i64 k, .int .i64 v, .slice a2 l.length c2] 45)) bc (q + 1) := heap_old (heap_old (setCell_heap hq _))
  have z0 : w.heap.size + 1 < (((w.setCell ⟨bc, 0, none⟩ (.int .i64 (q + 1))).alloc (.cells #[.slice a nv c, .slice a' na c', tc] 41)).alloc (.cells #[.int .i64 k, .int .i64 v, .slice a2 l.length c2] 45)).heap.size := by simp
  clear hq cq fq
  generalize (((w.setCell ⟨bc, 0, none⟩ (.int .i64 (q + 1))).alloc (.cells #[.slice a nv c, .slice a' na c', tc] 41)).alloc (.cells #[.int .i64 k, .int .i64 v, .slice a2 l.length c2] 45)) = w0 at *
  have cQ := cell_of_heap Q0 0
  obtain ⟨bA_0_c0, bA_0_c1, bA_0_c2⟩ := cells3 bA_0
  obtain ⟨bB_0_c0, bB_0_c1, bB_0_c2⟩ := cells3 bB_0
  have U := Lib.hid (show shp nv na (.node k v l) (6 - d).toNat = (decide (1 ≤ (6 - d).toNat) && decide ((l.length : Int) = arity k) && decide (0 ≤ v) && decide (v < limit nv na k) && shps nv na l ((6 - d).toNat - 1) && (!(k == 3) || atom0 l)) by rw [shp])
  have SB := Lib.hid (show scanB nv na (.node k v l) (6 - d).toNat q.toNat = (shp nv na (.node k v l) (6 - d).toNat && decide (q.toNat + (Ex.node k v l).size ≤ 15)) from rfl)
  have SZ := Lib.hid (show (Ex.node k v l).size = Ex.sizes l + 1 by rw [Ex.size])
  by_cases g0 : 15 < q + 1
  · have D := Lib.hid (show scanB nv na (.node k v l) (6 - d).toNat q.toNat = false by
      have e : decide (q.toNat + (Ex.node k v l).size ≤ 15) = false := by rw [decide_eq_false_iff_not, SZ.out]; omega
      rw [SB.out, e]; simp)
    refine wp_region_held_drew (S := fun w' => w'.cell? ⟨bc, 0, none⟩ = some (.int .i64 (q + 1)) ∧ w'.cell? ⟨w.heap.size, 0, none⟩ = some (.slice a nv c) ∧ w'.cell? ⟨w.heap.size, 1, none⟩ = some (.slice a' na c') ∧ w'.cell? ⟨w.heap.size, 2, none⟩ = some (tc) ∧ w'.cell? ⟨w.heap.size + 1, 0, none⟩ = some (.int .i64 k) ∧ w'.cell? ⟨w.heap.size + 1, 1, none⟩ = some (.int .i64 v) ∧ w'.cell? ⟨w.heap.size + 1, 2, none⟩ = some (.slice a2 l.length c2)) (by kernel_rfl) ?_ (fun hHeld => ?_)
    · exact ⟨cQ, bA_0_c0, bA_0_c1, bA_0_c2, bB_0_c0, bB_0_c1, bB_0_c2⟩
    refine HT 0 rfl ?_
    try simp only [AP]
    refine HT 1 rfl ?_
    try simp only [AP]
    refine HT 2 rfl ?_
    try simp only [AP]
    refine HT 3 rfl ?_
    try simp only [AP]
    refine HT 4 rfl ?_
    try simp only [AP]
    refine HS 5 rfl ?_
    try simp only [AP]
    refine HS 6 rfl ?_
    try simp only [AP]
    refine HT 7 rfl ?_
    try simp only [AP]
    refine HT 8 rfl ?_
    try simp only [AP]
    refine HS 9 rfl ?_
    try simp only [AP]
    refine HS 10 rfl ?_
    try simp only [AP]
    refine HS 11 rfl ?_
    try simp only [AP]
    refine HS 12 rfl ?_
    try simp only [AP]
    refine HS 13 rfl ?_
    try simp only [AP]
    refine HS 14 rfl ?_
    try simp only [AP]
    refine HS 15 rfl ?_
    try simp only [AP]
    refine HT 16 rfl ?_
    try simp only [AP]
    refine wpAnyH_done (by kernel_rfl) ?_ _
    go_wp2
    go_ret
    exact ⟨retB D.out.symm, N0.drew, _, Q0, fun h => absurd (h.symm.trans D.out) (by decide)⟩
  have g0b : q + 1 ≤ 15 := by omega
  have g0c : decide (15 < q + 1) = false := by rw [decide_eq_false_iff_not]; exact g0
  clear g0
  by_cases g1 : 5 < d
  · have D := Lib.hid (show scanB nv na (.node k v l) (6 - d).toNat q.toNat = false by
      have e : decide (1 ≤ (6 - d).toNat) = false := by rw [decide_eq_false_iff_not]; omega
      rw [SB.out, U.out, e]; rfl)
    refine wp_region_held_drew (S := fun w' => w'.cell? ⟨bc, 0, none⟩ = some (.int .i64 (q + 1)) ∧ w'.cell? ⟨w.heap.size, 0, none⟩ = some (.slice a nv c) ∧ w'.cell? ⟨w.heap.size, 1, none⟩ = some (.slice a' na c') ∧ w'.cell? ⟨w.heap.size, 2, none⟩ = some (tc) ∧ w'.cell? ⟨w.heap.size + 1, 0, none⟩ = some (.int .i64 k) ∧ w'.cell? ⟨w.heap.size + 1, 1, none⟩ = some (.int .i64 v) ∧ w'.cell? ⟨w.heap.size + 1, 2, none⟩ = some (.slice a2 l.length c2)) (by kernel_rfl) ?_ (fun hHeld => ?_)
    · exact ⟨cQ, bA_0_c0, bA_0_c1, bA_0_c2, bB_0_c0, bB_0_c1, bB_0_c2⟩
    refine HT 0 rfl ?_
    try simp only [AP]
    refine HT 1 rfl ?_
    try simp only [AP]
    refine HT 2 rfl ?_
    try simp only [AP]
    refine HT 3 rfl ?_
    try simp only [AP]
    refine HT 4 rfl ?_
    try simp only [AP]
    refine HT 5 rfl ?_
    try simp only [AP]
    refine HT 6 rfl ?_
    try simp only [AP]
    refine HT 7 rfl ?_
    try simp only [AP]
    refine HT 8 rfl ?_
    try simp only [AP]
    refine HS 9 rfl ?_
    try simp only [AP]
    refine HS 10 rfl ?_
    try simp only [AP]
    refine HS 11 rfl ?_
    try simp only [AP]
    refine HS 12 rfl ?_
    try simp only [AP]
    refine HS 13 rfl ?_
    try simp only [AP]
    refine HS 14 rfl ?_
    try simp only [AP]
    refine HS 15 rfl ?_
    try simp only [AP]
    refine HT 16 rfl ?_
    try simp only [AP]
    refine wpAnyH_done (by kernel_rfl) ?_ _
    go_wp2
    go_ret
    exact ⟨retB D.out.symm, N0.drew, _, Q0, fun h => absurd (h.symm.trans D.out) (by decide)⟩
  have g1b : d ≤ 5 := by omega
  have g1c : decide (5 < d) = false := by rw [decide_eq_false_iff_not]; exact g1
  clear g1
  by_cases g2 : (l.length : Int) = arity k
  rotate_left
  · have D := Lib.hid (show scanB nv na (.node k v l) (6 - d).toNat q.toNat = false by
      have e : decide ((l.length : Int) = arity k) = false := by rw [decide_eq_false_iff_not]; exact g2
      rw [SB.out, U.out, e]; simp)
    have e2 : (arity k != (l.length : Int)) = true := by rw [bne_iff_ne]; exact fun h => g2 h.symm
    clear g2
    refine wp_region_held_drew (S := fun w' => w'.cell? ⟨bc, 0, none⟩ = some (.int .i64 (q + 1)) ∧ w'.cell? ⟨w.heap.size, 0, none⟩ = some (.slice a nv c) ∧ w'.cell? ⟨w.heap.size, 1, none⟩ = some (.slice a' na c') ∧ w'.cell? ⟨w.heap.size, 2, none⟩ = some (tc) ∧ w'.cell? ⟨w.heap.size + 1, 0, none⟩ = some (.int .i64 k) ∧ w'.cell? ⟨w.heap.size + 1, 1, none⟩ = some (.int .i64 v) ∧ w'.cell? ⟨w.heap.size + 1, 2, none⟩ = some (.slice a2 l.length c2)) (by kernel_rfl) ?_ (fun hHeld => ?_)
    · exact ⟨cQ, bA_0_c0, bA_0_c1, bA_0_c2, bB_0_c0, bB_0_c1, bB_0_c2⟩
    refine HT 0 rfl ?_
    try simp only [AP]
    refine HT 1 rfl ?_
    try simp only [AP]
    refine HT 2 rfl ?_
    try simp only [AP]
    refine HT 3 rfl ?_
    try simp only [AP]
    refine HT 4 rfl ?_
    try simp only [AP]
    refine HT 5 rfl ?_
    try simp only [AP]
    refine HT 6 rfl ?_
    try simp only [AP]
    refine HT 7 rfl ?_
    try simp only [AP]
    refine HT 8 rfl ?_
    try simp only [AP]
    refine HT 9 rfl ?_
    try simp only [AP]
    refine HT 10 rfl ?_
    try simp only [AP]
    refine HT 12 rfl ?_
    try simp only [AP]
    refine HT 13 rfl ?_
    try simp only [AP]
    refine HT 14 rfl ?_
    try simp only [AP]
    refine HR 11 rfl fun K hK => ?_
    go_simp
    refine (operands k).mono ?_
    rintro e w' ⟨rfl, rfl⟩
    go_simp
    refine hK.out _ _ ?_ (fun hHeld2 => ?_)
    · exact ⟨cQ, bA_0_c0, bA_0_c1, bA_0_c2, bB_0_c0, bB_0_c1, bB_0_c2⟩
    clear hK K hHeld
    have hHeld := hHeld2
    clear hHeld2
    try simp only [AP]
    refine HT 15 rfl ?_
    try simp only [AP]
    refine HT 16 rfl ?_
    try simp only [AP]
    refine wpAnyH_done (by kernel_rfl) ?_ _
    go_wp2
    go_ret
    exact ⟨retB D.out.symm, N0.drew, _, Q0, fun h => absurd (h.symm.trans D.out) (by decide)⟩
  have G2 := Lib.hid g2
  have e2 : (arity k != (l.length : Int)) = false := by rw [bne_eq_false_iff_eq]; exact g2.symm
  have ar3 : l.length ≤ 3 := by have : arity k ≤ 3 := (by unfold arity; repeat' split <;> omega); omega
  clear g2
  refine wp_region_held_drew (S := fun w' => w'.cell? ⟨bc, 0, none⟩ = some (.int .i64 (q + 1)) ∧ w'.cell? ⟨w.heap.size, 0, none⟩ = some (.slice a nv c) ∧ w'.cell? ⟨w.heap.size, 1, none⟩ = some (.slice a' na c') ∧ w'.cell? ⟨w.heap.size, 2, none⟩ = some (tc) ∧ w'.cell? ⟨w.heap.size + 1, 0, none⟩ = some (.int .i64 k) ∧ w'.cell? ⟨w.heap.size + 1, 1, none⟩ = some (.int .i64 v) ∧ w'.cell? ⟨w.heap.size + 1, 2, none⟩ = some (.slice a2 l.length c2)) (by kernel_rfl) ?_ (fun hHeld => ?_)
  · exact ⟨cQ, bA_0_c0, bA_0_c1, bA_0_c2, bB_0_c0, bB_0_c1, bB_0_c2⟩
  refine HT 0 rfl ?_
  try simp only [AP]
  refine HT 1 rfl ?_
  try simp only [AP]
  refine HT 2 rfl ?_
  try simp only [AP]
  refine HT 3 rfl ?_
  try simp only [AP]
  refine HT 4 rfl ?_
  try simp only [AP]
  refine HT 5 rfl ?_
  try simp only [AP]
  refine HT 6 rfl ?_
  try simp only [AP]
  refine HT 7 rfl ?_
  try simp only [AP]
  refine HT 8 rfl ?_
  try simp only [AP]
  refine HT 9 rfl ?_
  try simp only [AP]
  refine HT 10 rfl ?_
  try simp only [AP]
  refine HT 12 rfl ?_
  try simp only [AP]
  refine HT 13 rfl ?_
  try simp only [AP]
  refine HT 14 rfl ?_
  try simp only [AP]
  refine HR 11 rfl fun K hK => ?_
  go_simp
  refine (operands k).mono ?_
  rintro e w' ⟨rfl, rfl⟩
  go_simp
  refine hK.out _ _ ?_ (fun hHeld2 => ?_)
  · exact ⟨cQ, bA_0_c0, bA_0_c1, bA_0_c2, bB_0_c0, bB_0_c1, bB_0_c2⟩
  clear hK K hHeld
  have hHeld := hHeld2
  clear hHeld2
  try simp only [AP]
  refine HT 15 rfl ?_
  try simp only [AP]
  refine HT 16 rfl ?_
  try simp only [AP]
  refine wpAnyH_done (by kernel_rfl) ?_ _
  clear g0c g1c e2
  have N1 : One bc w w0.drew := N0.drew
  have bA_1 : w0.drew.heap[w.heap.size]? = some (.cells #[.slice a nv c, .slice a' na c', tc] 41) := bA_0
  have bB_1 : w0.drew.heap[w.heap.size + 1]? = some (.cells #[.int .i64 k, .int .i64 v, .slice a2 l.length c2] 45) := bB_0
  have Q1 : Cnt w0.drew bc (q + 1) := Q0
  have z1 : w.heap.size + 1 < w0.drew.heap.size := by simpa using z0
  clear bA_0_c0 bA_0_c1 bA_0_c2 bB_0_c0 bB_0_c1 bB_0_c2 cQ N0 bA_0 bB_0 Q0 z0 hHeld
  generalize w0.drew = w1 at *
  obtain ⟨bA_1_c0, bA_1_c1, bA_1_c2⟩ := cells3 bA_1
  obtain ⟨bB_1_c0, bB_1_c1, bB_1_c2⟩ := cells3 bB_1
  have LH := Lib.hid (limit_hi nv na k v)
  by_cases k1 : k = 1
  · have e1 : (k == 1) = true := by simp [k1]
    have e3 : (k == 3) = false := by simp [k1]
    have hL := Lib.hid (show limit nv na k - 1 = 255 by rw [k1]; rfl)
    clear k1
    go_wp2_with fail
    refine (Lab.within _ _ _ _).mono ?_
    rintro e w' ⟨rfl, rfl⟩
    cases hin : Lab.inside v 0 (255)
    · have D := Lib.hid (show scanB nv na (.node k v l) (6 - d).toNat q.toNat = false by
        have e : (decide (0 ≤ v) && decide (v < limit nv na k)) = false := by rw [LH.out, hL.out]; exact hin
        rw [SB.out, U.out]
        rcases Bool.and_eq_false_iff.1 e with h | h <;> rw [h] <;> simp)
      clear hin HH
      go_wp2
      go_ret
      exact ⟨retB D.out.symm, N1, _, Q1, fun h => absurd (h.symm.trans D.out) (by decide)⟩
    have VL := Lib.hid (show (decide (0 ≤ v) && decide (v < limit nv na k)) = true by rw [LH.out, hL.out]; exact hin)
    clear hin
    have V := Lib.hid (show shp nv na (.node k v l) (6 - d).toNat = (shps nv na l ((6 - d).toNat - 1) && (!(k == 3) || atom0 l)) by
      have e0 : decide (1 ≤ (6 - d).toNat) = true := by rw [decide_eq_true_eq]; omega
      have e1 : decide ((l.length : Int) = arity k) = true := by rw [decide_eq_true_eq]; exact G2.out
      obtain ⟨e2, e3⟩ := (Bool.and_eq_true _ _).mp VL.out
      rw [U.out, e0, e1, e2, e3]; simp)
    clear U LH VL
    have V3 := Lib.hid (show shp nv na (.node k v l) (6 - d).toNat = shps nv na l ((6 - d).toNat - 1) by rw [V.out, e3]; simp)
    clear V
    clear hL
    go_wp2_with fail
    clear e3
    go_loopw [71] (fun i wr => ∃ (j : Nat) (m : Int), j ≤ l.length ∧ i = .int .i64 j ∧ One bc w1 wr ∧ Cnt wr bc m ∧ 0 ≤ m ∧ m ≤ 15 ∧ Hid (m = q + 1 + Ex.sizes (l.take j)) ∧ Hid (shps nv na (l.take j) ((6 - d).toNat - 1) = true)) (fun i _ => l.length - (intOf i).toNat)
    case atStart => exact ⟨0, q + 1, Nat.zero_le _, rfl, Kp.refl _ _, Q1, by omega, by omega, Lib.hid (by simp [Ex.sizes]), Lib.hid (by simp [shps])⟩
    case round =>
      obtain ⟨j, m, hj, rfl, hNA, hQ, hm0, hm15, hM, hG⟩ := hrel
      have N3 : One bc w wr := N1.trans (hNA.mono fun _ _ e => e)
      have hz3 := hNA.size
      have bA3 : wr.heap[w.heap.size]? = _ := (hNA.block _ (by omega) (by omega)).trans bA_1
      have bB3 : wr.heap[w.heap.size + 1]? = _ := (hNA.block _ (by omega) (by omega)).trans bB_1
      obtain ⟨cA0, cA1, cA2⟩ := cells3 bA3
      obtain ⟨cB0, cB1, cB2⟩ := cells3 bB3
      by_cases hlt : j < l.length
      · obtain ⟨b, o, s, e, hb1, hb2, c0, c1, c2, hs1⟩ := (hs.kp N3 h1 (fun x e => by omega)).at j hlt
        cases e
        have hsz : Ex.sizes l[j].kids < n := by have := Ex.kids_get l j hlt; omega
        have hbad := Lib.hid (scan_bad nv na ((6 - d).toNat - 1) (c := q.toNat) (m := m.toNat) hlt)
        have hT := Lib.hid (shps_take nv na ((6 - d).toNat - 1) hlt)
        have hT2 := Lib.hid (Ex.sizes_take_succ l j hlt)
        have hE := Lib.hid (show Ex.node l[j].kind l[j].val l[j].kids = l[j] by cases l[j]; rfl)
        have hE2 := Lib.hid (Ex.size_kids l[j])
        have hz : hi ≤ (wr.alloc (.cells #[.int .i64 l[j].kind, .int .i64 l[j].val, s] 45)).heap.size := by simp; omega
        have k1 := hs1.new (by omega) ((Kp.refl (fun _ => False) wr).alloc (.cells #[.int .i64 l[j].kind, .int .i64 l[j].val, s] 45))
        obtain ⟨sa, sc, rfl, _⟩ := k1.len
        have hbl : b < wr.heap.size := by omega
        have zA : w.heap.size < wr.heap.size := by omega
        have zB : w.heap.size + 1 < wr.heap.size := by omega
        have hQ1 : Cnt (wr.alloc (.cells #[.int .i64 l[j].kind, .int .i64 l[j].val, .slice sa l[j].kids.length sc] 45)) bc m := heap_old hQ
        clear hs hs1
        generalize l[j] = x at *
        go_wp2_with fail
        refine (HH.out _ lo hi _ _ _ _ _ _ _ _ _ _ _ (d + 1) bc m hsz k1 hz (by omega) (by omega) hnv hna hQ1 hm0 hm15 hbc).mono ?_
        rintro r w3 ⟨rfl, hn3, m', hQ3, hm3⟩
        have N4 : One bc w w3 := (N3.alloc _).trans (hn3.mono fun _ _ e => e)
        have hNA2 : One bc w1 w3 := (hNA.alloc _).trans (hn3.mono fun _ _ e => e)
        rw [show (6 - (d + 1)).toNat = (6 - d).toNat - 1 by omega, hE.out] at hm3 ⊢
        have hm4 := Lib.hid hm3
        clear hm3
        cases hp : scanB nv na x ((6 - d).toNat - 1) m.toNat
        · have D := Lib.hid (show scanB nv na (.node k v l) (6 - d).toNat q.toNat = false by
            rw [SB.out, V3.out, SZ.out]; exact hbad.out hp (by have := hM.out; omega))
          clear hbad hT hT2 hM hG hp HH hm4
          go_wp2
          go_ret
          exact ⟨retB D.out.symm, N4, _, hQ3, fun h => absurd (h.symm.trans D.out) (by decide)⟩
        · have hm5 := hm4.out hp
          have hsx : shp nv na x ((6 - d).toNat - 1) = true ∧ m.toNat + x.size ≤ 15 := by simpa [scanB] using hp
          have hG2 := Lib.hid (show shps nv na (l.take (j + 1)) ((6 - d).toNat - 1) = true by rw [hT.out, hG.out, hsx.1]; rfl)
          have hM2 := Lib.hid (show m' = q + 1 + Ex.sizes (l.take (j + 1)) by have := hM.out; have := hT2.out; have := hE2.out; omega)
          have h15 : m' ≤ 15 := by omega
          have h0 : 0 ≤ m' := by omega
          clear hbad hT hT2 hM hG hp hm4 hm5 hsx
          go_wp2
          go_roundw
          case rel => exact ⟨j + 1, m', by omega, by go_num, hNA2, hQ3, h0, h15, hM2, hG2⟩
          case measure => simp [intOf]; omega
      · have D := Lib.hid (show scanB nv na (.node k v l) (6 - d).toNat q.toNat = true by
          have h := hG.out
          rw [List.take_of_length_le (by omega)] at h
          have h2 := hM.out
          rw [List.take_of_length_le (by omega)] at h2
          rw [SB.out, V3.out, h, SZ.out]; simp; omega)
        have hfin := Lib.hid (show m = q + (Ex.node k v l).size by
          have h2 := hM.out
          rw [List.take_of_length_le (by omega)] at h2
          have := SZ.out; omega)
        have hge : l.length ≤ j := by omega
        clear hG hM V3 HH hs
        go_wp2
        go_ret
        exact ⟨retB D.out.symm, N3, m, hQ, fun _ => hfin.out⟩
  have e1 : (k == 1) = false := by simp [k1]
  by_cases k2 : k = 2
  · have e2 : (k == 2) = true := by simp [k2]
    have e3 : (k == 3) = false := by simp [k2]
    have hL := Lib.hid (show limit nv na k - 1 = (nv : Int) - 1 by rw [k2]; rfl)
    clear k1 k2
    go_wp2_with fail
    refine (Lab.within _ _ _ _).mono ?_
    rintro e w' ⟨rfl, rfl⟩
    cases hin : Lab.inside v 0 ((nv : Int) - 1)
    · have D := Lib.hid (show scanB nv na (.node k v l) (6 - d).toNat q.toNat = false by
        have e : (decide (0 ≤ v) && decide (v < limit nv na k)) = false := by rw [LH.out, hL.out]; exact hin
        rw [SB.out, U.out]
        rcases Bool.and_eq_false_iff.1 e with h | h <;> rw [h] <;> simp)
      clear hin HH
      go_wp2
      go_ret
      exact ⟨retB D.out.symm, N1, _, Q1, fun h => absurd (h.symm.trans D.out) (by decide)⟩
    have VL := Lib.hid (show (decide (0 ≤ v) && decide (v < limit nv na k)) = true by rw [LH.out, hL.out]; exact hin)
    clear hin
    have V := Lib.hid (show shp nv na (.node k v l) (6 - d).toNat = (shps nv na l ((6 - d).toNat - 1) && (!(k == 3) || atom0 l)) by
      have e0 : decide (1 ≤ (6 - d).toNat) = true := by rw [decide_eq_true_eq]; omega
      have e1 : decide ((l.length : Int) = arity k) = true := by rw [decide_eq_true_eq]; exact G2.out
      obtain ⟨e2, e3⟩ := (Bool.and_eq_true _ _).mp VL.out
      rw [U.out, e0, e1, e2, e3]; simp)
    clear U LH VL
    have V3 := Lib.hid (show shp nv na (.node k v l) (6 - d).toNat = shps nv na l ((6 - d).toNat - 1) by rw [V.out, e3]; simp)
    clear V
    clear hL
    go_wp2_with fail
    clear e3
    go_loopw [71] (fun i wr => ∃ (j : Nat) (m : Int), j ≤ l.length ∧ i = .int .i64 j ∧ One bc w1 wr ∧ Cnt wr bc m ∧ 0 ≤ m ∧ m ≤ 15 ∧ Hid (m = q + 1 + Ex.sizes (l.take j)) ∧ Hid (shps nv na (l.take j) ((6 - d).toNat - 1) = true)) (fun i _ => l.length - (intOf i).toNat)
    case atStart => exact ⟨0, q + 1, Nat.zero_le _, rfl, Kp.refl _ _, Q1, by omega, by omega, Lib.hid (by simp [Ex.sizes]), Lib.hid (by simp [shps])⟩
    case round =>
      obtain ⟨j, m, hj, rfl, hNA, hQ, hm0, hm15, hM, hG⟩ := hrel
      have N3 : One bc w wr := N1.trans (hNA.mono fun _ _ e => e)
      have hz3 := hNA.size
      have bA3 : wr.heap[w.heap.size]? = _ := (hNA.block _ (by omega) (by omega)).trans bA_1
      have bB3 : wr.heap[w.heap.size + 1]? = _ := (hNA.block _ (by omega) (by omega)).trans bB_1
      obtain ⟨cA0, cA1, cA2⟩ := cells3 bA3
      obtain ⟨cB0, cB1, cB2⟩ := cells3 bB3
      by_cases hlt : j < l.length
      · obtain ⟨b, o, s, e, hb1, hb2, c0, c1, c2, hs1⟩ := (hs.kp N3 h1 (fun x e => by omega)).at j hlt
        cases e
        have hsz : Ex.sizes l[j].kids < n := by have := Ex.kids_get l j hlt; omega
        have hbad := Lib.hid (scan_bad nv na ((6 - d).toNat - 1) (c := q.toNat) (m := m.toNat) hlt)
        have hT := Lib.hid (shps_take nv na ((6 - d).toNat - 1) hlt)
        have hT2 := Lib.hid (Ex.sizes_take_succ l j hlt)
        have hE := Lib.hid (show Ex.node l[j].kind l[j].val l[j].kids = l[j] by cases l[j]; rfl)
        have hE2 := Lib.hid (Ex.size_kids l[j])
        have hz : hi ≤ (wr.alloc (.cells #[.int .i64 l[j].kind, .int .i64 l[j].val, s] 45)).heap.size := by simp; omega
        have k1 := hs1.new (by omega) ((Kp.refl (fun _ => False) wr).alloc (.cells #[.int .i64 l[j].kind, .int .i64 l[j].val, s] 45))
        obtain ⟨sa, sc, rfl, _⟩ := k1.len
        have hbl : b < wr.heap.size := by omega
        have zA : w.heap.size < wr.heap.size := by omega
        have zB : w.heap.size + 1 < wr.heap.size := by omega
        have hQ1 : Cnt (wr.alloc (.cells #[.int .i64 l[j].kind, .int .i64 l[j].val, .slice sa l[j].kids.length sc] 45)) bc m := heap_old hQ
        clear hs hs1
        generalize l[j] = x at *
        go_wp2_with fail
        refine (HH.out _ lo hi _ _ _ _ _ _ _ _ _ _ _ (d + 1) bc m hsz k1 hz (by omega) (by omega) hnv hna hQ1 hm0 hm15 hbc).mono ?_
        rintro r w3 ⟨rfl, hn3, m', hQ3, hm3⟩
        have N4 : One bc w w3 := (N3.alloc _).trans (hn3.mono fun _ _ e => e)
        have hNA2 : One bc w1 w3 := (hNA.alloc _).trans (hn3.mono fun _ _ e => e)
        rw [show (6 - (d + 1)).toNat = (6 - d).toNat - 1 by omega, hE.out] at hm3 ⊢
        have hm4 := Lib.hid hm3
        clear hm3
        cases hp : scanB nv na x ((6 - d).toNat - 1) m.toNat
        · have D := Lib.hid (show scanB nv na (.node k v l) (6 - d).toNat q.toNat = false by
            rw [SB.out, V3.out, SZ.out]; exact hbad.out hp (by have := hM.out; omega))
          clear hbad hT hT2 hM hG hp HH hm4
          go_wp2
          go_ret
          exact ⟨retB D.out.symm, N4, _, hQ3, fun h => absurd (h.symm.trans D.out) (by decide)⟩
        · have hm5 := hm4.out hp
          have hsx : shp nv na x ((6 - d).toNat - 1) = true ∧ m.toNat + x.size ≤ 15 := by simpa [scanB] using hp
          have hG2 := Lib.hid (show shps nv na (l.take (j + 1)) ((6 - d).toNat - 1) = true by rw [hT.out, hG.out, hsx.1]; rfl)
          have hM2 := Lib.hid (show m' = q + 1 + Ex.sizes (l.take (j + 1)) by have := hM.out; have := hT2.out; have := hE2.out; omega)
          have h15 : m' ≤ 15 := by omega
          have h0 : 0 ≤ m' := by omega
          clear hbad hT hT2 hM hG hp hm4 hm5 hsx
          go_wp2
          go_roundw
          case rel => exact ⟨j + 1, m', by omega, by go_num, hNA2, hQ3, h0, h15, hM2, hG2⟩
          case measure => simp [intOf]; omega
      · have D := Lib.hid (show scanB nv na (.node k v l) (6 - d).toNat q.toNat = true by
          have h := hG.out
          rw [List.take_of_length_le (by omega)] at h
          have h2 := hM.out
          rw [List.take_of_length_le (by omega)] at h2
          rw [SB.out, V3.out, h, SZ.out]; simp; omega)
        have hfin := Lib.hid (show m = q + (Ex.node k v l).size by
          have h2 := hM.out
          rw [List.take_of_length_le (by omega)] at h2
          have := SZ.out; omega)
        have hge : l.length ≤ j := by omega
        clear hG hM V3 HH hs
        go_wp2
        go_ret
        exact ⟨retB D.out.symm, N3, m, hQ, fun _ => hfin.out⟩
  have e2 : (k == 2) = false := by simp [k2]
  by_cases k3 : k = 3
  · have e3 : (k == 3) = true := by simp [k3]
    have hL := Lib.hid (show limit nv na k - 1 = (na : Int) - 1 by rw [k3]; rfl)
    clear k1 k2 k3
    go_wp2_with fail
    refine (Lab.within _ _ _ _).mono ?_
    rintro e w' ⟨rfl, rfl⟩
    cases hin : Lab.inside v 0 ((na : Int) - 1)
    · have D := Lib.hid (show scanB nv na (.node k v l) (6 - d).toNat q.toNat = false by
        have e : (decide (0 ≤ v) && decide (v < limit nv na k)) = false := by rw [LH.out, hL.out]; exact hin
        rw [SB.out, U.out]
        rcases Bool.and_eq_false_iff.1 e with h | h <;> rw [h] <;> simp)
      clear hin HH
      go_wp2
      go_ret
      exact ⟨retB D.out.symm, N1, _, Q1, fun h => absurd (h.symm.trans D.out) (by decide)⟩
    have VL := Lib.hid (show (decide (0 ≤ v) && decide (v < limit nv na k)) = true by rw [LH.out, hL.out]; exact hin)
    clear hin
    have V := Lib.hid (show shp nv na (.node k v l) (6 - d).toNat = (shps nv na l ((6 - d).toNat - 1) && (!(k == 3) || atom0 l)) by
      have e0 : decide (1 ≤ (6 - d).toNat) = true := by rw [decide_eq_true_eq]; omega
      have e1 : decide ((l.length : Int) = arity k) = true := by rw [decide_eq_true_eq]; exact G2.out
      obtain ⟨e2, e3⟩ := (Bool.and_eq_true _ _).mp VL.out
      rw [U.out, e0, e1, e2, e3]; simp)
    clear U LH VL
    have hlen : 0 < l.length := by have := G2.out; have e := eq_of_beq e3; rw [e] at this; simp [arity] at this; omega
    obtain ⟨b, o, s, rfl, hb1, hb2, c0, c1, c2, hs1⟩ := (hs.kp N1 h1 (fun x e => by omega)).at 0 hlen
    have V2 := Lib.hid (show shp nv na (.node k v l) (6 - d).toNat = (shps nv na l ((6 - d).toNat - 1) && (l[0].kind == 1 || l[0].kind == 2)) by
      rw [V.out, e3]
      cases l with
      | nil => simp at hlen
      | cons x xs => rfl)
    rw [Nat.zero_mul, Nat.add_zero] at c0 c1 c2
    clear hs1 V
    generalize l[0] = x at *
    go_wp2_with fail
    refine (isPlain _ _ _).mono ?_
    rintro r w2 ⟨rfl, hn2⟩
    have N2 : One bc w w2 := N1.trans (hn2.mono fun _ _ f => f.elim)
    have z2 := hn2.size
    have bA_2 := heap_new hn2 bA_1
    have bB_2 := heap_new hn2 bB_1
    have Q2 : Cnt w2 bc (q + 1) := heap_new hn2 Q1
    clear bA_1_c0 bA_1_c1 bA_1_c2 bB_1_c0 bB_1_c1 bB_1_c2 bA_1 bB_1 Q1 hn2 c0 c1 c2
    obtain ⟨bA_2_c0, bA_2_c1, bA_2_c2⟩ := cells3 bA_2
    obtain ⟨bB_2_c0, bB_2_c1, bB_2_c2⟩ := cells3 bB_2
    cases hat : (x.kind == 1 || x.kind == 2)
    · have D := Lib.hid (show scanB nv na (.node k v l) (6 - d).toNat q.toNat = false by rw [SB.out, V2.out, hat]; simp)
      clear hat HH V2
      go_wp2
      go_ret
      exact ⟨retB D.out.symm, N2, _, Q2, fun h => absurd (h.symm.trans D.out) (by decide)⟩
    have V3 := Lib.hid (show shp nv na (.node k v l) (6 - d).toNat = shps nv na l ((6 - d).toNat - 1) by rw [V2.out, hat]; simp)
    clear hat V2
    clear hL
    go_wp2_with fail
    clear e3
    go_loopw [71] (fun i wr => ∃ (j : Nat) (m : Int), j ≤ l.length ∧ i = .int .i64 j ∧ One bc w2 wr ∧ Cnt wr bc m ∧ 0 ≤ m ∧ m ≤ 15 ∧ Hid (m = q + 1 + Ex.sizes (l.take j)) ∧ Hid (shps nv na (l.take j) ((6 - d).toNat - 1) = true)) (fun i _ => l.length - (intOf i).toNat)
    case atStart => exact ⟨0, q + 1, Nat.zero_le _, rfl, Kp.refl _ _, Q2, by omega, by omega, Lib.hid (by simp [Ex.sizes]), Lib.hid (by simp [shps])⟩
    case round =>
      obtain ⟨j, m, hj, rfl, hNA, hQ, hm0, hm15, hM, hG⟩ := hrel
      have N3 : One bc w wr := N2.trans (hNA.mono fun _ _ e => e)
      have hz3 := hNA.size
      have bA3 : wr.heap[w.heap.size]? = _ := (hNA.block _ (by omega) (by omega)).trans bA_2
      have bB3 : wr.heap[w.heap.size + 1]? = _ := (hNA.block _ (by omega) (by omega)).trans bB_2
      obtain ⟨cA0, cA1, cA2⟩ := cells3 bA3
      obtain ⟨cB0, cB1, cB2⟩ := cells3 bB3
      by_cases hlt : j < l.length
      · obtain ⟨b, o, s, e, hb1, hb2, c0, c1, c2, hs1⟩ := (hs.kp N3 h1 (fun x e => by omega)).at j hlt
        cases e
        have hsz : Ex.sizes l[j].kids < n := by have := Ex.kids_get l j hlt; omega
        have hbad := Lib.hid (scan_bad nv na ((6 - d).toNat - 1) (c := q.toNat) (m := m.toNat) hlt)
        have hT := Lib.hid (shps_take nv na ((6 - d).toNat - 1) hlt)
        have hT2 := Lib.hid (Ex.sizes_take_succ l j hlt)
        have hE := Lib.hid (show Ex.node l[j].kind l[j].val l[j].kids = l[j] by cases l[j]; rfl)
        have hE2 := Lib.hid (Ex.size_kids l[j])
        have hz : hi ≤ (wr.alloc (.cells #[.int .i64 l[j].kind, .int .i64 l[j].val, s] 45)).heap.size := by simp; omega
        have k1 := hs1.new (by omega) ((Kp.refl (fun _ => False) wr).alloc (.cells #[.int .i64 l[j].kind, .int .i64 l[j].val, s] 45))
        obtain ⟨sa, sc, rfl, _⟩ := k1.len
        have hbl : b < wr.heap.size := by omega
        have zA : w.heap.size < wr.heap.size := by omega
        have zB : w.heap.size + 1 < wr.heap.size := by omega
        have hQ1 : Cnt (wr.alloc (.cells #[.int .i64 l[j].kind, .int .i64 l[j].val, .slice sa l[j].kids.length sc] 45)) bc m := heap_old hQ
        clear hs hs1
        generalize l[j] = x at *
        go_wp2_with fail
        refine (HH.out _ lo hi _ _ _ _ _ _ _ _ _ _ _ (d + 1) bc m hsz k1 hz (by omega) (by omega) hnv hna hQ1 hm0 hm15 hbc).mono ?_
        rintro r w3 ⟨rfl, hn3, m', hQ3, hm3⟩
        have N4 : One bc w w3 := (N3.alloc _).trans (hn3.mono fun _ _ e => e)
        have hNA2 : One bc w2 w3 := (hNA.alloc _).trans (hn3.mono fun _ _ e => e)
        rw [show (6 - (d + 1)).toNat = (6 - d).toNat - 1 by omega, hE.out] at hm3 ⊢
        have hm4 := Lib.hid hm3
        clear hm3
        cases hp : scanB nv na x ((6 - d).toNat - 1) m.toNat
        · have D := Lib.hid (show scanB nv na (.node k v l) (6 - d).toNat q.toNat = false by
            rw [SB.out, V3.out, SZ.out]; exact hbad.out hp (by have := hM.out; omega))
          clear hbad hT hT2 hM hG hp HH hm4
          go_wp2
          go_ret
          exact ⟨retB D.out.symm, N4, _, hQ3, fun h => absurd (h.symm.trans D.out) (by decide)⟩
        · have hm5 := hm4.out hp
          have hsx : shp nv na x ((6 - d).toNat - 1) = true ∧ m.toNat + x.size ≤ 15 := by simpa [scanB] using hp
          have hG2 := Lib.hid (show shps nv na (l.take (j + 1)) ((6 - d).toNat - 1) = true by rw [hT.out, hG.out, hsx.1]; rfl)
          have hM2 := Lib.hid (show m' = q + 1 + Ex.sizes (l.take (j + 1)) by have := hM.out; have := hT2.out; have := hE2.out; omega)
          have h15 : m' ≤ 15 := by omega
          have h0 : 0 ≤ m' := by omega
          clear hbad hT hT2 hM hG hp hm4 hm5 hsx
          go_wp2
          go_roundw
          case rel => exact ⟨j + 1, m', by omega, by go_num, hNA2, hQ3, h0, h15, hM2, hG2⟩
          case measure => simp [intOf]; omega
      · have D := Lib.hid (show scanB nv na (.node k v l) (6 - d).toNat q.toNat = true by
          have h := hG.out
          rw [List.take_of_length_le (by omega)] at h
          have h2 := hM.out
          rw [List.take_of_length_le (by omega)] at h2
          rw [SB.out, V3.out, h, SZ.out]; simp; omega)
        have hfin := Lib.hid (show m = q + (Ex.node k v l).size by
          have h2 := hM.out
          rw [List.take_of_length_le (by omega)] at h2
          have := SZ.out; omega)
        have hge : l.length ≤ j := by omega
        clear hG hM V3 HH hs
        go_wp2
        go_ret
        exact ⟨retB D.out.symm, N3, m, hQ, fun _ => hfin.out⟩
  have e3 : (k == 3) = false := by simp [k3]
  have hL := Lib.hid (show limit nv na k - 1 = 0 by unfold limit; rw [if_neg k1, if_neg k2, if_neg k3]; rfl)
  clear k1 k2 k3
  go_wp2_with fail
  refine (Lab.within _ _ _ _).mono ?_
  rintro e w' ⟨rfl, rfl⟩
  cases hin : Lab.inside v 0 (0)
  · have D := Lib.hid (show scanB nv na (.node k v l) (6 - d).toNat q.toNat = false by
      have e : (decide (0 ≤ v) && decide (v < limit nv na k)) = false := by rw [LH.out, hL.out]; exact hin
      rw [SB.out, U.out]
      rcases Bool.and_eq_false_iff.1 e with h | h <;> rw [h] <;> simp)
    clear hin HH
    go_wp2
    go_ret
    exact ⟨retB D.out.symm, N1, _, Q1, fun h => absurd (h.symm.trans D.out) (by decide)⟩
  have VL := Lib.hid (show (decide (0 ≤ v) && decide (v < limit nv na k)) = true by rw [LH.out, hL.out]; exact hin)
  clear hin
  have V := Lib.hid (show shp nv na (.node k v l) (6 - d).toNat = (shps nv na l ((6 - d).toNat - 1) && (!(k == 3) || atom0 l)) by
    have e0 : decide (1 ≤ (6 - d).toNat) = true := by rw [decide_eq_true_eq]; omega
    have e1 : decide ((l.length : Int) = arity k) = true := by rw [decide_eq_true_eq]; exact G2.out
    obtain ⟨e2, e3⟩ := (Bool.and_eq_true _ _).mp VL.out
    rw [U.out, e0, e1, e2, e3]; simp)
  clear U LH VL
  have V3 := Lib.hid (show shp nv na (.node k v l) (6 - d).toNat = shps nv na l ((6 - d).toNat - 1) by rw [V.out, e3]; simp)
  clear V
  clear hL
  go_wp2_with fail
  clear e3
  go_loopw [71] (fun i wr => ∃ (j : Nat) (m : Int), j ≤ l.length ∧ i = .int .i64 j ∧ One bc w1 wr ∧ Cnt wr bc m ∧ 0 ≤ m ∧ m ≤ 15 ∧ Hid (m = q + 1 + Ex.sizes (l.take j)) ∧ Hid (shps nv na (l.take j) ((6 - d).toNat - 1) = true)) (fun i _ => l.length - (intOf i).toNat)
  case atStart => exact ⟨0, q + 1, Nat.zero_le _, rfl, Kp.refl _ _, Q1, by omega, by omega, Lib.hid (by simp [Ex.sizes]), Lib.hid (by simp [shps])⟩
  case round =>
    obtain ⟨j, m, hj, rfl, hNA, hQ, hm0, hm15, hM, hG⟩ := hrel
    have N3 : One bc w wr := N1.trans (hNA.mono fun _ _ e => e)
    have hz3 := hNA.size
    have bA3 : wr.heap[w.heap.size]? = _ := (hNA.block _ (by omega) (by omega)).trans bA_1
    have bB3 : wr.heap[w.heap.size + 1]? = _ := (hNA.block _ (by omega) (by omega)).trans bB_1
    obtain ⟨cA0, cA1, cA2⟩ := cells3 bA3
    obtain ⟨cB0, cB1, cB2⟩ := cells3 bB3
    by_cases hlt : j < l.length
    · obtain ⟨b, o, s, e, hb1, hb2, c0, c1, c2, hs1⟩ := (hs.kp N3 h1 (fun x e => by omega)).at j hlt
      cases e
      have hsz : Ex.sizes l[j].kids < n := by have := Ex.kids_get l j hlt; omega
      have hbad := Lib.hid (scan_bad nv na ((6 - d).toNat - 1) (c := q.toNat) (m := m.toNat) hlt)
      have hT := Lib.hid (shps_take nv na ((6 - d).toNat - 1) hlt)
      have hT2 := Lib.hid (Ex.sizes_take_succ l j hlt)
      have hE := Lib.hid (show Ex.node l[j].kind l[j].val l[j].kids = l[j] by cases l[j]; rfl)
      have hE2 := Lib.hid (Ex.size_kids l[j])
      have hz : hi ≤ (wr.alloc (.cells #[.int .i64 l[j].kind, .int .i64 l[j].val, s] 45)).heap.size := by simp; omega
      have k1 := hs1.new (by omega) ((Kp.refl (fun _ => False) wr).alloc (.cells #[.int .i64 l[j].kind, .int .i64 l[j].val, s] 45))
      obtain ⟨sa, sc, rfl, _⟩ := k1.len
      have hbl : b < wr.heap.size := by omega
      have zA : w.heap.size < wr.heap.size := by omega
      have zB : w.heap.size + 1 < wr.heap.size := by omega
      have hQ1 : Cnt (wr.alloc (.cells #[.int .i64 l[j].kind, .int .i64 l[j].val, .slice sa l[j].kids.length sc] 45)) bc m := heap_old hQ
      clear hs hs1
      generalize l[j] = x at *
      go_wp2_with fail
      refine (HH.out _ lo hi _ _ _ _ _ _ _ _ _ _ _ (d + 1) bc m hsz k1 hz (by omega) (by omega) hnv hna hQ1 hm0 hm15 hbc).mono ?_
      rintro r w3 ⟨rfl, hn3, m', hQ3, hm3⟩
      have N4 : One bc w w3 := (N3.alloc _).trans (hn3.mono fun _ _ e => e)
      have hNA2 : One bc w1 w3 := (hNA.alloc _).trans (hn3.mono fun _ _ e => e)
      rw [show (6 - (d + 1)).toNat = (6 - d).toNat - 1 by omega, hE.out] at hm3 ⊢
      have hm4 := Lib.hid hm3
      clear hm3
      cases hp : scanB nv na x ((6 - d).toNat - 1) m.toNat
      · have D := Lib.hid (show scanB nv na (.node k v l) (6 - d).toNat q.toNat = false by
          rw [SB.out, V3.out, SZ.out]; exact hbad.out hp (by have := hM.out; omega))
        clear hbad hT hT2 hM hG hp HH hm4
        go_wp2
        go_ret
        exact ⟨retB D.out.symm, N4, _, hQ3, fun h => absurd (h.symm.trans D.out) (by decide)⟩
      · have hm5 := hm4.out hp
        have hsx : shp nv na x ((6 - d).toNat - 1) = true ∧ m.toNat + x.size ≤ 15 := by simpa [scanB] using hp
        have hG2 := Lib.hid (show shps nv na (l.take (j + 1)) ((6 - d).toNat - 1) = true by rw [hT.out, hG.out, hsx.1]; rfl)
        have hM2 := Lib.hid (show m' = q + 1 + Ex.sizes (l.take (j + 1)) by have := hM.out; have := hT2.out; have := hE2.out; omega)
        have h15 : m' ≤ 15 := by omega
        have h0 : 0 ≤ m' := by omega
        clear hbad hT hT2 hM hG hp hm4 hm5 hsx
        go_wp2
        go_roundw
        case rel => exact ⟨j + 1, m', by omega, by go_num, hNA2, hQ3, h0, h15, hM2, hG2⟩
        case measure => simp [intOf]; omega
    · have D := Lib.hid (show scanB nv na (.node k v l) (6 - d).toNat q.toNat = true by
        have h := hG.out
        rw [List.take_of_length_le (by omega)] at h
        have h2 := hM.out
        rw [List.take_of_length_le (by omega)] at h2
        rw [SB.out, V3.out, h, SZ.out]; simp; omega)
      have hfin := Lib.hid (show m = q + (Ex.node k v l).size by
        have h2 := hM.out
        rw [List.take_of_length_le (by omega)] at h2
        have := SZ.out; omega)
      have hge : l.length ≤ j := by omega
      clear hG hM V3 HH hs
      go_wp2
      go_ret
      exact ⟨retB D.out.symm, N3, m, hQ, fun _ => hfin.out⟩
theorem does : ∀ n, Does n
  | 0 => fun w lo hi a a' nv c na c' tc k v s l d bc q hl => absurd hl (Nat.not_lt_zero _)
  | n + 1 => fun w lo hi a a' nv c na c' tc k v s l d bc q hl hs h1 h2 h3 h4 h5 h6 h7 h8 h9 => scan_step n (does n) w lo hi a a' nv c na c' tc k v s l d bc q (Nat.le_of_lt_succ hl) hs h1 h2 h3 h4 h5 h6 h7 h8 h9
set_option maxHeartbeats 1000000 in
theorem expr {w : World} {lo hi : Nat} {a a' : Option Addr} {nv c na c' : Nat} {tc : Value} {k v : Int} {s : Value} {l : List Ex} (hs : KidsR w lo hi s l) (h1 : hi ≤ w.heap.size) (hnv : nv ≤ 9223372036854775807) (hna : na ≤ 9223372036854775807) :
    Calls Tryd.prog 53 #[.agg #[.slice a nv c, .slice a' na c', tc], .agg #[.int .i64 k, .int .i64 v, s]] w fun e w' => e = .returned (.bool (right nv na (.node k v l))) ∧ New w w' := by
  go_enter Tryd.func53, Tryd.ntmps53
  go_wp2_with fail
  have N0 : New w (((w.alloc (.cells #[.slice a nv c, .slice a' na c', tc] 41)).alloc (.cells #[.int .i64 k, .int .i64 v, s] 45)).alloc (.cells #[.int .i64 0] 3)) := ((((Kp.refl _ _).alloc _).alloc _).alloc _)
  have bA_0 : (((w.alloc (.cells #[.slice a nv c, .slice a' na c', tc] 41)).alloc (.cells #[.int .i64 k, .int .i64 v, s] 45)).alloc (.cells #[.int .i64 0] 3)).heap[w.heap.size]? = some (.cells #[.slice a nv c, .slice a' na c', tc] 41) := heap_old (heap_old (alloc_heap _ _))
  have bB_0 : (((w.alloc (.cells #[.slice a nv c, .slice a' na c', tc] 41)).alloc (.cells #[.int .i64 k, .int .i64 v, s] 45)).alloc (.cells #[.int .i64 0] 3)).heap[w.heap.size + 1]? = some (.cells #[.int .i64 k, .int .i64 v, s] 45) := heap_old (heap_at (by simp))
  have bQ_0 : (((w.alloc (.cells #[.slice a nv c, .slice a' na c', tc] 41)).alloc (.cells #[.int .i64 k, .int .i64 v, s] 45)).alloc (.cells #[.int .i64 0] 3)).heap[w.heap.size + 1 + 1]? = some (.cells #[.int .i64 0] 3) := heap_at (by simp)
  have z0 : w.heap.size + 1 + 1 < (((w.alloc (.cells #[.slice a nv c, .slice a' na c', tc] 41)).alloc (.cells #[.int .i64 k, .int .i64 v, s] 45)).alloc (.cells #[.int .i64 0] 3)).heap.size := by simp
  generalize (((w.alloc (.cells #[.slice a nv c, .slice a' na c', tc] 41)).alloc (.cells #[.int .i64 k, .int .i64 v, s] 45)).alloc (.cells #[.int .i64 0] 3)) = w0 at *
  refine (does _ _ lo hi _ _ _ _ _ _ _ _ _ _ _ 1 (w.heap.size + 1 + 1) 0 (Nat.lt_succ_self _) (hs.new h1 N0) (by omega) (by omega) (by omega) hnv hna bQ_0 (by omega) (by omega) (by omega)).mono ?_
  rintro e w1 ⟨rfl, hk, _⟩
  have D := Lib.hid (right_scan nv na (.node k v l))
  rw [show (6 - 1 : Int).toNat = 5 from rfl, show (0 : Int).toNat = 0 from rfl, D.out]
  go_wp2
  go_ret
  exact ⟨rfl, New.one N0 hk (by omega)⟩
end Go.Proofs.YtckikiaockkmbaaDoor.ScanV
