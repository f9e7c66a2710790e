/- Plain facts on evaluation, for the laws. No conditions. -/
import Derived.Test.YtbicpkmlionldaaEEvM
import Derived.Test.YtbicpkmlionldaaEP2
namespace Go.Proofs.Ytbicpkmlionldaa.LawE
open Go.RowKit Kit Val EvP EvM
set_option linter.unusedVariables false
theorem got_yes {xa xb : List Int} {l : List St} {ya : List Int} {yb : List (List Int)} {k v X : Int} {ks : List Ex} {TR : List Ev} {w w' : World} {e : Ending} (h : GotE xa xb l ya yb k v ks w e w') (ht : evT xa xb l ya yb k v ks = true) (hX : evl ya yb (.node k v ks) = X) (hT : evt ya yb (.node k v ks) = TR) :
    ∃ a d, e = .returned (.tuple #[.int .i64 X, .slice a TR.length d, .bool true]) ∧ New w w' ∧ OwnF 2 encE w' w.heap.size 68 (.slice a TR.length d) TR := by
  subst hX hT
  obtain ⟨ve, he, hn, hM⟩ := h
  rw [ht] at he hM
  simp only [if_true] at he hM
  obtain ⟨a, d, rfl, _⟩ := hM.reads.len
  exact ⟨a, d, he, hn, hM⟩
theorem got_no {xa xb : List Int} {l : List St} {ya : List Int} {yb : List (List Int)} {k v : Int} {ks : List Ex} {w w' : World} {e : Ending} (h : GotE xa xb l ya yb k v ks w e w') (ht : evT xa xb l ya yb k v ks = false) :
    ∃ a d, e = .returned (.tuple #[.int .i64 0, .slice a 0 d, .bool false]) ∧ New w w' ∧ OwnF 2 encE w' w.heap.size 68 (.slice a 0 d) [] := by
  obtain ⟨ve, he, hn, hM⟩ := h
  rw [ht] at he hM
  simp only [Bool.false_eq_true, if_false] at he hM
  obtain ⟨a, d, rfl, _⟩ := hM.reads.len
  exact ⟨a, d, he, hn, hM⟩
section
variable {xa xb : List Int} {l : List St} {ya : List Int} {yb : List (List Int)} {k v : Int} {ks : List Ex}
theorem parts (h : evT xa xb l ya yb k v ks = true) : progB xa xb l = true ∧ fitB xa.length xb.length ya yb = true ∧ right xa.length xb.length (.node k v ks) = true := by
  simp only [evT, Bool.and_eq_true] at h; exact ⟨h.1.1, h.1.2, h.2⟩
theorem shp_of (h : evT xa xb l ya yb k v ks = true) : shp xa.length xb.length (.node k v ks) 5 = true := (right_shp (parts h).2.2).1
theorem fit_of (h : evT xa xb l ya yb k v ks = true) : Fit xa.length xb.length ya yb := fit (parts h).2.1
theorem kids3 (h : evT xa xb l ya yb k v ks = true) : ks.length ≤ 3 := by rcases kinds (shp_of h) with q | q | q | q | q <;> omega
theorem evT_kid (h : evT xa xb l ya yb k v ks = true) (j : Nat) (hj : j < ks.length) : evT xa xb l ya yb ks[j].kind ks[j].val ks[j].kids = true := by
  obtain ⟨h1, h2, h3⟩ := parts h
  have h4 := LawT.right_kids h3 j hj
  rw [show ks[j] = .node ks[j].kind ks[j].val ks[j].kids by cases ks[j]; rfl] at h4
  simp only [evT, Bool.and_eq_true]
  exact ⟨⟨h1, h2⟩, h4⟩
theorem at0_evls {j : Nat} (hj : j < ks.length) : Step.at0 (evls ya yb ks) j = evl ya yb ks[j] := by
  rw [show Step.at0 (evls ya yb ks) (j : Int) = (evls ya yb ks)[j]'(by rw [evls_length]; exact hj) from EvP.at0_nat (by rw [evls_length]; exact hj), evls_get]
theorem range_of (h : evT xa xb l ya yb k v ks = true) : ∀ i (h : i < (evls ya yb ks).length), 0 ≤ (evls ya yb ks)[i] ∧ (evls ya yb ks)[i] ≤ 255 := evls_range (fit_of h) ks 4 (shps_of (shp_of h))
end
theorem at0_nat {vs : List Int} (h : ∀ i (h : i < vs.length), 0 ≤ vs[i] ∧ vs[i] ≤ 255) (i : Nat) (hi : i < vs.length) : ∃ n : Nat, Step.at0 vs i = n ∧ n ≤ 255 := by
  have := h i hi
  refine ⟨vs[i].toNat, ?_, by omega⟩
  rw [show Step.at0 vs (i : Int) = vs[i] from EvP.at0_nat hi]; omega
/-- the values so far, in a row of three -/
def pad (vs : List Int) (j : Nat) : List Int := (List.range 3).map fun i => if i < j then Step.at0 vs i else 0
theorem pad_length (vs : List Int) (j : Nat) : (pad vs j).length = 3 := by simp [pad]
theorem pad_set (vs : List Int) (j : Nat) (hj : j < 3) : pad vs (j + 1) = (pad vs j).set j (Step.at0 vs j) := by
  apply List.ext_getElem
  · simp [pad]
  · intro i h1 h2
    rw [List.getElem_set]
    simp only [pad, List.getElem_map, List.getElem_range]
    by_cases e : j = i
    · subst e; simp
    · have : (i < j + 1) = (i < j) := by apply propext; omega
      simp only [this, e, if_false]
/-- block g is a row of ints -/
def RowI (w : World) (g : Nat) (xs : List Int) : Prop := w.heap[g]? = some (.cells (xs.map (Value.int .i64)).toArray 3 (0, 0))
theorem RowI.bk {w w' : World} {g : Nat} {xs : List Int} (h : RowI w g xs) {S : Nat → Prop} (k : Kp S w w') (hs : ¬ S g) : RowI w' g xs := (k.block _ (heap_lt h) hs).trans h
theorem RowI.cell {w : World} {g : Nat} {xs : List Int} (h : RowI w g xs) (i : Nat) (hi : i < xs.length) : w.cell? ⟨g, i, none⟩ = some (.int .i64 xs[i]) := by
  rw [cell_of_heap h i]; simp [hi]
theorem RowI.free {w : World} {g : Nat} {xs : List Int} (h : RowI w g xs) (i : Nat) : w.frozen? ⟨g, i, none⟩ = false := frozen_of_heap h i
theorem RowI.set {w : World} {g : Nat} {xs : List Int} (h : RowI w g xs) (i : Nat) (b : Int) : RowI (w.setCell ⟨g, i, none⟩ (.int .i64 b)) g (xs.set i b) := by
  have := setCell_heap (o := i) h (.int .i64 b)
  unfold RowI
  rw [this]
  simp [List.map_set]
mutual
/-- an expression that brings no events does not hang on the arrays -/
theorem quiet_evl (ya : List Int) (yb yc : List (List Int)) : ∀ e : Ex, evt ya yb e = [] → evl ya yb e = evl ya yc e
  | .node k v ks, h => by
    rw [evt, List.append_eq_nil_iff] at h
    have h1 := quiet_evls ya yb yc ks h.1
    rw [evl, evl, ← h1]
    by_cases hk : k = 3
    · subst hk; simp [opT] at h
    · unfold opV; rw [if_neg hk, if_neg hk]
theorem quiet_evls (ya : List Int) (yb yc : List (List Int)) : ∀ l : List Ex, evts ya yb l = [] → evls ya yb l = evls ya yc l
  | [], _ => rfl
  | e :: es, h => by
    rw [evts, List.append_eq_nil_iff] at h
    rw [evls, evls, quiet_evl ya yb yc e h.1, quiet_evls ya yb yc es h.2]
end
theorem evT_rows {xa xb : List Int} {l : List St} {ya : List Int} {yb : List (List Int)} {k v q : Int} {ks : List Ex} (h : evT xa xb l ya yb k v ks = true) (q0 : 0 ≤ q) (q1 : q ≤ 255) : evT xa xb l ya (List.replicate yb.length [1, 2, 3, q]) k v ks = true := by
  obtain ⟨h1, h2, h3⟩ := parts h
  simp only [fitB, Bool.and_eq_true, decide_eq_true_eq] at h2
  simp only [evT, Bool.and_eq_true]
  refine ⟨⟨h1, ?_⟩, h3⟩
  simp only [fitB, Bool.and_eq_true, decide_eq_true_eq, List.all_eq_true, List.length_replicate]
  refine ⟨⟨⟨h2.1.1.1, h2.1.1.2⟩, h2.1.2⟩, fun z hz => ?_⟩
  rw [(List.mem_replicate.1 hz).2]
  simp [rowB, okVs, okV, Lab.inside, q0, q1]
/-- a row of four, just laid -/
theorem row4 (w : World) (q : Int) (x : Obj) : OwnF 1 encI ((w.alloc (.cells #[.int .i64 1, .int .i64 2, .int .i64 3, .int .i64 q] 3)).alloc x) w.heap.size 3 (.slice (some ⟨w.heap.size, 0, none⟩) 4 4) [1, 2, 3, q] := by
  refine OwnF.mk' (xs := [1, 2, 3, q]) (cap := 4) (heap_old (alloc_heap _ _)) (Nat.le_refl _) (Nat.le_refl _) (by unfold maxLen; omega) rfl fun i hi t ht => ?_
  obtain rfl : t = 0 := by omega
  match i, hi with
  | 0, _ => rfl
  | 1, _ => rfl
  | 2, _ => rfl
  | 3, _ => rfl
theorem hdr (w : World) (s : Value) (T : TypeId) : FlR 1 encV (w.alloc (.cells #[s] T)) w.heap.size (w.heap.size + 1) (.slice (some ⟨w.heap.size, 0, none⟩) 1 1) [s] := FlR.one fun t ht => match t, ht with | 0, _ => cell_of_heap (alloc_heap w _) 0
end Go.Proofs.Ytbicpkmlionldaa.LawE
