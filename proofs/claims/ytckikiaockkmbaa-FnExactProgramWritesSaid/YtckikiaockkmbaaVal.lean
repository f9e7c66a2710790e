/- What the program's validity is, in plain words: labels, declarations, values, memories, expressions, statements. No program in sight; no conditions. -/
import Derived.Test.YtckikiaockkmbaaLab
import Derived.Test.YtckikiaockkmbaaStmt
import Derived.Test.YtckikiaockkmbaaFlat
namespace Go.Proofs.Ytckikiaockkmbaa.Val
open Go.RowKit Kit
set_option linter.unusedVariables false
def good (xs : List Int) : Bool := xs.all Lab.okL
def okV (x : Int) : Bool := Lab.inside x 0 255
def okVs (xs : List Int) : Bool := xs.all okV
def declB (xa xb : List Int) : Bool := decide (1 ≤ xa.length) && decide (xa.length ≤ 12) && decide (xb.length ≤ 2) && good xa && good xb
def rowB (a : List Int) : Bool := decide (a.length = 4) && okVs a
def fitB (nv na : Nat) (ya : List Int) (yb : List (List Int)) : Bool := decide (ya.length = nv) && decide (yb.length = na) && okVs ya && yb.all rowB
theorem good_bad {xs : List Int} {j : Nat} (h : j < xs.length) (hb : Lab.okL xs[j] = false) : good xs = false := by
  rw [good, List.all_eq_false]; exact ⟨_, List.getElem_mem h, by simp [hb]⟩
theorem good_take {xs : List Int} {j : Nat} (h : j < xs.length) : good (xs.take (j + 1)) = (good (xs.take j) && Lab.okL xs[j]) := by rw [List.take_succ_eq_append_getElem h]; simp only [good, List.all_append, List.all_cons, List.all_nil, Bool.and_true]
theorem okVs_bad {xs : List Int} {j : Nat} (h : j < xs.length) (hb : okV xs[j] = false) : okVs xs = false := by
  rw [okVs, List.all_eq_false]; exact ⟨_, List.getElem_mem h, by simp [hb]⟩
theorem okVs_take {xs : List Int} {j : Nat} (h : j < xs.length) : okVs (xs.take (j + 1)) = (okVs (xs.take j) && okV xs[j]) := by rw [List.take_succ_eq_append_getElem h]; simp only [okVs, List.all_append, List.all_cons, List.all_nil, Bool.and_true]
theorem all_bad {α : Type} {p : α → Bool} {xs : List α} {j : Nat} (h : j < xs.length) (hb : p xs[j] = false) : xs.all p = false := by
  rw [List.all_eq_false]; exact ⟨_, List.getElem_mem h, by simp [hb]⟩
theorem all_take {α : Type} {p : α → Bool} {xs : List α} {j : Nat} (h : j < xs.length) : (xs.take (j + 1)).all p = ((xs.take j).all p && p xs[j]) := by rw [List.take_succ_eq_append_getElem h]; simp only [List.all_append, List.all_cons, List.all_nil, Bool.and_true]

/-- expressions -/
def arity (k : Int) : Int := if k = 1 ∨ k = 2 then 0 else if k = 3 then 1 else if 4 ≤ k ∧ k ≤ 10 then 2 else if k = 11 then 3 else -1
def limit (nv na : Nat) (k : Int) : Int := if k = 1 then 256 else if k = 2 then nv else if k = 3 then na else 1
def atom (e : Ex) : Bool := e.kind == 1 || e.kind == 2
def atom0 : List Ex → Bool | [] => false | e :: _ => atom e
mutual
def shp (nv na : Nat) : Ex → Nat → Bool
  | .node k v ks, d => decide (1 ≤ d) && decide ((ks.length : Int) = arity k) && decide (0 ≤ v) && decide (v < limit nv na k) && shps nv na ks (d - 1) && (!(k == 3) || atom0 ks)
def shps (nv na : Nat) : List Ex → Nat → Bool
  | [], _ => true
  | e :: es, d => shp nv na e d && shps nv na es d
end
mutual
def cnt : Ex → Nat → Nat
  | .node _ _ ks, d => 1 + (if 0 < d then cnts ks (d - 1) else 0)
def cnts : List Ex → Nat → Nat
  | [], _ => 0
  | e :: es, d => cnt e d + cnts es d
end
mutual
theorem cnt_size (nv na : Nat) : ∀ (e : Ex) (d : Nat), shp nv na e d = true → cnt e d = e.size
  | .node k v ks, d, h => by
    simp only [shp, Bool.and_eq_true, decide_eq_true_eq] at h
    have h1 := cnts_size nv na ks (d - 1) h.1.2
    have h2 := h.1.1.1.1.1
    rw [cnt, Ex.size, if_pos (by omega), h1]; omega
theorem cnts_size (nv na : Nat) : ∀ (l : List Ex) (d : Nat), shps nv na l d = true → cnts l d = Ex.sizes l
  | [], _, _ => by simp [cnts, Ex.sizes]
  | e :: es, d, h => by
    simp only [shps, Bool.and_eq_true] at h
    rw [cnts, Ex.sizes, cnt_size nv na e d h.1, cnts_size nv na es d h.2]
end
theorem shps_bad (nv na : Nat) : ∀ (l : List Ex) (d j : Nat) (h : j < l.length), shp nv na l[j] d = false → shps nv na l d = false
  | e :: es, d, 0, _, hb => by simp only [List.getElem_cons_zero] at hb; simp [shps, hb]
  | e :: es, d, j + 1, h, hb => by simp only [List.getElem_cons_succ] at hb; simp [shps, shps_bad nv na es d j (by simpa using h) hb]
theorem shps_append (nv na : Nat) : ∀ (l m : List Ex) (d : Nat), shps nv na (l ++ m) d = (shps nv na l d && shps nv na m d)
  | [], m, d => by simp [shps]
  | e :: es, m, d => by simp [shps, shps_append nv na es m d, Bool.and_assoc]
theorem shps_take (nv na : Nat) {l : List Ex} {j : Nat} (d : Nat) (h : j < l.length) : shps nv na (l.take (j + 1)) d = (shps nv na (l.take j) d && shp nv na l[j] d) := by
  rw [List.take_succ_eq_append_getElem h, shps_append]; simp [shps]
theorem cnts_append : ∀ (l m : List Ex) (d : Nat), cnts (l ++ m) d = cnts l d + cnts m d
  | [], m, d => by simp [cnts]
  | e :: es, m, d => by simp [cnts, cnts_append es m d]; omega
theorem cnts_take {l : List Ex} {j : Nat} (d : Nat) (h : j < l.length) : cnts (l.take (j + 1)) d = cnts (l.take j) d + cnt l[j] d := by
  rw [List.take_succ_eq_append_getElem h, cnts_append]; simp [cnts]
mutual
theorem cnt_le : ∀ (e : Ex) (d : Nat), cnt e d ≤ e.size
  | .node k v ks, d => by
    have := cnts_le ks (d - 1)
    rw [cnt, Ex.size]; split <;> omega
theorem cnts_le : ∀ (l : List Ex) (d : Nat), cnts l d ≤ Ex.sizes l
  | [], _ => by simp [cnts]
  | e :: es, d => by have := cnt_le e d; have := cnts_le es d; simp [cnts, Ex.sizes]; omega
end
def right (nv na : Nat) (e : Ex) : Bool := shp nv na e 5 && decide (cnt e 5 ≤ 15)
theorem sizes_td : ∀ (l : List Ex) (j : Nat), Ex.sizes l = Ex.sizes (l.take j) + Ex.sizes (l.drop j)
  | [], j => by simp [Ex.sizes]
  | e :: es, 0 => by simp [Ex.sizes]
  | e :: es, j + 1 => by have := sizes_td es j; simp [Ex.sizes]; omega
/-- what scan finds: from count c on -/
def scanB (nv na : Nat) (e : Ex) (d c : Nat) : Bool := shp nv na e d && decide (c + e.size ≤ 15)
theorem right_scan (nv na : Nat) (e : Ex) : scanB nv na e 5 0 = right nv na e := by
  unfold scanB right
  cases h : shp nv na e 5
  · rfl
  · rw [cnt_size nv na e 5 h, Nat.zero_add]
theorem scan_bad (nv na d : Nat) {c m j : Nat} {l : List Ex} (h : j < l.length) (hp : scanB nv na l[j] d m = false) (hm : m = c + 1 + Ex.sizes (l.take j)) : (shps nv na l d && decide (c + (Ex.sizes l + 1) ≤ 15)) = false := by
  rcases Bool.and_eq_false_iff.1 hp with h1 | h1
  · rw [shps_bad nv na l d j h h1]; rfl
  · have h2 := of_decide_eq_false h1
    have h3 : Ex.sizes (l.take j) + l[j].size ≤ Ex.sizes l := by
      have e1 := sizes_td l (j + 1)
      have e2 : Ex.sizes (l.take (j + 1)) = Ex.sizes (l.take j) + l[j].size := by
        have := sizes_td (l.take (j + 1)) j
        rw [List.take_take, Nat.min_eq_left (Nat.le_succ j)] at this
        rw [this]; congr 1
        rw [List.take_succ_eq_append_getElem h, List.drop_append_of_le_length (by simp; omega), List.drop_of_length_le (by simp; omega)]
        simp [Ex.sizes]
      omega
    have h4 : decide (c + (Ex.sizes l + 1) ≤ 15) = false := by rw [decide_eq_false_iff_not]; omega
    rw [h4]; simp
def exprB (xa xb : List Int) (e : Ex) : Bool := declB xa xb && right xa.length xb.length e
end Go.Proofs.Ytckikiaockkmbaa.Val
