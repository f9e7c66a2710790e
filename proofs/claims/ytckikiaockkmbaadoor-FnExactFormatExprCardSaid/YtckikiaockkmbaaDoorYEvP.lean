/- What expressions evaluate to, and which events they bring, in plain words. No conditions. -/
import Derived.Test.YtckikiaockkmbaaDoorYP7
import Derived.Test.YtckikiaockkmbaaDoorYLawT
namespace Go.Proofs.YtckikiaockkmbaaDoor.EvP
open Go.RowKit Kit Val Step
set_option linter.unusedVariables false
/-- what an operator makes of its operands' values -/
def opV (ya : List Int) (yb : List (List Int)) (k v : Int) (vs : List Int) : Int :=
  if k = 1 then v else if k = 2 then at0 ya v else if k = 3 then at0 (row0 yb v) (at0 vs 0 % 4) else if k = 11 then (if at0 vs 0 = 0 then at0 vs 2 else at0 vs 1) else binV k (at0 vs 0) (at0 vs 1)
/-- the event of a read -/
def opT (k v : Int) (vs : List Int) : List Ev := if k = 3 then [(2, addr v (at0 vs 0))] else []
mutual
def evl (ya : List Int) (yb : List (List Int)) : Ex → Int
  | .node k v ks => opV ya yb k v (evls ya yb ks)
def evls (ya : List Int) (yb : List (List Int)) : List Ex → List Int
  | [] => []
  | e :: es => evl ya yb e :: evls ya yb es
end
mutual
def evt (ya : List Int) (yb : List (List Int)) : Ex → List Ev
  | .node k v ks => evts ya yb ks ++ opT k v (evls ya yb ks)
def evts (ya : List Int) (yb : List (List Int)) : List Ex → List Ev
  | [] => []
  | e :: es => evt ya yb e ++ evts ya yb es
end
section
variable {ya : List Int} {yb : List (List Int)}
theorem evls_length : ∀ l : List Ex, (evls ya yb l).length = l.length
  | [] => rfl
  | e :: es => by simp [evls, evls_length es]
theorem opT_len (k v : Int) (vs : List Int) : (opT k v vs).length ≤ 1 := by unfold opT; split <;> simp
mutual
theorem evt_len : ∀ e : Ex, (evt ya yb e).length ≤ e.size
  | .node k v ks => by have := evts_len ks; have := opT_len k v (evls ya yb ks); simp only [evt, List.length_append, Ex.size]; omega
theorem evts_len : ∀ l : List Ex, (evts ya yb l).length ≤ Ex.sizes l
  | [] => by simp [evts, Ex.sizes]
  | e :: es => by have := evt_len e; have := evts_len es; simp only [evts, List.length_append, Ex.sizes]; omega
end
end
/-- the kinds of a valid node -/
theorem kinds {nv na d : Nat} {k v : Int} {ks : List Ex} (h : shp nv na (.node k v ks) d = true) :
    (k = 1 ∧ ks.length = 0 ∧ 0 ≤ v ∧ v ≤ 255) ∨ (k = 2 ∧ ks.length = 0 ∧ 0 ≤ v ∧ v < nv) ∨ (k = 3 ∧ ks.length = 1 ∧ 0 ≤ v ∧ v < na) ∨ (4 ≤ k ∧ k ≤ 10 ∧ ks.length = 2 ∧ v = 0) ∨ (k = 11 ∧ ks.length = 3 ∧ v = 0) := by
  simp only [shp, Bool.and_eq_true, decide_eq_true_eq] at h
  obtain ⟨⟨⟨⟨⟨-, h2⟩, h3⟩, h4⟩, -⟩, -⟩ := h
  unfold arity at h2
  unfold limit at h4
  split at h2
  · rcases ‹k = 1 ∨ k = 2› with rfl | rfl
    · simp at h4; omega
    · simp at h4; omega
  · split at h2
    · subst k; simp at h4; omega
    · split at h2
      · rw [if_neg (by omega), if_neg (by omega), if_neg (by omega)] at h4; omega
      · split at h2
        · subst k; simp at h4; omega
        · omega
theorem kids {nv na d : Nat} {k v : Int} {ks : List Ex} (h : shp nv na (.node k v ks) d = true) (j : Nat) (hj : j < ks.length) : shp nv na ks[j] (d - 1) = true := by
  simp only [shp, Bool.and_eq_true, decide_eq_true_eq] at h
  exact LawT.shps_get nv na _ h.1.2 j hj
theorem right_shp {nv na : Nat} {e : Ex} (h : right nv na e = true) : shp nv na e 5 = true ∧ e.size ≤ 15 := by
  simp only [right, Bool.and_eq_true, decide_eq_true_eq] at h
  exact ⟨h.1, by rw [← cnt_size nv na _ 5 h.1]; exact h.2⟩
/-- a memory that fits -/
structure Fit (nv na : Nat) (ya : List Int) (yb : List (List Int)) : Prop where
  vl : ya.length = nv
  vr : ∀ i (h : i < ya.length), 0 ≤ ya[i] ∧ ya[i] ≤ 255
  al : yb.length = na
  ar : ∀ i (h : i < yb.length), yb[i].length = 4
  ax : ∀ i (h : i < yb.length) j (h' : j < yb[i].length), 0 ≤ yb[i][j] ∧ yb[i][j] ≤ 255
theorem at0_nat {l : List Int} {i : Nat} (h : i < l.length) : at0 l i = l[i] := by simp [at0, h]
theorem row0_nat {l : List (List Int)} {i : Nat} (h : i < l.length) : row0 l i = l[i] := by simp [row0, h]
/-- the values of a node, from those of its operands -/
theorem opV_range {nv na : Nat} {ya : List Int} {yb : List (List Int)} (hf : Fit nv na ya yb) {d : Nat} {k v : Int} {ks : List Ex} (h : shp nv na (.node k v ks) d = true) {vs : List Int} (hl : vs.length = ks.length) (hv : ∀ i (h : i < vs.length), 0 ≤ vs[i] ∧ vs[i] ≤ 255) : 0 ≤ opV ya yb k v vs ∧ opV ya yb k v vs ≤ 255 := by
  rcases kinds h with ⟨rfl, h1, h2, h3⟩ | ⟨rfl, h1, h2, h3⟩ | ⟨rfl, h1, h2, h3⟩ | ⟨h1, h2, h3, rfl⟩ | ⟨rfl, h1, rfl⟩
  · simp [opV]; omega
  · obtain ⟨n, rfl⟩ := Int.eq_ofNat_of_zero_le h2
    have hn : n < ya.length := by have := hf.vl; omega
    have := hf.vr n hn
    rw [opV, if_neg (by decide), if_pos rfl]
    rw [show at0 ya (n : Int) = ya[n] from at0_nat hn]; exact this
  · obtain ⟨n, rfl⟩ := Int.eq_ofNat_of_zero_le h2
    have hn : n < yb.length := by have := hf.al; omega
    have h0 : 0 < vs.length := by omega
    have hr := hv 0 h0
    have e0 : at0 vs 0 = vs[0] := at0_nat (i := 0) h0
    obtain ⟨m, hm⟩ := Int.eq_ofNat_of_zero_le (show (0 : Int) ≤ vs[0] % 4 by omega)
    have hm4 : m < yb[n].length := by rw [hf.ar n hn]; omega
    have := hf.ax n hn m hm4
    rw [opV, if_neg (by decide), if_neg (by decide), if_pos rfl, e0, hm, row0_nat hn, at0_nat hm4]; exact this
  · have e0 : at0 vs 0 = vs[0]'(by omega) := at0_nat (i := 0) (by omega)
    have e1 : at0 vs 1 = vs[1]'(by omega) := at0_nat (i := 1) (by omega)
    have r0 := hv 0 (by omega)
    have r1 := hv 1 (by omega)
    rw [opV, if_neg (by omega), if_neg (by omega), if_neg (by omega), if_neg (by omega), e0, e1]
    exact OpV.bin_range h1 h2 r0.1 r0.2 r1.1 r1.2
  · have e1 : at0 vs 1 = vs[1]'(by omega) := at0_nat (i := 1) (by omega)
    have e2 : at0 vs 2 = vs[2]'(by omega) := at0_nat (i := 2) (by omega)
    have r1 := hv 1 (by omega)
    have r2 := hv 2 (by omega)
    rw [opV, if_neg (by decide), if_neg (by decide), if_neg (by decide), if_pos rfl, e1, e2]
    split <;> assumption
mutual
theorem evl_range {nv na : Nat} {ya : List Int} {yb : List (List Int)} (hf : Fit nv na ya yb) : ∀ (e : Ex) (d : Nat), shp nv na e d = true → 0 ≤ evl ya yb e ∧ evl ya yb e ≤ 255
  | .node k v ks, d, h => by
    rw [evl]
    refine opV_range hf h (evls_length ks) fun i hi => evls_range hf ks (d - 1) ?_ i hi
    simp only [shp, Bool.and_eq_true, decide_eq_true_eq] at h
    exact h.1.2
theorem evls_range {nv na : Nat} {ya : List Int} {yb : List (List Int)} (hf : Fit nv na ya yb) : ∀ (l : List Ex) (d : Nat), shps nv na l d = true → ∀ i (h : i < (evls ya yb l).length), 0 ≤ (evls ya yb l)[i] ∧ (evls ya yb l)[i] ≤ 255
  | e :: es, d, h, 0, _ => by
    simp only [shps, Bool.and_eq_true] at h
    exact evl_range hf e d h.1
  | e :: es, d, h, i + 1, hi => by
    simp only [shps, Bool.and_eq_true] at h
    simpa [evls] using evls_range hf es d h.2 i (by simpa [evls] using hi)
end
end Go.Proofs.YtckikiaockkmbaaDoor.EvP
