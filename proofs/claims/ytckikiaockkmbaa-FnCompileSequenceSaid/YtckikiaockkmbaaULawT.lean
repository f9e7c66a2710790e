/- Plain facts on programs and expressions, for the laws that draw them. No program in sight; no conditions. -/
import Derived.Test.YtckikiaockkmbaaUFlowP
namespace Go.Proofs.Ytckikiaockkmbaa.LawT
open Go.RowKit Kit Val
set_option linter.unusedVariables false
mutual
theorem shp_up (nv na : Nat) : ∀ (e : Ex) (d : Nat), shp nv na e d = true → shp nv na e (d + 1) = true
  | .node k v ks, d, h => by
    simp only [shp, Bool.and_eq_true, decide_eq_true_eq] at h ⊢
    obtain ⟨⟨⟨⟨⟨h1, h2⟩, h3⟩, h4⟩, h5⟩, h6⟩ := h
    have h7 := shps_up nv na ks (d - 1) h5
    rw [show d - 1 + 1 = d + 1 - 1 by omega] at h7
    exact ⟨⟨⟨⟨⟨by omega, h2⟩, h3⟩, h4⟩, h7⟩, h6⟩
theorem shps_up (nv na : Nat) : ∀ (l : List Ex) (d : Nat), shps nv na l d = true → shps nv na l (d + 1) = true
  | [], _, _ => rfl
  | e :: es, d, h => by
    simp only [shps, Bool.and_eq_true] at h ⊢
    exact ⟨shp_up nv na e d h.1, shps_up nv na es d h.2⟩
end
theorem shps_get (nv na d : Nat) {l : List Ex} (h : shps nv na l d = true) (j : Nat) (hj : j < l.length) : shp nv na l[j] d = true := by
  cases hb : shp nv na l[j] d
  · rw [shps_bad nv na l d j hj hb] at h; cases h
  · rfl
theorem blB_split {nv na d : Nat} (l : List St) (k : Nat) (h : blB nv na l d = true) : blB nv na (l.take k) d = true ∧ blB nv na (l.drop k) d = true := by
  have := blB_append nv na (l.take k) (l.drop k) d
  rw [List.take_append_drop, h] at this
  simpa using this.symm
theorem stsN_split (l : List St) (k : Nat) : stsN l = stsN (l.take k) + stsN (l.drop k) := by
  have := stsN_append (l.take k) (l.drop k); rwa [List.take_append_drop] at this
theorem progB_split {xa xb : List Int} {l : List St} (k : Nat) (h : progB xa xb l = true) : progB xa xb (l.take k) = true ∧ progB xa xb (l.drop k) = true := by
  have hb := blB_split l k (valid_bl h)
  have hn := (valid_N h).1
  have hs := stsN_split l k
  have z1 := stsZ_N _ _ _ _ hb.1
  have z2 := stsZ_N _ _ _ _ hb.2
  simp only [progB, Bool.and_eq_true, decide_eq_true_eq] at h ⊢
  exact ⟨⟨⟨h.1.1, hb.1⟩, by omega⟩, ⟨h.1.1, hb.2⟩, by omega⟩
theorem sts_cap {w : World} {lo hi n cap : Nat} {a : Option Addr} {l : List St} (h : StsR w lo hi (.slice a n cap) l) : n ≤ cap := by
  cases h with
  | nil a cap => exact Nat.zero_le _
  | cons b o cap l SI SV SB SE h0 hlo hhi hcap hmax c0 c1 c2 c3 c4 c5 c6 c7 c8 c9 c10 ri rv rb re => exact hcap
/-- the first k elements, and the others, as slices -/
theorem sts_take {w : World} {lo hi n cap : Nat} {a : Option Addr} {l : List St} (h : StsR w lo hi (.slice a n cap) l) (k : Nat) (hk : k ≤ l.length) : StsR w lo hi (.slice a k cap) (l.take k) := by
  cases h with
  | nil a cap => obtain rfl : k = 0 := by simpa using hk
                 exact .nil _ _
  | cons b o cap l SI SV SB SE h0 hlo hhi hcap hmax c0 c1 c2 c3 c4 c5 c6 c7 c8 c9 c10 ri rv rb re =>
    by_cases hk0 : k = 0
    · subst hk0; exact .nil _ _
    · have hl : (l.take k).length = k := by simp; omega
      have hg : ∀ i (h : i < (l.take k).length), i < l.length := fun i h => by omega
      rw [← hl]
      rw [hl]
      have := StsR.cons (w := w) (lo := lo) (hi := hi) b o cap (l.take k) SI SV SB SE (by omega) hlo hhi (by omega) hmax (fun i h => by rw [List.getElem_take]; exact c0 i (hg i h)) (fun i h => by rw [List.getElem_take]; exact c1 i (hg i h)) (fun i h => by rw [List.getElem_take]; exact c2 i (hg i h)) (fun i h => by rw [List.getElem_take]; exact c3 i (hg i h)) (fun i h => c4 i (hg i h)) (fun i h => by rw [List.getElem_take]; exact c5 i (hg i h)) (fun i h => by rw [List.getElem_take]; exact c6 i (hg i h)) (fun i h => c7 i (hg i h)) (fun i h => by rw [List.getElem_take]; exact c8 i (hg i h)) (fun i h => c9 i (hg i h)) (fun i h => c10 i (hg i h))
        (fun i h => by rw [List.getElem_take]; exact ri i (hg i h)) (fun i h => by rw [List.getElem_take]; exact rv i (hg i h)) (fun i h => by rw [List.getElem_take]; exact rb i (hg i h)) (fun i h => by rw [List.getElem_take]; exact re i (hg i h))
      rw [hl] at this
      exact this
theorem sts_drop {w : World} {lo hi b o n cap : Nat} {l : List St} (h : StsR w lo hi (.slice (some ⟨b, o, none⟩) n cap) l) (k : Nat) (hk : k ≤ l.length) : StsR w lo hi (.slice (some ⟨b, o + k * 11, none⟩) (l.length - k) (cap - k)) (l.drop k) := by
  cases h with
  | nil a cap => obtain rfl : k = 0 := by simpa using hk
                 exact .nil _ _
  | cons b o cap l SI SV SB SE h0 hlo hhi hcap hmax c0 c1 c2 c3 c4 c5 c6 c7 c8 c9 c10 ri rv rb re =>
    by_cases hk0 : k = l.length
    · subst hk0; rw [Nat.sub_self, List.drop_length]; exact .nil _ _
    · have hl : (l.drop k).length = l.length - k := by simp
      have hg : ∀ i (h : i < (l.drop k).length), k + i < l.length := fun i h => by omega
      have e : ∀ i t, o + k * 11 + i * 11 + t = o + (k + i) * 11 + t := fun i t => by rw [Nat.add_mul]; omega
      have e0 : ∀ i, o + k * 11 + i * 11 = o + (k + i) * 11 := fun i => by rw [Nat.add_mul]; omega
      have := StsR.cons (w := w) (lo := lo) (hi := hi) b (o + k * 11) (cap - k) (l.drop k) (fun i => SI (k + i)) (fun i => SV (k + i)) (fun i => SB (k + i)) (fun i => SE (k + i)) (by omega) hlo hhi (by omega) (by omega) (fun i h => by rw [List.getElem_drop, e0]; exact c0 _ (hg i h)) (fun i h => by rw [List.getElem_drop, e]; exact c1 _ (hg i h)) (fun i h => by rw [List.getElem_drop, e]; exact c2 _ (hg i h)) (fun i h => by rw [List.getElem_drop, e]; exact c3 _ (hg i h)) (fun i h => by rw [e]; exact c4 _ (hg i h)) (fun i h => by rw [List.getElem_drop, e]; exact c5 _ (hg i h)) (fun i h => by rw [List.getElem_drop, e]; exact c6 _ (hg i h)) (fun i h => by rw [e]; exact c7 _ (hg i h)) (fun i h => by rw [List.getElem_drop, e]; exact c8 _ (hg i h)) (fun i h => by rw [e]; exact c9 _ (hg i h)) (fun i h => by rw [e]; exact c10 _ (hg i h))
        (fun i h => by rw [List.getElem_drop]; exact ri _ (hg i h)) (fun i h => by rw [List.getElem_drop]; exact rv _ (hg i h)) (fun i h => by rw [List.getElem_drop]; exact rb _ (hg i h)) (fun i h => by rw [List.getElem_drop]; exact re _ (hg i h))
      rw [hl] at this
      exact this
theorem sts_from {w : World} {lo hi n cap : Nat} {a : Option Addr} {l : List St} (h : StsR w lo hi (.slice a n cap) l) (k : Nat) (hk : k ≤ l.length) : StsR w lo hi (.slice (if cap = k then a else a.map (fun x => x.add (k * 11))) (n - k) (cap - k)) (l.drop k) := by
  obtain ⟨a', c', e, _⟩ := h.len
  cases e
  by_cases hl : k = l.length
  · subst hl; rw [Nat.sub_self, List.drop_length]; exact .nil _ _
  · have hc := sts_cap h
    rw [if_neg (by omega)]
    obtain ⟨b, o, _, _, _, _, e, _⟩ := h.elem 0 (by omega)
    cases e
    show StsR w lo hi (.slice (some ((⟨b, o, none⟩ : Addr).add (k * 11))) _ _) _
    rw [Go.WideShapes.add_plain]
    exact sts_drop h k hk
end Go.Proofs.Ytckikiaockkmbaa.LawT
