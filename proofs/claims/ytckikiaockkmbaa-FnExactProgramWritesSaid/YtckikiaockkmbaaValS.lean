/- What valid statements are, in plain words. No program in sight; no conditions. -/
import Derived.Test.YtckikiaockkmbaaVal
namespace Go.Proofs.Ytckikiaockkmbaa.Val
open Go.RowKit Kit
set_option linter.unusedVariables false
def noneB (e : Ex) : Bool := e.kind == 0 && e.val == 0 && decide (e.kids.length = 0)
/-- the fields that a statement's kind does not have are zero values -/
def partsB (s : St) : Bool :=
  if s.kind = 4 then decide (s.target = 0) && decide (s.els.length = 0) && decide (1 ≤ s.count) && decide (s.count ≤ 3) && noneB s.index && noneB s.value
  else if s.kind = 3 then decide (s.target = 0) && decide (s.count = 0) && noneB s.index
  else decide (s.body.length = 0) && decide (s.els.length = 0) && decide (s.count = 0) && (s.kind == 2 || noneB s.index)
mutual
def stB (nv na : Nat) : St → Nat → Bool
  | .node k t i v c b e, d => decide (1 ≤ d) && partsB (.node k t i v c b e) &&
      (if k = 1 ∨ k = 5 then decide (0 ≤ t) && decide (t < nv) && right nv na v
       else if k = 2 then decide (0 ≤ t) && decide (t < na) && right nv na i && atom i && right nv na v
       else if k = 3 then right nv na v && blB nv na b (d - 1) && blB nv na e (d - 1)
       else if k = 4 then blB nv na b (d - 1) else false)
def blB (nv na : Nat) : List St → Nat → Bool
  | [], _ => true
  | s :: l, d => stB nv na s d && blB nv na l d
end
mutual
/-- how many statements -/
def stN : St → Nat | .node _ _ _ _ _ b e => 1 + stsN b + stsN e
def stsN : List St → Nat | [] => 0 | s :: l => stN s + stsN l
end
mutual
/-- how many statements, down to a depth -/
def stZ : St → Nat → Nat | .node _ _ _ _ _ b e, d => 1 + (if 1 < d then stsZ b (d - 1) + stsZ e (d - 1) else 0)
def stsZ : List St → Nat → Nat | [], _ => 0 | s :: l, d => stZ s d + stsZ l d
end
theorem stN_eq (s : St) : stN s = 1 + stsN s.body + stsN s.els := by cases s; rfl
theorem stZ_eq (s : St) (d : Nat) : stZ s d = 1 + (if 1 < d then stsZ s.body (d - 1) + stsZ s.els (d - 1) else 0) := by cases s; rfl
theorem blB_append (nv na : Nat) : ∀ (l m : List St) (d : Nat), blB nv na (l ++ m) d = (blB nv na l d && blB nv na m d)
  | [], m, d => by simp [blB]
  | e :: es, m, d => by simp [blB, blB_append nv na es m d, Bool.and_assoc]
theorem blB_take (nv na : Nat) {l : List St} {j : Nat} (d : Nat) (h : j < l.length) : blB nv na (l.take (j + 1)) d = (blB nv na (l.take j) d && stB nv na l[j] d) := by
  rw [List.take_succ_eq_append_getElem h, blB_append]; simp [blB]
theorem blB_bad (nv na : Nat) : ∀ (l : List St) (d j : Nat) (h : j < l.length), stB nv na l[j] d = false → blB nv na l d = false
  | e :: es, d, 0, _, hb => by simp only [List.getElem_cons_zero] at hb; simp [blB, hb]
  | e :: es, d, j + 1, h, hb => by simp only [List.getElem_cons_succ] at hb; simp [blB, blB_bad nv na es d j (by simpa using h) hb]
theorem blB_get (nv na d : Nat) {l : List St} (h : blB nv na l d = true) (j : Nat) (hj : j < l.length) : stB nv na l[j] d = true := by
  cases hb : stB nv na l[j] d
  · rw [blB_bad nv na l d j hj hb] at h; cases h
  · rfl
theorem stsN_append : ∀ (l m : List St), stsN (l ++ m) = stsN l + stsN m
  | [], m => by simp [stsN]
  | e :: es, m => by simp [stsN, stsN_append es m]; omega
theorem stsN_take {l : List St} {j : Nat} (h : j < l.length) : stsN (l.take (j + 1)) = stsN (l.take j) + stN l[j] := by
  rw [List.take_succ_eq_append_getElem h, stsN_append]; simp [stsN]
theorem stsN_take_le (l : List St) (j : Nat) : stsN (l.take j) ≤ stsN l := by
  have := stsN_append (l.take j) (l.drop j); rw [List.take_append_drop] at this; omega
theorem stsZ_append : ∀ (l m : List St) (d : Nat), stsZ (l ++ m) d = stsZ l d + stsZ m d
  | [], m, d => by simp [stsZ]
  | e :: es, m, d => by simp [stsZ, stsZ_append es m d]; omega
theorem stsZ_take {l : List St} {j : Nat} (d : Nat) (h : j < l.length) : stsZ (l.take (j + 1)) d = stsZ (l.take j) d + stZ l[j] d := by
  rw [List.take_succ_eq_append_getElem h, stsZ_append]; simp [stsZ]
theorem stsZ_take_le (l : List St) (j d : Nat) : stsZ (l.take j) d ≤ stsZ l d := by
  have := stsZ_append (l.take j) (l.drop j) d; rw [List.take_append_drop] at this; omega
mutual
theorem stZ_le : ∀ (s : St) (d : Nat), stZ s d ≤ s.size
  | .node k t i v c b e, d => by
    have := stsZ_le b (d - 1); have := stsZ_le e (d - 1)
    rw [stZ, St.size]; split <;> omega
theorem stsZ_le : ∀ (l : List St) (d : Nat), stsZ l d ≤ St.sizes l
  | [], _ => by simp [stsZ]
  | s :: l, d => by have := stZ_le s d; have := stsZ_le l d; simp [stsZ, St.sizes]; omega
end
theorem blB_zero (nv na : Nat) : ∀ (l : List St), blB nv na l 0 = true → l = []
  | [], _ => rfl
  | s :: l, h => by cases s; simp [blB, stB] at h
theorem partsB_leaf {s : St} (h : partsB s = true) (h3 : s.kind ≠ 3) (h4 : s.kind ≠ 4) : s.body = [] ∧ s.els = [] := by
  unfold partsB at h
  rw [if_neg h4, if_neg h3] at h
  simp only [Bool.and_eq_true, decide_eq_true_eq] at h
  exact ⟨List.eq_nil_of_length_eq_zero h.1.1.1, List.eq_nil_of_length_eq_zero h.1.1.2⟩
mutual
theorem stZ_N (nv na : Nat) : ∀ (s : St) (d : Nat), stB nv na s d = true → stZ s d = stN s
  | .node k t i v c b e, d, h => by
    simp only [stB, Bool.and_eq_true, decide_eq_true_eq] at h
    obtain ⟨⟨hd, hp⟩, hk⟩ := h
    by_cases h3 : k = 3
    · subst h3
      simp only [Int.reduceEq, or_self, if_false, if_true, Bool.and_eq_true] at hk
      rw [stZ, stN]
      by_cases h1 : 1 < d
      · rw [if_pos h1, stsZ_N nv na b (d - 1) hk.1.2, stsZ_N nv na e (d - 1) hk.2]; omega
      · have e0 : d - 1 = 0 := by omega
        rw [e0] at hk
        rw [if_neg h1, blB_zero nv na b hk.1.2, blB_zero nv na e hk.2]; rfl
    · by_cases h4 : k = 4
      · subst h4
        simp only [Int.reduceEq, or_self, if_false, if_true] at hk
        have he : e = [] := by
          unfold partsB at hp
          rw [if_pos (show (St.node 4 t i v c b e).kind = 4 from rfl)] at hp
          simp only [Bool.and_eq_true, decide_eq_true_eq] at hp
          exact List.eq_nil_of_length_eq_zero hp.1.1.1.1.2
        subst he
        rw [stZ, stN]
        by_cases h1 : 1 < d
        · rw [if_pos h1, stsZ_N nv na b (d - 1) hk]; simp [stsZ, stsN]
        · have e0 : d - 1 = 0 := by omega
          rw [e0] at hk
          rw [if_neg h1, blB_zero nv na b hk]; rfl
      · obtain ⟨hb, he⟩ := partsB_leaf hp h3 h4
        have hb' : b = [] := hb
        have he' : e = [] := he
        subst hb'; subst he'
        rw [stZ, stN]; simp [stsZ, stsN]
theorem stsZ_N (nv na : Nat) : ∀ (l : List St) (d : Nat), blB nv na l d = true → stsZ l d = stsN l
  | [], _, _ => by simp [stsZ, stsN]
  | s :: l, d, h => by
    simp only [blB, Bool.and_eq_true] at h
    rw [stsZ, stsN, stZ_N nv na s d h.1, stsZ_N nv na l d h.2]
end
theorem in_lo (t : Int) (n : Nat) : Lab.inside t 0 ((n : Int) - 1) = (decide (0 ≤ t) && decide (t < (n : Int))) := by rw [Bool.eq_iff_iff]; simp [Lab.inside]; omega
theorem in_00 (t : Int) : Lab.inside t 0 0 = decide (t = 0) := by rw [Bool.eq_iff_iff]; simp [Lab.inside]; omega
theorem in_13 (c : Int) : Lab.inside c 1 3 = (decide (1 ≤ c) && decide (c ≤ 3)) := by rw [Bool.eq_iff_iff]; simp [Lab.inside]
theorem stB_assign (nv na : Nat) {k t : Int} {i v : Ex} {c : Int} {b e : List St} {d : Nat} (hk : k = 1 ∨ k = 5) :
    stB nv na (.node k t i v c b e) d = (decide (1 ≤ d) && (Lab.inside t 0 ((nv : Int) - 1) && (decide (c = 0) && (decide (b.length = 0) && (decide (e.length = 0) && (noneB i && right nv na v)))))) := by
  have hp : partsB (.node k t i v c b e) = (decide (b.length = 0) && decide (e.length = 0) && decide (c = 0) && noneB i) := by
    unfold partsB
    rw [if_neg (show ¬ (St.node k t i v c b e).kind = 4 by show ¬ k = 4; omega), if_neg (show ¬ (St.node k t i v c b e).kind = 3 by show ¬ k = 3; omega)]
    have h2 : (k == 2) = false := by rw [beq_eq_false_iff_ne]; omega
    simp only [St.kind, St.body, St.els, St.count, St.index, h2, Bool.false_or]
    rfl
  rw [stB, hp, if_pos hk, in_lo]
  cases decide (1 ≤ d) <;> cases decide (b.length = 0) <;> cases decide (e.length = 0) <;> cases decide (c = 0) <;> cases noneB i <;> cases decide (0 ≤ t) <;> cases decide (t < (nv : Int)) <;> rfl
theorem stB_store (nv na : Nat) {k t : Int} {i v : Ex} {c : Int} {b e : List St} {d : Nat} (hk : k = 2) :
    stB nv na (.node k t i v c b e) d = (decide (1 ≤ d) && (Lab.inside t 0 ((na : Int) - 1) && (decide (c = 0) && (decide (b.length = 0) && (decide (e.length = 0) && (right nv na i && (atom i && right nv na v))))))) := by
  subst hk
  have hp : partsB (.node 2 t i v c b e) = (decide (b.length = 0) && decide (e.length = 0) && decide (c = 0)) := by
    unfold partsB
    rw [if_neg (show ¬ (St.node 2 t i v c b e).kind = 4 by show ¬ (2 : Int) = 4; decide), if_neg (show ¬ (St.node 2 t i v c b e).kind = 3 by show ¬ (2 : Int) = 3; decide)]
    have h2 : ((2 : Int) == 2) = true := rfl
    simp only [St.kind, St.body, St.els, St.count, h2, Bool.true_or, Bool.and_true]
    rfl
  rw [stB, hp, if_neg (by decide), if_pos rfl, in_lo]
  cases decide (1 ≤ d) <;> cases decide (b.length = 0) <;> cases decide (e.length = 0) <;> cases decide (c = 0) <;> cases right nv na i <;> cases atom i <;> cases decide (0 ≤ t) <;> cases decide (t < (na : Int)) <;> rfl
theorem stB_if (nv na : Nat) {k t : Int} {i v : Ex} {c : Int} {b e : List St} {d : Nat} (hk : k = 3) :
    stB nv na (.node k t i v c b e) d = (decide (1 ≤ d) && (Lab.inside t 0 0 && (decide (c = 0) && (noneB i && (right nv na v && (blB nv na b (d - 1) && blB nv na e (d - 1))))))) := by
  subst hk
  have hp : partsB (.node 3 t i v c b e) = (decide (t = 0) && decide (c = 0) && noneB i) := by
    unfold partsB
    rw [if_neg (show ¬ (St.node 3 t i v c b e).kind = 4 by show ¬ (3 : Int) = 4; decide), if_pos (show (St.node 3 t i v c b e).kind = 3 from rfl)]
    simp only [St.target, St.count, St.index]
    rfl
  rw [stB, hp, if_neg (by decide), if_neg (by decide), if_pos rfl, in_00]
  cases decide (1 ≤ d) <;> cases decide (t = 0) <;> cases decide (c = 0) <;> cases noneB i <;> cases right nv na v <;> cases blB nv na b (d - 1) <;> rfl
theorem stB_repeat (nv na : Nat) {k t : Int} {i v : Ex} {c : Int} {b e : List St} {d : Nat} (hk : k = 4) :
    stB nv na (.node k t i v c b e) d = (decide (1 ≤ d) && (Lab.inside t 0 0 && (Lab.inside c 1 3 && (decide (e.length = 0) && (noneB i && (noneB v && blB nv na b (d - 1))))))) := by
  subst hk
  have hp : partsB (.node 4 t i v c b e) = (decide (t = 0) && decide (e.length = 0) && decide (1 ≤ c) && decide (c ≤ 3) && noneB i && noneB v) := by
    unfold partsB
    rw [if_pos (show (St.node 4 t i v c b e).kind = 4 from rfl)]
    simp only [St.target, St.count, St.index, St.els, St.value]
    rfl
  rw [stB, hp, if_neg (by decide), if_neg (by decide), if_neg (by decide), if_pos rfl, in_00, in_13]
  cases decide (1 ≤ d) <;> cases decide (t = 0) <;> cases decide (e.length = 0) <;> cases decide (1 ≤ c) <;> cases decide (c ≤ 3) <;> cases noneB i <;> cases noneB v <;> rfl
theorem stB_other (nv na : Nat) {k t : Int} {i v : Ex} {c : Int} {b e : List St} {d : Nat} (h1 : ¬ k = 1) (h5 : ¬ k = 5) (h2 : ¬ k = 2) (h3 : ¬ k = 3) (h4 : ¬ k = 4) : stB nv na (.node k t i v c b e) d = false := by
  rw [stB, if_neg (by omega), if_neg h2, if_neg h3, if_neg h4]; simp
/-- what the program's stmt finds: from count c on -/
def stScan (nv na : Nat) (s : St) (d c : Nat) : Bool := stB nv na s d && decide (c + stN s ≤ 60)
def blScan (nv na : Nat) (l : List St) (d c : Nat) : Bool := blB nv na l d && decide (c + stsN l ≤ 60)
theorem blScan_bad (nv na d : Nat) {c m j : Nat} {l : List St} (h : j < l.length) (hp : stScan nv na l[j] d m = false) (hm : m = c + stsN (l.take j)) : blScan nv na l d c = false := by
  rcases Bool.and_eq_false_iff.1 hp with h1 | h1
  · rw [blScan, blB_bad nv na l d j h h1]; rfl
  · have h2 := of_decide_eq_false h1
    have h3 := stsN_take_le l (j + 1)
    rw [stsN_take h] at h3
    have h4 : decide (c + stsN l ≤ 60) = false := by rw [decide_eq_false_iff_not]; omega
    rw [blScan, h4]; simp
def progB (xa xb : List Int) (l : List St) : Bool := declB xa xb && blB xa.length xb.length l 5 && decide (stsZ l 5 ≤ 60)
theorem progB_scan (xa xb : List Int) (l : List St) : progB xa xb l = (declB xa xb && blScan xa.length xb.length l 5 0) := by
  unfold progB blScan
  cases h : blB xa.length xb.length l 5
  · simp
  · rw [stsZ_N _ _ _ _ h, Nat.zero_add]; simp
end Go.Proofs.Ytckikiaockkmbaa.Val
