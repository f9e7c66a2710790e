/- Plain facts on what programs write, for the law of writes. No program in sight; no conditions. -/
import Derived.Test.YtckikiaockkmbaaWrI
import Derived.Test.YtckikiaockkmbaaLawT
namespace Go.Proofs.Ytckikiaockkmbaa.LawW
open Go.RowKit Kit Val WrC
set_option linter.unusedVariables false
def orP (a b : List Bool × List Bool) : List Bool × List Bool := (List.zipWith or a.1 b.1, List.zipWith or a.2 b.2)
theorem zip_set (x y : List Bool) (i : Nat) : (List.zipWith or x y).set i true = List.zipWith or (x.set i true) y := by
  apply List.ext_getElem
  · simp
  · intro j h1 h2
    by_cases e : i = j
    · subst e; simp
    · simp [List.getElem_set_ne e]
theorem wrG_or (s : St) (a b : List Bool × List Bool) : wrG s (orP a b) = orP (wrG s a) b := by
  unfold wrG
  split
  · show (_, _) = (_, _)
    simp only [orP, zip_set]
  · split
    · show (_, _) = (_, _)
      simp only [orP, zip_set]
    · rfl
mutual
theorem foldS_or : ∀ (s : St) (a b : List Bool × List Bool), foldS wrG s (orP a b) = orP (foldS wrG s a) b
  | .node k t i v c bd e, a, b => by rw [foldS, foldS, wrG_or, foldL_or bd, foldL_or e]
theorem foldL_or : ∀ (l : List St) (a b : List Bool × List Bool), foldL wrG l (orP a b) = orP (foldL wrG l a) b
  | [], _, _ => rfl
  | s :: l, a, b => by rw [foldL, foldL, foldS_or s, foldL_or l]
end
theorem zip_false (x : List Bool) : List.zipWith or (List.replicate x.length false) x = x := by
  apply List.ext_getElem
  · simp
  · intro j h1 h2; simp
theorem orP_zero {n1 n2 : Nat} (b : List Bool × List Bool) (h1 : b.1.length = n1) (h2 : b.2.length = n2) : orP (List.replicate n1 false, List.replicate n2 false) b = b := by
  subst h1; subst h2
  simp only [orP, zip_false]
theorem wrB_split {xa xb : List Int} {l : List St} (k : Nat) (h : progB xa xb l = true) : wrB xa xb l = orP (wrB xa xb (l.drop k)) (wrB xa xb (l.take k)) := by
  obtain ⟨h1, h2⟩ := LawT.progB_split k h
  have hl := WrI.wrB_len h1
  have e : wrB xa xb l = foldL wrG (l.drop k) (wrB xa xb (l.take k)) := by
    rw [wrB, h, wrB, h1]
    simp only [if_true]
    rw [← foldL_append, List.take_append_drop]
  rw [e, ← orP_zero (wrB xa xb (l.take k)) hl.1 hl.2, foldL_or, orP_zero _ hl.1 hl.2]
  congr 1
  rw [wrB, h2]; rfl
theorem wrB_get1 {xa xb : List Int} {l : List St} (k : Nat) (h : progB xa xb l = true) (i : Nat) (h0 : i < (wrB xa xb l).1.length) (h1 : i < (wrB xa xb (l.take k)).1.length) (h2 : i < (wrB xa xb (l.drop k)).1.length) : (wrB xa xb l).1[i] = ((wrB xa xb (l.take k)).1[i] || (wrB xa xb (l.drop k)).1[i]) := by
  have e := wrB_split k h
  have e1 : (wrB xa xb l).1 = List.zipWith or (wrB xa xb (l.drop k)).1 (wrB xa xb (l.take k)).1 := by rw [e]; rfl
  simp only [e1, List.getElem_zipWith]
  rw [Bool.or_comm]
theorem wrB_get2 {xa xb : List Int} {l : List St} (k : Nat) (h : progB xa xb l = true) (i : Nat) (h0 : i < (wrB xa xb l).2.length) (h1 : i < (wrB xa xb (l.take k)).2.length) (h2 : i < (wrB xa xb (l.drop k)).2.length) : (wrB xa xb l).2[i] = ((wrB xa xb (l.take k)).2[i] || (wrB xa xb (l.drop k)).2[i]) := by
  have e := wrB_split k h
  have e1 : (wrB xa xb l).2 = List.zipWith or (wrB xa xb (l.drop k)).2 (wrB xa xb (l.take k)).2 := by rw [e]; rfl
  simp only [e1, List.getElem_zipWith]
  rw [Bool.or_comm]
end Go.Proofs.Ytckikiaockkmbaa.LawW
