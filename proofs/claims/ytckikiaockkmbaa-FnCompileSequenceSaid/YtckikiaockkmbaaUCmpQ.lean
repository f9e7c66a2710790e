/- The code of one statement, as it is put together. No program in sight; no conditions. -/
import Derived.Test.YtckikiaockkmbaaUCmpP
namespace Go.Proofs.Ytckikiaockkmbaa.CmpP
open Go.RowKit Kit Val
set_option linter.unusedVariables false
theorem csts_step {l : List St} {j : Nat} (h : j < l.length) (L : List Ins) (d : Int) : L ++ csts (l.take (j + 1)) L.length d = (L ++ csts (l.take j) L.length d) ++ cst l[j] (L ++ csts (l.take j) L.length d).length d := by
  rw [csts_take h, List.length_append, List.append_assoc]
theorem cst_1 {k : Int} (hk : k = 1) (M : List Ins) (t : Int) (i v : Ex) (c : Int) (b e : List St) (d : Int) : M ++ cst (.node k t i v c b e) M.length d = M ++ cex v 0 ++ [⟨3, t, 0, 0, 0⟩] := by
  rw [cst, if_pos hk, List.append_assoc]
theorem cst_5 {k : Int} (hk : k = 5) (M : List Ins) (t : Int) (i v : Ex) (c : Int) (b e : List St) (d : Int) : M ++ cst (.node k t i v c b e) M.length d = M ++ cex v 0 ++ [⟨11, 0, 0, 0, 0⟩] ++ [⟨3, t, 0, 0, 0⟩] := by
  rw [cst, if_neg (by omega), if_pos hk]; simp
theorem cst_2 {k : Int} (hk : k = 2) (M : List Ins) (t : Int) (i v : Ex) (c : Int) (b e : List St) (d : Int) : M ++ cst (.node k t i v c b e) M.length d = M ++ cex v 0 ++ cex i 1 ++ [⟨5, t, 1, 0, 0⟩] := by
  rw [cst, if_neg (by omega), if_neg (by omega), if_pos hk]; simp
theorem cst_4 {k : Int} (hk : k = 4) (M : List Ins) (t : Int) (i v : Ex) (c : Int) (b e : List St) (d : Int) : M ++ cst (.node k t i v c b e) M.length d =
    (M ++ [⟨1, 9 + d, c, 0, 0⟩]) ++ csts b (M ++ [(⟨1, 9 + d, c, 0, 0⟩ : Ins)]).length (d + 1) ++ [⟨10, 9 + d, ((M ++ [(⟨1, 9 + d, c, 0, 0⟩ : Ins)]).length : Int), 0, 0⟩] := by
  rw [cst, if_neg (by omega), if_neg (by omega), if_neg (by omega), if_neg (by omega)]; simp
theorem set_mid {α : Type} (A B : List α) (x y : α) (n : Nat) (h : n = A.length) : (A ++ x :: B).set n y = A ++ y :: B := by
  subst h; simp
theorem cst_3 {k : Int} (hk : k = 3) (M : List Ins) (t : Int) (i v : Ex) (c : Int) (b e : List St) (d : Int) (M1 M2 M3 M4 M5 M6 : List Ins) (h1 : M1 = M ++ cex v 0) (h2 : M2 = M1 ++ [⟨9, 0, 0, 0, 0⟩]) (h3 : M3 = M2 ++ csts b M2.length (d + 1)) (h4 : M4 = M3 ++ [⟨8, 0, 0, 0, 0⟩])
    (h5 : M5 = M4.set M1.length ⟨9, 0, (M4.length : Int), 0, 0⟩) (h6 : M6 = M5 ++ csts e M5.length (d + 1)) : M ++ cst (.node k t i v c b e) M.length d = M6.set M3.length ⟨8, (M6.length : Int), 0, 0, 0⟩ := by
  have l1 : M1.length = M.length + (cex v 0).length := by rw [h1, List.length_append]
  have l2 : M2.length = M.length + (cex v 0).length + 1 := by rw [h2, List.length_append, l1]; rfl
  have l3 : M3.length = M.length + (cex v 0).length + 1 + (csts b (M.length + (cex v 0).length + 1) (d + 1)).length := by rw [h3, List.length_append, l2]
  have l4 : M4.length = M.length + (cex v 0).length + 1 + (csts b (M.length + (cex v 0).length + 1) (d + 1)).length + 1 := by rw [h4, List.length_append, l3]; rfl
  have l5 : M5.length = M4.length := by rw [h5, List.length_set]
  have l6 : M6.length = M.length + (cex v 0).length + 1 + (csts b (M.length + (cex v 0).length + 1) (d + 1)).length + 1 + (csts e (M.length + (cex v 0).length + 1 + (csts b (M.length + (cex v 0).length + 1) (d + 1)).length + 1) (d + 1)).length := by rw [h6, List.length_append, l5, l4]
  have e4 : M4 = M1 ++ (⟨9, 0, 0, 0, 0⟩ : Ins) :: (csts b (M.length + (cex v 0).length + 1) (d + 1) ++ [⟨8, 0, 0, 0, 0⟩]) := by rw [h4, h3, l2, h2]; simp
  have e5 : M5 = M1 ++ (⟨9, 0, (M4.length : Int), 0, 0⟩ : Ins) :: (csts b (M.length + (cex v 0).length + 1) (d + 1) ++ [⟨8, 0, 0, 0, 0⟩]) := by
    rw [h5]; conv => lhs; rw [e4]
    rw [set_mid _ _ _ _ _ rfl, ← e4]
  have e6 : M6 = (M1 ++ (⟨9, 0, (M4.length : Int), 0, 0⟩ : Ins) :: csts b (M.length + (cex v 0).length + 1) (d + 1)) ++ (⟨8, 0, 0, 0, 0⟩ : Ins) :: csts e M4.length (d + 1) := by rw [h6, l5, e5]; simp
  have e7 : M6.set M3.length ⟨8, (M6.length : Int), 0, 0, 0⟩ = (M1 ++ (⟨9, 0, (M4.length : Int), 0, 0⟩ : Ins) :: csts b (M.length + (cex v 0).length + 1) (d + 1)) ++ (⟨8, (M6.length : Int), 0, 0, 0⟩ : Ins) :: csts e M4.length (d + 1) := by
    conv => lhs; rw [e6]
    rw [set_mid _ _ _ _ _ (by rw [l3, List.length_append, l1, List.length_cons]; omega), ← e6]
  rw [e7, cst, if_neg (by omega), if_neg (by omega), if_neg (by omega), if_pos hk, h1, l6, l4]
  simp
end Go.Proofs.Ytckikiaockkmbaa.CmpP
