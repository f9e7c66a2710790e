/- What the compiler makes of expressions and statements, in plain words. No program in sight; no conditions. -/
import Derived.Test.YtckikiaockkmbaaTEvP
import Derived.Test.YtckikiaockkmbaaTFlowP
namespace Go.Proofs.Ytckikiaockkmbaa.CmpP
open Go.RowKit Kit Val
set_option linter.unusedVariables false
/-- the instruction of an operator -/
def opI (k v r : Int) : Ins := if k = 3 then ⟨4, r, v, r, 0⟩ else if k = 11 then ⟨7, r, r, r + 1, r + 2⟩ else ⟨6, r, k, r, r + 1⟩
mutual
def cex : Ex → Int → List Ins
  | .node k v ks, r => if k = 1 then [⟨1, r, v, 0, 0⟩] else if k = 2 then [⟨2, r, v, 0, 0⟩] else cexs ks r ++ [opI k v r]
def cexs : List Ex → Int → List Ins
  | [], _ => []
  | e :: es, r => cex e r ++ cexs es (r + 1)
end
theorem cexs_append : ∀ (l m : List Ex) (r : Int), cexs (l ++ m) r = cexs l r ++ cexs m (r + l.length)
  | [], m, r => by simp [cexs]
  | e :: es, m, r => by simp only [List.cons_append, cexs, cexs_append es m, List.append_assoc, List.length_cons, Int.natCast_add]; rw [show r + 1 + (es.length : Int) = r + ((es.length : Int) + (1 : Nat)) by omega]
theorem cexs_take {l : List Ex} {j : Nat} (h : j < l.length) (r : Int) : cexs (l.take (j + 1)) r = cexs (l.take j) r ++ cex l[j] (r + j) := by
  rw [List.take_succ_eq_append_getElem h, cexs_append]
  simp only [cexs, List.append_nil, List.length_take, Nat.min_eq_left (Nat.le_of_lt h)]
mutual
theorem cex_len : ∀ (e : Ex) (r : Int), (cex e r).length ≤ e.size
  | .node k v ks, r => by
    have := cexs_len ks r
    simp only [cex, Ex.size]
    split
    · simp
    · split
      · simp
      · simp only [List.length_append, List.length_cons, List.length_nil]; omega
theorem cexs_len : ∀ (l : List Ex) (r : Int), (cexs l r).length ≤ Ex.sizes l
  | [], _ => by simp [cexs, Ex.sizes]
  | e :: es, r => by have := cex_len e r; have := cexs_len es (r + 1); simp only [cexs, List.length_append, Ex.sizes]; omega
end
mutual
theorem cex_pos : ∀ (e : Ex) (r : Int), 1 ≤ (cex e r).length
  | .node k v ks, r => by
    simp only [cex]
    split
    · simp
    · split
      · simp
      · simp
end
mutual
/-- the code of statements from address n on -/
def cst : St → Nat → Int → List Ins
  | .node k t i v c b e, n, d =>
    if k = 1 then cex v 0 ++ [⟨3, t, 0, 0, 0⟩]
    else if k = 5 then cex v 0 ++ [⟨11, 0, 0, 0, 0⟩, ⟨3, t, 0, 0, 0⟩]
    else if k = 2 then cex v 0 ++ cex i 1 ++ [⟨5, t, 1, 0, 0⟩]
    else if k = 3 then
      cex v 0 ++ ⟨9, 0, ((n + (cex v 0).length + 1 + (csts b (n + (cex v 0).length + 1) (d + 1)).length + 1 : Nat) : Int), 0, 0⟩ :: (csts b (n + (cex v 0).length + 1) (d + 1) ++
        ⟨8, ((n + (cex v 0).length + 1 + (csts b (n + (cex v 0).length + 1) (d + 1)).length + 1 + (csts e (n + (cex v 0).length + 1 + (csts b (n + (cex v 0).length + 1) (d + 1)).length + 1) (d + 1)).length : Nat) : Int), 0, 0, 0⟩ ::
        csts e (n + (cex v 0).length + 1 + (csts b (n + (cex v 0).length + 1) (d + 1)).length + 1) (d + 1))
    else ⟨1, 9 + d, c, 0, 0⟩ :: (csts b (n + 1) (d + 1) ++ [⟨10, 9 + d, ((n + 1 : Nat) : Int), 0, 0⟩])
def csts : List St → Nat → Int → List Ins
  | [], _, _ => []
  | s :: l, n, d => cst s n d ++ csts l (n + (cst s n d).length) d
end
mutual
/-- how long the code is does not hang on where it lies -/
theorem cst_addr : ∀ (s : St) (n m : Nat) (d : Int), (cst s n d).length = (cst s m d).length
  | .node k t i v c b e, n, m, d => by
    simp only [cst]
    split
    · rfl
    · split
      · rfl
      · split
        · rfl
        · split
          · simp only [List.length_append, List.length_cons]
            rw [csts_addr b (n + (cex v 0).length + 1) (m + (cex v 0).length + 1), csts_addr e (n + (cex v 0).length + 1 + (csts b (m + (cex v 0).length + 1) (d + 1)).length + 1) (m + (cex v 0).length + 1 + (csts b (m + (cex v 0).length + 1) (d + 1)).length + 1)]
          · simp only [List.length_append, List.length_cons]
            rw [csts_addr b (n + 1) (m + 1)]
theorem csts_addr : ∀ (l : List St) (n m : Nat) (d : Int), (csts l n d).length = (csts l m d).length
  | [], _, _, _ => rfl
  | s :: l, n, m, d => by
    simp only [csts, List.length_append]
    rw [cst_addr s n m, csts_addr l (n + (cst s m d).length) (m + (cst s m d).length)]
end
mutual
theorem cst_le : ∀ (s : St) (n : Nat) (d : Int), (cst s n d).length ≤ 4 * s.size
  | .node k t i v c b e, n, d => by
    have hv := cex_len v 0
    have hi := cex_len i 1
    have hv2 := Ex.size_kids v
    have hi2 := Ex.size_kids i
    simp only [cst, St.size]
    split
    · simp only [List.length_append, List.length_cons, List.length_nil]; omega
    · split
      · simp only [List.length_append, List.length_cons, List.length_nil]; omega
      · split
        · simp only [List.length_append, List.length_cons, List.length_nil]; omega
        · split
          · have h1 := csts_le b (n + (cex v 0).length + 1) (d + 1)
            have h2 := csts_le e (n + (cex v 0).length + 1 + (csts b (n + (cex v 0).length + 1) (d + 1)).length + 1) (d + 1)
            simp only [List.length_append, List.length_cons]; omega
          · have h1 := csts_le b (n + 1) (d + 1)
            simp only [List.length_append, List.length_cons, List.length_nil]; omega
theorem csts_le : ∀ (l : List St) (n : Nat) (d : Int), (csts l n d).length ≤ 4 * St.sizes l
  | [], _, _ => by simp [csts, St.sizes]
  | s :: l, n, d => by
    have h1 := cst_le s n d
    have h2 := csts_le l (n + (cst s n d).length) d
    simp only [csts, List.length_append, St.sizes]; omega
end
/-- the code of a program, where it is made -/
def halt : Ins := ⟨13, 0, 0, 0, 0⟩
def fine (xa xb : List Int) (l : List St) : Bool := progB xa xb l && decide ((csts l 0 0).length + 1 ≤ 400)
end Go.Proofs.Ytckikiaockkmbaa.CmpP
