/- Expressions as text, in plain words. No conditions. -/
import Derived.Test.YtckikiaockkmbaaDoorYEvP
import Derived.Test.YtckikiaockkmbaaDoorYFmtP
namespace Go.Proofs.YtckikiaockkmbaaDoor.FmtX
open Go.RowKit Kit Val EvP FmtP
set_option linter.unusedVariables false
/-- the sign of an operator -/
def sn (k : Int) : UInt8 := if k = 4 then 43 else if k = 5 then 45 else if k = 6 then 42 else if k = 7 then 38 else if k = 8 then 94 else if k = 9 then 61 else 60
def t0 : List (List UInt8) → Nat → List UInt8 | [], _ => [] | x :: _, 0 => x | _ :: r, j + 1 => t0 r j
/-- a node's text, of its kids' texts -/
def opX (k v : Int) (ts : List (List UInt8)) : List UInt8 :=
  if k = 1 then dg v.toNat else if k = 2 then [UInt8.ofNat (97 + v.toNat)] else if k = 3 then [UInt8.ofNat (80 + v.toNat)] ++ [91] ++ t0 ts 0 ++ [93]
  else if k = 11 then [40] ++ t0 ts 0 ++ [63] ++ t0 ts 1 ++ [58] ++ t0 ts 2 ++ [41] else [40] ++ t0 ts 0 ++ [sn k] ++ t0 ts 1 ++ [41]
mutual
def tx : Ex → List UInt8
  | .node k v ks => opX k v (txs ks)
def txs : List Ex → List (List UInt8)
  | [] => []
  | e :: es => tx e :: txs es
end
theorem t0_get : ∀ (l : List Ex) (j : Nat) (h : j < l.length), t0 (txs l) j = tx l[j]
  | e :: es, 0, _ => rfl
  | e :: es, j + 1, h => by simpa [txs, t0] using t0_get es j (by simpa using h)
theorem len2 {α : Type} {l : List α} (h : l.length = 2) : ∃ x y, l = [x, y] := match l, h with | [x, y], _ => ⟨x, y, rfl⟩
theorem len3 {α : Type} {l : List α} (h : l.length = 3) : ∃ x y z, l = [x, y, z] := match l, h with | [x, y, z], _ => ⟨x, y, z, rfl⟩
theorem tx_len (nv na : Nat) : ∀ (n : Nat) (d : Nat) (e : Ex), e.size ≤ n → shp nv na e d = true → (tx e).length ≤ 8 * e.size := by
  intro n
  induction n with
  | zero => intro d e h; have := Ex.size_pos e; omega
  | succ n ih =>
    intro d e hn hs
    obtain ⟨k, v, ks⟩ := e
    have hsz : Ex.size (.node k v ks) = Ex.sizes ks + 1 := rfl
    have kid : ∀ j (h : j < ks.length), (t0 (txs ks) j).length ≤ 8 * (ks[j]).size := fun j h => by
      rw [t0_get ks j h]
      exact ih (d - 1) _ (by have := Ex.sizes_get ks j h; omega) (kids hs j h)
    have ht : tx (.node k v ks) = opX k v (txs ks) := rfl
    rw [ht, hsz]
    rcases kinds hs with ⟨rfl, e1, e2, e3⟩ | ⟨rfl, e1, e2, e3⟩ | ⟨rfl, e1, e2, e3⟩ | ⟨e1, e1', e2, rfl⟩ | ⟨rfl, e1, rfl⟩
    · have := dg_len (n := v.toNat) (by omega)
      rw [opX, if_pos rfl]; omega
    · rw [opX, if_neg (by decide), if_pos rfl]; simp; omega
    · rw [opX, if_neg (by decide), if_neg (by decide), if_pos rfl]
      have h0 := kid 0 (by omega)
      have h1 := Ex.sizes_get ks 0 (by omega)
      simp only [List.length_append, List.length_cons, List.length_nil]; omega
    · rw [opX, if_neg (by omega), if_neg (by omega), if_neg (by omega), if_neg (by omega)]
      obtain ⟨x, y, rfl⟩ := len2 e2
      · have h0 := kid 0 (by simp)
        have h1 := kid 1 (by simp)
        simp only [List.getElem_cons_zero, List.getElem_cons_succ] at h0 h1
        simp only [List.length_append, List.length_cons, List.length_nil, Ex.sizes]; omega
    · rw [opX, if_neg (by decide), if_neg (by decide), if_neg (by decide), if_pos rfl]
      obtain ⟨x, y, z, rfl⟩ := len3 e1
      · have h0 := kid 0 (by simp)
        have h1 := kid 1 (by simp)
        have h2 := kid 2 (by simp)
        simp only [List.getElem_cons_zero, List.getElem_cons_succ] at h0 h1 h2
        simp only [List.length_append, List.length_cons, List.length_nil, Ex.sizes]; omega
/-- what FormatExpr answers -/
def textX (xa xb : List Int) (e : Ex) : ByteArray := ⟨(if exprB xa xb e = true then tx e else []).toArray⟩
theorem New.at {w w' : World} (k : New w w') {b o : Nat} {v : Value} (h : w.cell? ⟨b, o, none⟩ = some v) : w'.cell? ⟨b, o, none⟩ = some v := (k.cell (cell_lt h) (fun f => f) o).trans h
end Go.Proofs.YtckikiaockkmbaaDoor.FmtX
