/- Plain facts on parts of memories, for the laws. No conditions. -/
import Derived.Test.YtckikiaockkmbaaUPartM
namespace Go.Proofs.Ytckikiaockkmbaa.LawU
open Go.RowKit Kit Val MarkC PartP PartM
theorem got_yes {q : Int → Bool} {xa xb ya : List Int} {l : List St} {yb : List (List Int)} {w w' : World} {e : Ending} (h : GotP q xa xb ya l yb w e w') (ht : (progB xa xb l && fitB xa.length xb.length ya yb) = true) :
    ∃ ua ub, e = .returned (.tuple #[.agg #[ua, ub], .bool true]) ∧ New w w' ∧ MemO w' w.heap.size w'.heap.size ua ub (clr q xa ya) (clrM q xb yb) := by
  obtain ⟨ua, ub, he, hn, hM⟩ := h
  rw [ht] at he hM
  exact ⟨ua, ub, he, hn, hM⟩
theorem got_no {q : Int → Bool} {xa xb ya : List Int} {l : List St} {yb : List (List Int)} {w w' : World} {e : Ending} (h : GotP q xa xb ya l yb w e w') (ht : (progB xa xb l && fitB xa.length xb.length ya yb) = false) :
    ∃ ua ub, e = .returned (.tuple #[.agg #[ua, ub], .bool false]) ∧ New w w' ∧ MemO w' w.heap.size w'.heap.size ua ub [] [] := by
  obtain ⟨ua, ub, he, hn, hM⟩ := h
  rw [ht] at he hM
  exact ⟨ua, ub, he, hn, hM⟩
theorem fit_of {xa xb ya : List Int} {l : List St} {yb : List (List Int)} (ht : (progB xa xb l && fitB xa.length xb.length ya yb) = true) : ya.length = xa.length ∧ yb.length = xb.length := by
  rw [Bool.and_eq_true] at ht
  exact ⟨(EvPfit ht.2).vl, (EvPfit ht.2).al⟩
theorem again {xa xb ya : List Int} {l : List St} {yb : List (List Int)} (q : Int → Bool) (ht : (progB xa xb l && fitB xa.length xb.length ya yb) = true) : (progB xa xb l && fitB xa.length xb.length (clr q xa ya) (clrM q xb yb)) = true := by
  rw [Bool.and_eq_true] at ht ⊢
  exact ⟨ht.1, fit_clr q rfl rfl ht.2⟩
theorem getEq {q : Int → Bool} {xa ya cs : List Int} (h : clr q xa ya = cs) (i : Nat) (h1 : i < xa.length) (h2 : i < ya.length) (h3 : i < cs.length) : cs[i] = if q xa[i] = true then 0 else ya[i] := by
  subst h; exact clr_get i h1 h2 h3
end Go.Proofs.Ytckikiaockkmbaa.LawU
