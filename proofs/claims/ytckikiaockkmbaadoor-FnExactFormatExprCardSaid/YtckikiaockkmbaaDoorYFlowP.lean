/- What CheckFlow finds, in plain words; both checks of a statement agree on valid programs. No program in sight; no conditions. -/
import Derived.Test.YtckikiaockkmbaaDoorYEachP
import Derived.Test.YtckikiaockkmbaaDoorYLabE
namespace Go.Proofs.YtckikiaockkmbaaDoor.Val
open Go.RowKit Kit
set_option linter.unusedVariables false
def orI (a b : Int) : Int := bits .or .i64 a b
theorem orI_ok {a b : Int} (ha : Lab.okL a = true) (hb : Lab.okL b = true) : Lab.okL (orI a b) = true := by
  obtain rfl | rfl | rfl | rfl := Lab.okL_cases ha <;> obtain rfl | rfl | rfl | rfl := Lab.okL_cases hb <;> rfl
theorem orI_swap {a b c : Int} (ha : Lab.okL a = true) (hb : Lab.okL b = true) (hc : Lab.okL c = true) : orI (orI a c) b = orI (orI a b) c := by
  obtain rfl | rfl | rfl | rfl := Lab.okL_cases ha <;> obtain rfl | rfl | rfl | rfl := Lab.okL_cases hb <;> obtain rfl | rfl | rfl | rfl := Lab.okL_cases hc <;> rfl
theorem good_get {xs : List Int} (h : good xs = true) (i : Nat) : Lab.okL (xs.getD i 0) = true := by
  rw [List.getD_eq_getElem?_getD]
  by_cases hi : i < xs.length
  · rw [List.getElem?_eq_getElem hi]; exact List.all_eq_true.1 h _ (List.getElem_mem hi)
  · rw [List.getElem?_eq_none (by omega)]; rfl
theorem lab0_ok {xa xb : List Int} (ha : good xa = true) (hb : good xb = true) (k v : Int) : Lab.okL (lab0 xa xb k v) = true := by
  unfold lab0; split
  · exact good_get ha _
  · split
    · exact good_get hb _
    · rfl
mutual
theorem lab_ok {xa xb : List Int} (ha : good xa = true) (hb : good xb = true) : ∀ e : Ex, Lab.okL (lab xa xb e) = true
  | .node k v ks => by rw [lab]; exact labs_ok ha hb ks _ (lab0_ok ha hb k v)
theorem labs_ok {xa xb : List Int} (ha : good xa = true) (hb : good xb = true) : ∀ (l : List Ex) (a : Int), Lab.okL a = true → Lab.okL (labs xa xb a l) = true
  | [], a, h => by rw [labs]; exact h
  | e :: es, a, h => by rw [labs]; exact labs_ok ha hb es _ (orI_ok h (lab_ok ha hb e))
end
/-- what a statement stores, as the program has it -/
def storedI (xa xb : List Int) (s : St) (x : Int) : Int := if s.kind = 2 then orI (orI (lab xa xb s.value) x) (lab xa xb s.index) else orI (lab xa xb s.value) x
def ownI (xa xb : List Int) (s : St) (x : Int) : Int :=
  if s.kind = 1 then (if Lab.flowsB (storedI xa xb s x) (xa.getD s.target.toNat 0) then 0 else 1)
  else if s.kind = 2 then (if Lab.flowsB (storedI xa xb s x) (xb.getD s.target.toNat 0) then 0 else 1)
  else if s.kind = 5 then (if Lab.trustedB (lab xa xb s.value) && x == 0 then 0 else 2) else 0
def ownS (xa xb : List Int) (s : St) (x : Int) : Int :=
  if s.kind = 1 then (if Lab.leL (orI (lab xa xb s.value) x) (xa.getD s.target.toNat 0) then 0 else 1)
  else if s.kind = 2 then (if Lab.leL (orI (orI (lab xa xb s.value) (lab xa xb s.index)) x) (xb.getD s.target.toNat 0) then 0 else 1)
  else if s.kind = 5 then (if Lab.trustedB (lab xa xb s.value) && x == 0 then 0 else 2) else 0
theorem leL_ok {a b : Int} (ha : Lab.okL a = true) (hb : Lab.okL b = true) : Lab.leL a b = Lab.flowsB a b := by rw [Lab.leL, ha, hb]; rfl
theorem own_eq {xa xb : List Int} (ha : good xa = true) (hb : good xb = true) (s : St) {x : Int} (hx : Lab.okL x = true) : ownI xa xb s x = ownS xa xb s x := by
  have hv := lab_ok ha hb s.value
  have hi := lab_ok ha hb s.index
  unfold ownI ownS
  by_cases h1 : s.kind = 1
  · have e : storedI xa xb s x = orI (lab xa xb s.value) x := by rw [storedI, if_neg (show ¬ s.kind = 2 by omega)]
    rw [if_pos h1, if_pos h1, leL_ok (orI_ok hv hx) (good_get ha _), e]
  · rw [if_neg h1, if_neg h1]
    by_cases h2 : s.kind = 2
    · have e : storedI xa xb s x = orI (orI (lab xa xb s.value) (lab xa xb s.index)) x := by rw [storedI, if_pos h2, orI_swap hv hi hx]
      rw [if_pos h2, if_pos h2, leL_ok (orI_ok (orI_ok hv hi) hx) (good_get hb _), e]
    · rw [if_neg h2, if_neg h2]
theorem inCtx_ok {xa xb : List Int} (ha : good xa = true) (hb : good xb = true) (k : Int) (v : Ex) {x : Int} (hx : Lab.okL x = true) : Lab.okL (inCtx (lab xa xb) k v x) = true := by
  unfold inCtx; split
  · exact orI_ok hx (lab_ok ha hb v)
  · exact hx
mutual
theorem flS_own {xa xb : List Int} (ha : good xa = true) (hb : good xb = true) : ∀ (s : St) (x n : Int), Lab.okL x = true → flS (lab xa xb) (ownI xa xb) s x n = flS (lab xa xb) (ownS xa xb) s x n
  | .node k t i v c b e, x, n, hx => by
    have hi := inCtx_ok ha hb k v hx
    rw [flS, flS, own_eq ha hb _ hx, flL_own ha hb b _ _ hi, flL_own ha hb e _ _ hi]
theorem flL_own {xa xb : List Int} (ha : good xa = true) (hb : good xb = true) : ∀ (l : List St) (x n : Int), Lab.okL x = true → flL (lab xa xb) (ownI xa xb) l x n = flL (lab xa xb) (ownS xa xb) l x n
  | [], _, _, _ => by rw [flL, flL]
  | s :: l, x, n, hx => by rw [flL, flL, flS_own ha hb s x n hx, flL_own ha hb l x _ hx]
end
/-- what CheckFlow answers -/
def flowOf (p : Int × Int) : Int × Int := if p.1 = 0 then (0, -1) else p
def flowB (xa xb : List Int) (l : List St) : Int × Int := if progB xa xb l then flowOf (flL (lab xa xb) (ownS xa xb) l 0 0) else (5, -1)
mutual
/-- a check that finds nothing has counted what it has seen -/
theorem flS_n (lb : Ex → Int) (own : St → Int → Int) : ∀ (s : St) (x n : Int), (flS lb own s x n).1 = 0 → (flS lb own s x n).2 = n + stN s
  | .node k t i v c b e, x, n, h => by
    rw [flS] at h ⊢
    rw [stN]
    split
    · rename_i ho
      rw [if_pos ho] at h
      split
      · rename_i hb
        rw [if_pos hb] at h
        have h1 := flL_n lb own b _ _ hb
        rw [flL_n lb own e _ _ h, h1]; omega
      · rename_i hb
        rw [if_neg hb] at h; exact absurd h hb
    · rename_i ho
      rw [if_neg ho] at h; exact absurd h ho
theorem flL_n (lb : Ex → Int) (own : St → Int → Int) : ∀ (l : List St) (x n : Int), (flL lb own l x n).1 = 0 → (flL lb own l x n).2 = n + stsN l
  | [], x, n, h => by simp [flL, stsN]
  | s :: l, x, n, h => by
    rw [flL] at h ⊢
    rw [stsN]
    split
    · rename_i hs
      rw [if_pos hs] at h
      rw [flL_n lb own l _ _ h, flS_n lb own s _ _ hs]; omega
    · rename_i hs
      rw [if_neg hs] at h; exact absurd h hs
end
end Go.Proofs.YtckikiaockkmbaaDoor.Val
