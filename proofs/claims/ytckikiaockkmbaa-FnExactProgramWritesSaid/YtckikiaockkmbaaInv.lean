/- A law for a region that draws its order and ends in one operation that waits for all the rest: an invariant over what has come. No program in sight. -/
import Derived.Test.YtckikiaockkmbaaTail
namespace Go.Proofs.Ytckikiaockkmbaa
open Go
section
variable {P : Program} {ops : Array Oper} {Q : Exit → Act → World → Prop} {md : Region.Mode}
def lowB (md : Region.Mode) (ops : Array Oper) : Bool := (List.range ops.size).all fun i => match ops[i]? with | none => true | some o => o.after.all fun e => !Region.binds md e || decide (e.on < i)
theorem lowB_spec (h : lowB md ops = true) {i : Nat} {o : Oper} (ho : ops[i]? = some o) {e : Edge} (he : e ∈ o.after) (hb : Region.binds md e = true) : e.on < i := by
  have hi : i < ops.size := (Array.getElem?_eq_some_iff.1 ho).1
  have h1 := List.all_eq_true.1 h i (List.mem_range.2 hi)
  simp only [ho] at h1
  have h2 := Array.all_eq_true_iff_forall_mem.1 h1 e he
  simpa [hb] using h2
theorem least (p : Nat → Bool) : ∀ n, p n = false → ∃ i, i ≤ n ∧ p i = false ∧ ∀ j, j < i → p j = true := by
  intro n
  induction n using Nat.strongRecOn with
  | _ n ih =>
    intro h
    by_cases hj : ∃ j, j < n ∧ p j = false
    · obtain ⟨j, h1, h2⟩ := hj
      obtain ⟨i, h3, h4, h5⟩ := ih j h1 h2
      exact ⟨i, by omega, h4, h5⟩
    · refine ⟨n, Nat.le_refl _, h, fun j hlt => ?_⟩
      cases e : p j with
      | true => rfl
      | false => exact absurd ⟨j, hlt, e⟩ hj
theorem getD_same {l : Array Bool} {j : Nat} (h : j < l.size) : l.getD j true = l.getD j false := by simp [Array.getD, h]
def left (l : Array Bool) : Nat := l.toList.count false
theorem left_set {l : Array Bool} {i : Nat} (hi : i < l.size) (h : l.getD i true = false) : left (l.setIfInBounds i true) + 1 = left l := by
  have hv : l[i] = false := by simpa [Array.getD, hi] using h
  have hm : false ∈ l.toList := by rw [← hv]; exact Array.getElem_mem_toList hi
  have hp := List.count_pos_iff.2 hm
  unfold left
  rw [Array.toList_setIfInBounds, List.count_set (by simpa using hi)]
  have e1 : l.toList[i]'(by simpa using hi) = false := by simpa using hv
  rw [e1]
  have e2 : (false == false) = true := rfl
  have e3 : (true == false) = false := rfl
  rw [if_pos e2, e3, if_neg (by decide)]
  omega
theorem left_zero {l : Array Bool} (h : ∀ j, j < l.size → l.getD j true = true) : left l = 0 := by
  unfold left
  rw [List.count_eq_zero]
  intro hm
  obtain ⟨j, hj, e⟩ := List.getElem_of_mem hm
  have hj2 : j < l.size := by simpa using hj
  have := h j hj2
  simp [Array.getD, hj2] at this
  simp at e
  rw [e] at this; cases this
/-- any order, by an invariant -/
theorem any_inv {n : Nat} (I : Array Bool → Act → World → Prop) (hn : ops.size = n + 1) (hlow : lowB md ops = true) (hwait : (List.range n).all (fun i => Region.waitsFor md ops n i) = true)
    (hstep : ∀ i listed a w, i < n → listed.size = n + 1 → I listed a w → listed.getD i true = false → (∀ j, Region.waitsFor md ops i j = true → listed.getD j false = true) → wpOp P ops Q i (fun a' w' => I (listed.setIfInBounds i true) a' w') a w)
    (hlast : ∀ listed a w, I listed a w → (∀ i, i < n → listed.getD i false = true) → wpList P ops Q (ops.toList.drop n) a w) :
    ∀ f listed a w, listed.size = n + 1 → listed.getD n true = false → left listed = f → I listed a w → wpAny P md ops Q f listed a w := by
  intro f
  induction f with
  | zero =>
    intro listed a w hs hu hl hI
    have := left_set (i := n) (by omega) hu
    omega
  | succ f ih =>
    intro listed a w hs hu hl hI
    refine ⟨fun h => ?_, fun i hi => ?_⟩
    · exfalso
      obtain ⟨i, h1, h2, h3⟩ := least (fun i => listed.getD i true) n hu
      have hio : i < ops.size := by omega
      have : i ∈ Region.ready md ops listed := mem_ready.2 ⟨h2, ops[i], Array.getElem?_eq_getElem hio, fun e he hb => by
        have hlt := lowB_spec hlow (Array.getElem?_eq_getElem hio) he hb
        rw [← getD_same (by omega)]; exact h3 e.on hlt⟩
      rw [h] at this; cases this
    · obtain ⟨hu2, o, ho, hall⟩ := mem_ready.1 hi
      have hin : i < n + 1 := by have := (Array.getElem?_eq_some_iff.1 ho).1; omega
      have hc := left_set (i := i) (by omega) hu2
      have hdep : ∀ j, Region.waitsFor md ops i j = true → listed.getD j false = true := fun j hj => by
        obtain ⟨oj, hoj, e, he, hb, hon⟩ := Region.waitsFor_spec hj
        have e1 : oj = o := Option.some.inj (hoj.symm.trans ho)
        subst e1
        have := hall e he hb
        rwa [hon] at this
      by_cases he : i = n
      · subst he
        have hall2 : ∀ j, j < i → listed.getD j false = true := fun j hj => hdep j (List.all_eq_true.1 hwait j (List.mem_range.2 hj))
        have hall3 : ∀ j, j < (listed.setIfInBounds i true).size → (listed.setIfInBounds i true).getD j true = true := fun j hj => by
          have hj2 : j < listed.size := by simpa using hj
          by_cases e : i = j
          · subst e; simp [Array.getD, hj2]
          · rw [getD_set_ne true e, getD_same hj2]; exact hall2 j (by omega)
        have h0 := left_zero hall3
        obtain rfl : f = 0 := by omega
        have hd : ops.toList.drop i = [o] := by
          rw [List.drop_eq_getElem_cons (by simp; omega), List.drop_of_length_le (by simp; omega)]
          have := (Array.getElem?_eq_some_iff.1 ho).2
          simp [this]
        have h9 := hlast listed a w hI hall2
        rw [hd] at h9
        have h8 : wpOp P ops Q i (wpList P ops Q []) a w := by unfold wpOp; simp only [ho]; exact h9
        refine wpOp_mono (fun a' w' hq => ⟨?_, hq⟩) h8
        rw [List.eq_nil_iff_forall_not_mem]
        intro j hj
        have h5 := (mem_ready.1 hj).1
        rcases Nat.lt_or_ge j (listed.setIfInBounds i true).size with q | q
        · rw [hall3 j q] at h5; cases h5
        · rw [Array.getD, dif_neg (by omega)] at h5; cases h5
      · exact wpOp_mono (fun a' w' h' => ih _ a' w' (by simpa using hs) (by rw [getD_set_ne true he]; exact hu) (by omega) h') (hstep i listed a w (by omega) hs hI hu2 hdep)
end
end Go.Proofs.Ytckikiaockkmbaa
