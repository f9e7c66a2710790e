/- Plain facts of one step, for the laws of machines. No program in sight; no conditions. -/
import Derived.Test.YtbicpkmlionldaaVRunP
import Derived.Test.YtbicpkmlionldaaVP7
import Derived.Test.YtbicpkmlionldaaVMachV
namespace Go.Proofs.Ytbicpkmlionldaa.LawS
open Go.RowKit Kit Step
theorem keep {nv na nl : Nat} {y : Ins} (hv : View nv na nl y) (h3 : y.op ≠ 3) (h5 : y.op ≠ 5) (s : Ms) : (eff y s).1.v = s.v ∧ (eff y s).1.a = s.a := by
  cases hv <;> simp_all [eff]
theorem ev_len {nv na nl : Nat} {y : Ins} (hv : View nv na nl y) (s : Ms) : (eff y s).2.length ≤ 1 := (StepK.eff_len hv s).2
theorem okVs_of {l : List Int} (h : ∀ i (hi : i < l.length), 0 ≤ l[i] ∧ l[i] ≤ 255) : Val.okVs l = true := by
  rw [Val.okVs, List.all_eq_true]
  intro x hx
  obtain ⟨i, hi, rfl⟩ := List.mem_iff_getElem.1 hx
  rw [Val.okV, Lab.inside, decide_eq_true_eq]
  exact h i hi
theorem mach_eff {xa xb : List Int} {x : List Ins} {pc : Int} {yr ya : List Int} {yb : List (List Int)} {z : Ms} (h : Val.machB xa xb x pc yr ya yb = true) (hz : RunP.out true (eff (RunP.ins x pc) ⟨pc, yr, ya, yb⟩).1 = z) :
    Val.machB xa xb x z.pc z.r z.v z.a = true := by
  simp only [Val.machB, Bool.and_eq_true, decide_eq_true_eq] at h
  obtain ⟨⟨⟨⟨⟨h1, h2⟩, h3⟩, h4⟩, h5⟩, h6⟩ := h
  have hm := RunP.okm_fit (nl := x.length) (pc := pc) h4 h5 h6
  have hc := RunP.okc h1
  obtain ⟨p, rfl⟩ : ∃ p : Nat, pc = p := ⟨pc.toNat, by omega⟩
  have hp : p < x.length := by omega
  have hz1 : (eff x[p] ⟨(p : Int), yr, ya, yb⟩).1 = z := by rw [RunP.ins_nat hp] at hz; exact hz
  have hk := RunP.eff_okm (hc.view p hp) hm
  obtain ⟨q, e1, e2⟩ := RunP.eff_pc hc (s := ⟨(p : Int), yr, ya, yb⟩) hp rfl
  rw [hz1] at hk e1
  simp only [Val.machB, Val.fitB, Bool.and_eq_true, decide_eq_true_eq, List.all_eq_true]
  refine ⟨⟨⟨⟨⟨h1, by omega⟩, by omega⟩, hk.rl⟩, okVs_of hk.rv⟩, ⟨⟨hk.vl, hk.al⟩, okVs_of hk.vv⟩, fun r hr => ?_⟩
  obtain ⟨i, hi, rfl⟩ := List.mem_iff_getElem.1 hr
  rw [Val.rowB, Bool.and_eq_true, decide_eq_true_eq]
  exact ⟨hk.ar i hi, okVs_of (hk.av i hi)⟩
end Go.Proofs.Ytbicpkmlionldaa.LawS
