/- Plain facts of one step, for the laws of machines. No program in sight; no conditions. -/
import Derived.Test.YtljokgoghphgdaaWRunP
import Derived.Test.YtljokgoghphgdaaWP7
import Derived.Test.YtljokgoghphgdaaWMachV
namespace Go.Proofs.Ytljokgoghphgdaa.LawS
open Go.RowKit Kit Step
theorem halt_case {nv na nl : Nat} {y : Ins} (hv : View nv na nl y) (s : Ms) :
    (∃ o : Bool, (y.op == 13) = o ∧ ((eff y s).1.pc == s.pc && (decide ((eff y s).1.r = s.r) && (decide ((eff y s).1.v = s.v) && decide ((eff y s).1.a = s.a)))) = o) ∨
      ((y.op = 8 ∨ y.op = 9 ∨ y.op = 10) ∧ ((eff y s).1.pc == s.pc && (decide ((eff y s).1.r = s.r) && (decide ((eff y s).1.v = s.v) && decide ((eff y s).1.a = s.a)))) = true) := by
  have hn : ((s.pc + 1 : Int) == s.pc) = false := by simp; omega
  have br : ∀ {q : Int}, q = 8 ∨ q = 9 ∨ q = 10 → ∀ t : Bool, (∃ o : Bool, (q == 13) = o ∧ t = o) ∨ ((q = 8 ∨ q = 9 ∨ q = 10) ∧ t = true) := fun {q} h t => by
    cases t with
    | true => exact .inr ⟨h, rfl⟩
    | false => exact .inl ⟨false, by rcases h with rfl | rfl | rfl <;> rfl, rfl⟩
  cases hv with
  | jump a ha => exact br (.inl rfl) _
  | zero a b ha hb => exact br (.inr (.inl rfl)) _
  | loop a b ha hb => exact br (.inr (.inr rfl)) _
  | halt => exact .inl ⟨true, rfl, by simp [eff]⟩
  | _ => exact .inl ⟨false, rfl, by simp [eff, hn]⟩
theorem op3 {nv na nl : Nat} {y : Ins} (hv : View nv na nl y) (h : y.op = 3) : ∃ a b : Nat, a < nv ∧ b < 14 ∧ y = ⟨3, a, b, 0, 0⟩ := by
  cases hv with
  | put a b ha hb => exact ⟨a, b, ha, hb, rfl⟩
  | _ => simp at h
theorem op5 {nv na nl : Nat} {y : Ins} (hv : View nv na nl y) (h : y.op = 5) : ∃ a b c : Nat, a < na ∧ b < 14 ∧ c < 14 ∧ y = ⟨5, a, b, c, 0⟩ := by
  cases hv with
  | store a b c ha hb hc => exact ⟨a, b, c, ha, hb, hc, rfl⟩
  | _ => simp at h
theorem keep {nv na nl : Nat} {y : Ins} (hv : View nv na nl y) (h3 : y.op ≠ 3) (h5 : y.op ≠ 5) (s : Ms) : (eff y s).1.v = s.v ∧ (eff y s).1.a = s.a := by
  cases hv <;> simp_all [eff]
theorem one_reg {nv na nl : Nat} {y : Ins} (hv : View nv na nl y) (s : Ms) : ∃ (a : Nat) (v : Int), (eff y s).1.r = s.r.set a v := by
  have h0 : ∃ (a : Nat) (v : Int), s.r = s.r.set a v := ⟨s.r.length, 0, by rw [List.set_eq_of_length_le (Nat.le_refl _)]⟩
  have h1 : ∀ (a : Nat) (v : Int), ∃ (b : Nat) (u : Int), put0 s.r a v = s.r.set b u := fun a v => ⟨a, v, by simp [put0]⟩
  cases hv <;> simp [eff] <;> first | exact h0 | exact h1 _ _
theorem set_ne {l m : List Int} {a j : Nat} {v : Int} (h : l = m.set a v) (h1 : j < l.length) (h2 : j < m.length) (hj : j ≠ a) : l[j] = m[j] := by
  subst h; rw [List.getElem_set_ne (Ne.symm hj)]
theorem ev_len {nv na nl : Nat} {y : Ins} (hv : View nv na nl y) (s : Ms) : (eff y s).2.length ≤ 1 := (StepK.eff_len hv s).2
theorem okVs_of {l : List Int} (h : ∀ i (hi : i < l.length), 0 ≤ l[i] ∧ l[i] ≤ 255) : Val.okVs l = true := by
  rw [Val.okVs, List.all_eq_true]
  intro x hx
  obtain ⟨i, hi, rfl⟩ := List.mem_iff_getElem.1 hx
  rw [Val.okV, Lab.inside, decide_eq_true_eq]
  exact h i hi
theorem mach_eff {xa xb : List Int} {x : List Ins} {pc : Int} {yr ya : List Int} {yb : List (List Int)} {z : Ms} (h : Val.machB xa xb x pc yr ya yb = true) (hz : RunP.out true (eff (RunP.ins x pc) ⟨pc, yr, ya, yb⟩).1 = z) :
    Val.machB xa xb x z.pc z.r z.v z.a = true := by
  simp only [Val.machB, Bool.and_eq_true, decide_eq_true_eq] at h
  obtain ⟨⟨⟨⟨⟨h1, h2⟩, h3⟩, h4⟩, h5⟩, h6⟩ := h
  have hm := RunP.okm_fit (nl := x.length) (pc := pc) h4 h5 h6
  have hc := RunP.okc h1
  obtain ⟨p, rfl⟩ : ∃ p : Nat, pc = p := ⟨pc.toNat, by omega⟩
  have hp : p < x.length := by omega
  have hz1 : (eff x[p] ⟨(p : Int), yr, ya, yb⟩).1 = z := by rw [RunP.ins_nat hp] at hz; exact hz
  have hk := RunP.eff_okm (hc.view p hp) hm
  obtain ⟨q, e1, e2⟩ := RunP.eff_pc hc (s := ⟨(p : Int), yr, ya, yb⟩) hp rfl
  rw [hz1] at hk e1
  simp only [Val.machB, Val.fitB, Bool.and_eq_true, decide_eq_true_eq, List.all_eq_true]
  refine ⟨⟨⟨⟨⟨h1, by omega⟩, by omega⟩, hk.rl⟩, okVs_of hk.rv⟩, ⟨⟨hk.vl, hk.al⟩, okVs_of hk.vv⟩, fun r hr => ?_⟩
  obtain ⟨i, hi, rfl⟩ := List.mem_iff_getElem.1 hr
  rw [Val.rowB, Bool.and_eq_true, decide_eq_true_eq]
  exact ⟨hk.ar i hi, okVs_of (hk.av i hi)⟩
end Go.Proofs.Ytljokgoghphgdaa.LawS
