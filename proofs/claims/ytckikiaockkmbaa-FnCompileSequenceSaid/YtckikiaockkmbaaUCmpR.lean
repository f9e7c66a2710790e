/- How large valid statements are; a clone of a row of ints that is only read. Condition: a bound on the length. -/
import Derived.Test.YtckikiaockkmbaaUP2
import Derived.Test.YtckikiaockkmbaaUEvP
import Derived.Test.YtckikiaockkmbaaUEachP
namespace Go.Proofs.Ytckikiaockkmbaa
open Go.RowKit Kit Val
set_option linter.unusedVariables false
namespace Val
theorem noneB_kids {e : Ex} (h : noneB e = true) : Ex.sizes e.kids = 0 := by
  simp only [noneB, Bool.and_eq_true, decide_eq_true_eq] at h
  rw [List.eq_nil_of_length_eq_zero h.2]; rfl
/-- how large the operands are -/
theorem stB_ops {nv na d : Nat} {s : St} (h : stB nv na s d = true) : Ex.sizes s.index.kids ≤ 14 ∧ Ex.sizes s.value.kids ≤ 14 := by
  have hv := stB_val h
  have hp : partsB s = true := by
    obtain ⟨k, t, i, v, c, b, e⟩ := s
    simp only [stB, Bool.and_eq_true] at h
    exact h.1.2
  have h1 : ∀ e : Ex, right nv na e = true → Ex.sizes e.kids ≤ 14 := fun e q => by
    have := (EvP.right_shp q).2
    have := Ex.size_kids e
    omega
  unfold partsB at hp
  by_cases k4 : s.kind = 4
  · rw [if_pos k4] at hp
    simp only [Bool.and_eq_true] at hp
    have a := noneB_kids hp.1.2
    have b := noneB_kids hp.2
    omega
  · rw [if_neg k4] at hp
    have hr := h1 _ (hv.1 k4)
    refine ⟨?_, hr⟩
    by_cases k2 : s.kind = 2
    · exact h1 _ (hv.2.1 k2).1
    · by_cases k3 : s.kind = 3
      · rw [if_pos k3] at hp
        simp only [Bool.and_eq_true] at hp
        have a := noneB_kids hp.2
        omega
      · rw [if_neg k3] at hp
        simp only [Bool.and_eq_true, Bool.or_eq_true, beq_iff_eq] at hp
        have a := noneB_kids (hp.2.resolve_left k2)
        omega
mutual
theorem stB_size (nv na : Nat) : ∀ (s : St) (d : Nat), stB nv na s d = true → s.size ≤ 31 * stZ s d
  | .node k t i v c b e, d, h => by
    have hs := stB_sub h
    have ho := stB_ops h
    have hb := blB_size nv na b (d - 1) hs.2.1
    have he := blB_size nv na e (d - 1) hs.2.2.1
    rw [St.size_eq, stZ_eq]
    simp only [St.index, St.value, St.body, St.els] at *
    by_cases h1 : 1 < d
    · rw [if_pos h1]; omega
    · have hd : d - 1 = 0 := by omega
      rw [hd] at hs
      have eb := blB_zero nv na b hs.2.1
      have ee := blB_zero nv na e hs.2.2.1
      subst eb
      subst ee
      rw [if_neg h1]
      simp only [St.sizes]
      omega
theorem blB_size (nv na : Nat) : ∀ (l : List St) (d : Nat), blB nv na l d = true → St.sizes l ≤ 31 * stsZ l d
  | [], _, _ => by simp [St.sizes]
  | s :: l, d, h => by
    simp only [blB, Bool.and_eq_true] at h
    have h1 := stB_size nv na s d h.1
    have h2 := blB_size nv na l d h.2
    simp only [St.sizes, stsZ]
    omega
end
theorem progB_size {xa xb : List Int} {l : List St} (h : progB xa xb l = true) : St.sizes l ≤ 1860 := by
  simp only [progB, Bool.and_eq_true, decide_eq_true_eq] at h
  have := blB_size _ _ l 5 h.1.2
  omega
end Val
set_option maxHeartbeats 1000000 in
set_option maxRecDepth 100000 in
theorem AppM.cloneF (w : World) (lo hi : Nat) (s : Value) (xs : List Int) (hs : IntsR w lo hi s xs) (h1 : hi ≤ w.heap.size) (hm : xs.length ≤ 1099511627776) :
    Calls Try.prog 87 #[s] w fun e w' => ∃ v, e = .returned v ∧ New w w' ∧ OwnF 1 encI w' w.heap.size 3 v xs := by
  have q22 : ∀ (w : World) (a : Option Addr) (n c n' c' : Nat), (binOp .eql 34 (.slice a n c) (.slice none n' c')).run Try.prog w = .ok (.bool a.isNone) w := fun w a n c n' c' => Lib.run_eql_slice_nil w _ _ a n c n' c' Try.underlying34
  obtain ⟨a, c, rfl, _⟩ := hs.len
  cases a with
  | none =>
    have h0 : xs = [] := by
      rcases Nat.eq_zero_or_pos xs.length with e | e
      · exact List.eq_nil_of_length_eq_zero e
      · obtain ⟨b, o, ha, _⟩ := hs.at 0 e
        cases ha
    subst h0
    clear hs
    go_enter Try.func87, Try.ntmps87
    go_wp2
    go_ret
    exact ⟨_, rfl, Kp.refl _ _, OwnF.nil _ _ _⟩
  | some a =>
    have k0 : New w (w.alloc (.cells #[] 3)) := (Kp.refl _ _).alloc _
    have hO := Lib.hid (hs.new h1 k0)
    clear hs
    go_enter Try.func87, Try.ntmps87
    go_wp2_with (at_builtin; refine wpList_pushesN rfl _ _ _ rfl w.heap.size 3 _ _ Try.underlying34 LawF.infoI rfl (by decide) _ [] rfl (OwnF.empty w 3 (Nat.le_refl _)) _ xs rfl hO.out (fun y _ _ => rfl) ?qc1 ?qc2 ?qc3 ?_)
    case qc1 => simp; omega
    case qc2 => simp; omega
    case qc3 => simp
    intro v' w1 hv hk ha
    clear q22
    go_wp2
    go_ret
    exact ⟨_, rfl, New.one ((Kp.refl _ _).alloc _) (hk.mono fun k _ e => by simpa [Value.ownBlock] using e.symm) (Nat.le_refl _), by simpa using hv⟩
end Go.Proofs.Ytckikiaockkmbaa
