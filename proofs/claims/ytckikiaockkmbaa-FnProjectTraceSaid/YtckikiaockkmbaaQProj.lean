/- ProjectTrace of spec and of impl: the events of kinds 2 to 4, in a row of the call's own. Condition: at most 2^20 events. -/
import Derived.Test.YtckikiaockkmbaaQP2
import Derived.Test.YtckikiaockkmbaaQP1
namespace Go.Proofs.Ytckikiaockkmbaa.Proj
open Go.RowKit Kit
set_option linter.unusedVariables false

def keep (e : Ev) : Bool := Lab.inside e.1 2 4
theorem infoE : (Try.prog.info? 32).map (fun i => (i.zero, i.size, i.bytes)) = some (some (.agg #[.int .i64 0, .int .i64 0]), 2, 16) := by kernel_rfl

theorem filter_take {xs : List Ev} {j : Nat} (h : j < xs.length) : (xs.take (j + 1)).filter keep = (xs.take j).filter keep ++ if keep xs[j] = true then [xs[j]] else [] := by
  rw [List.take_succ_eq_append_getElem h, List.filter_append]
  simp only [List.filter_cons, List.filter_nil]
theorem filter_le {xs : List Ev} {j : Nat} : ((xs.take j).filter keep).length ≤ xs.length := Nat.le_trans (List.length_filter_le _ _) (by simp; omega)

set_option maxHeartbeats 1000000 in
theorem specProj (w : World) (lo hi : Nat) (s : Value) (xs : List Ev) (hs : EvsR w lo hi s xs) (h1 : hi ≤ w.heap.size) (hm : xs.length ≤ 1048576) :
    Calls Try.prog 15 #[s] w fun e w' => ∃ v, e = .returned v ∧ New w w' ∧ OwnF 2 encE w' w.heap.size 32 v (xs.filter keep) := by
  obtain ⟨a, c, rfl, hl1⟩ := hs.len
  go_enter Try.func15, Try.ntmps15
  go_wp2_with fail
  go_loopw [3, 4] (fun v i wr => ∃ j : Nat, j ≤ xs.length ∧ i = .int .i64 j ∧ New w wr ∧ OwnF 2 encE wr w.heap.size 32 v ((xs.take j).filter keep)) (fun _ i _ => xs.length - (intOf i).toNat)
  case atStart => exact ⟨0, Nat.zero_le _, rfl, (Kp.refl _ _).alloc _, by simpa using OwnF.empty w _ (Nat.le_refl _)⟩
  case round =>
    obtain ⟨j, hj, rfl, hN, hO⟩ := hrel
    by_cases hlt : j < xs.length
    · obtain ⟨b, o, rfl, hb1, hb2, c0, c1⟩ := hs.at j hlt
      have g0 := (hN.cell (b := b) (by omega) (fun f => f) (o + j * 2)).trans c0
      have g1 := (hN.cell (b := b) (by omega) (fun f => f) (o + j * 2 + 1)).trans c1
      have hft := Lib.hid (filter_take hlt)
      have hle := filter_le (xs := xs) (j := j)
      have hb3 : w.heap.size ≤ wr.heap.size := hN.size
      clear c0 c1 hs
      generalize xs[j] = x at *
      obtain ⟨k, u⟩ := x
      by_cases hk : k = 2 ∨ k = 3 ∨ k = 4
      · have hkeep := Lib.hid (show keep (k, u) = true by simp only [keep, Lab.inside, decide_eq_true_eq]; omega)
        have hk' : ((k == 2) = true ∧ k = k) ∨ ((k == 2) = false ∧ (k == 3) = true) ∨ ((k == 2) = false ∧ (k == 3) = false ∧ (k == 4) = true) := by
          rcases hk with rfl | rfl | rfl
          · exact .inl ⟨rfl, rfl⟩
          · exact .inr (.inl ⟨rfl, rfl⟩)
          · exact .inr (.inr ⟨rfl, rfl, rfl⟩)
        clear hk
        have hA1 : (((xs.take j).filter keep).length + 1) * 16 ≤ 140737488355328 := by omega
        have hA2 : ((xs.take j).filter keep).length + 1 ≤ 9223372036854775807 := by omega
        rcases hk' with ⟨k2, _⟩ | ⟨k2, k3⟩ | ⟨k2, k3, k4⟩
        all_goals
          go_wp2_with (at_builtin; refine wpList_push rfl _ _ 23 rfl w.heap.size 32 _ 2 16 Try.underlying23 infoE rfl (by decide) _ _ rfl (hO.new ((Kp.refl _ _).alloc _)) _ _ (k, u) rfl (newsE _ k u _) (oneE _) hA1 hA2 (size_alloc_le hb3 _) ?_; intro v' w1 hO1 hK1)
          have hN1 : New w w1 := New.on (hN.alloc _) hK1 (fun i hi => (hO.lt i hi).1)
          rw [show (List.filter keep (List.take j xs)) ++ [(k, u)] = List.filter keep (List.take (j + 1) xs) by rw [hft.out, hkeep.out]; rfl] at hO1
          clear hO hK1 g0 g1
          go_wp2
          go_roundw
          case rel => exact ⟨j + 1, by omega, by go_num, hN1, hO1⟩
          case measure => simp [intOf]; omega
      · have hkeep := Lib.hid (show keep (k, u) = false by simp only [keep, Lab.inside, decide_eq_false_iff_not]; omega)
        have k2 : (k == 2) = false := by simp; omega
        have k3 : (k == 3) = false := by simp; omega
        have k4 : (k == 4) = false := by simp; omega
        rw [show List.filter keep (List.take j xs) = List.filter keep (List.take (j + 1) xs) by rw [hft.out, hkeep.out]; simp] at hO
        clear hk hft
        go_wp2
        go_roundw
        case rel => exact ⟨j + 1, by omega, by go_num, hN, hO⟩
        case measure => simp [intOf]; omega
    · have hge : xs.length ≤ j := by omega
      rw [List.take_of_length_le hge] at hO
      go_wp2
      go_ret
      exact ⟨_, rfl, hN, hO⟩
set_option maxHeartbeats 1000000 in
theorem implProj (w : World) (lo hi : Nat) (s : Value) (xs : List Ev) (hs : EvsR w lo hi s xs) (h1 : hi ≤ w.heap.size) (hm : xs.length ≤ 1048576) :
    Calls Try.prog 13 #[s] w fun e w' => ∃ v, e = .returned v ∧ New w w' ∧ OwnF 2 encE w' w.heap.size 32 v (xs.filter keep) := by
  obtain ⟨a, c, rfl, hl1⟩ := hs.len
  go_enter Try.func13, Try.ntmps13
  go_wp2_with fail
  go_loopw [3, 8] (fun v i wr => ∃ j : Nat, j ≤ xs.length ∧ i = .int .i64 j ∧ New w wr ∧ OwnF 2 encE wr w.heap.size 32 v ((xs.take j).filter keep)) (fun _ i _ => xs.length - (intOf i).toNat)
  case atStart => exact ⟨0, Nat.zero_le _, rfl, Kp.refl _ _, by simpa using OwnF.nil w _ _⟩
  case round =>
    obtain ⟨j, hj, rfl, hN, hO⟩ := hrel
    by_cases hlt : j < xs.length
    · obtain ⟨b, o, rfl, hb1, hb2, c0, c1⟩ := hs.at j hlt
      have g0 := (hN.cell (b := b) (by omega) (fun f => f) (o + j * 2)).trans c0
      have g1 := (hN.cell (b := b) (by omega) (fun f => f) (o + j * 2 + 1)).trans c1
      have hft := Lib.hid (filter_take hlt)
      have hle := filter_le (xs := xs) (j := j)
      have hb3 : w.heap.size ≤ wr.heap.size := hN.size
      clear c0 c1 hs
      generalize xs[j] = x at *
      obtain ⟨k, u⟩ := x
      go_wp2_with fail
      refine (Lab.within _ _ _ _).mono ?_
      rintro r w1 ⟨rfl, rfl⟩
      have hA1 : (((xs.take j).filter keep).length + 1) * 16 ≤ 140737488355328 := by omega
      have hA2 : ((xs.take j).filter keep).length + 1 ≤ 9223372036854775807 := by omega
      cases hkp : Lab.inside k 2 4
      · have hkeep := Lib.hid (show keep (k, u) = false from hkp)
        rw [show List.filter keep (List.take j xs) = List.filter keep (List.take (j + 1) xs) by rw [hft.out, hkeep.out]; simp] at hO
        clear hft
        go_wp2
        go_roundw
        case rel => exact ⟨j + 1, by omega, by go_num, hN.alloc _, hO.new ((Kp.refl _ _).alloc _)⟩
        case measure => simp [intOf]; omega
      · have hkeep := Lib.hid (show keep (k, u) = true from hkp)
        go_wp2_with (at_builtin; refine wpList_push rfl _ _ 23 rfl w.heap.size 32 _ 2 16 Try.underlying23 infoE rfl (by decide) _ _ rfl (hO.new (((Kp.refl _ _).alloc _).alloc _)) _ _ (k, u) rfl (newsE1 _ k u _ (World.size_alloc _ _)) (oneE _) hA1 hA2 (size_alloc_le (size_alloc_le hb3 _) _) ?_; intro v' w1 hO1 hK1)
        have hN1 : New w w1 := New.on ((hN.alloc _).alloc _) hK1 (fun i hi => (hO.lt i hi).1)
        rw [show (List.filter keep (List.take j xs)) ++ [(k, u)] = List.filter keep (List.take (j + 1) xs) by rw [hft.out, hkeep.out]; rfl] at hO1
        clear hO hK1 g0 g1
        go_wp2
        go_roundw
        case rel => exact ⟨j + 1, by omega, by go_num, hN1, hO1⟩
        case measure => simp [intOf]; omega
    · have hge : xs.length ≤ j := by omega
      rw [List.take_of_length_le hge] at hO
      go_wp2
      go_ret
      exact ⟨_, rfl, hN, hO⟩
end Go.Proofs.Ytckikiaockkmbaa.Proj
