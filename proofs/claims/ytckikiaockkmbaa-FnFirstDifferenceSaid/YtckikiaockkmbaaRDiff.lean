/- FirstDifference and TraceSame of spec and of impl. -/
import Derived.Test.YtckikiaockkmbaaRP2
import Derived.Test.YtckikiaockkmbaaRP6
import Derived.Laws.StructEq
namespace Go.Proofs.Ytckikiaockkmbaa.Diff
open Go.RowKit Kit
set_option linter.unusedVariables false

/-- the first difference of two traces, counted from k on -/
def fd : List Ev → List Ev → Nat → Int
  | [], [], _ => -1
  | x :: xs, y :: ys, k => if x = y then fd xs ys (k + 1) else k
  | _ :: _, [], k => k
  | [], _ :: _, k => k
theorem fd_same {x : Ev} {xs ys : List Ev} {j k : Nat} (hx : j < xs.length) (hy : j < ys.length) (h : xs[j] = ys[j]) : fd (xs.drop j) (ys.drop j) k = fd (xs.drop (j + 1)) (ys.drop (j + 1)) (k + 1) := by
  rw [List.drop_eq_getElem_cons hx, List.drop_eq_getElem_cons hy]; simp [fd, h]
theorem fd_other {xs ys : List Ev} {j k : Nat} (hx : j < xs.length) (hy : j < ys.length) (h : xs[j] ≠ ys[j]) : fd (xs.drop j) (ys.drop j) k = k := by
  rw [List.drop_eq_getElem_cons hx, List.drop_eq_getElem_cons hy]; simp [fd, h]
theorem fd_end {xs ys : List Ev} {j k : Nat} (hx : j = xs.length) (hy : j = ys.length) : fd (xs.drop j) (ys.drop j) k = -1 := by
  rw [List.drop_of_length_le (by omega), List.drop_of_length_le (by omega)]; rfl
theorem fd_left {xs ys : List Ev} {j k : Nat} (hx : xs.length ≤ j) (hy : j < ys.length) : fd (xs.drop j) (ys.drop j) k = k := by
  rw [List.drop_of_length_le hx, List.drop_eq_getElem_cons hy]; rfl
theorem fd_right {xs ys : List Ev} {j k : Nat} (hx : j < xs.length) (hy : ys.length ≤ j) : fd (xs.drop j) (ys.drop j) k = k := by
  rw [List.drop_of_length_le hy, List.drop_eq_getElem_cons hx]; rfl
theorem fd_none : ∀ (xs ys : List Ev) (k : Nat), xs.length = ys.length → (fd xs ys k = -1 ↔ xs = ys)
  | [], [], _, _ => by simp [fd]
  | x :: xs, y :: ys, k, h => by
    by_cases e : x = y
    · subst e; simp [fd, fd_none xs ys (k + 1) (by simpa using h)]
    · simp [fd, e]
  | _ :: _, [], _, h => by simp at h
  | [], _ :: _, _, h => by simp at h

set_option maxHeartbeats 1000000 in
theorem specFirst (w : World) (lo hi lo' hi' : Nat) (s t : Value) (xs ys : List Ev) (hs : EvsR w lo hi s xs) (ht : EvsR w lo' hi' t ys) :
    Calls Try.prog 18 #[s, t] w fun e w' => e = .returned (.int .i64 (fd xs ys 0)) ∧ ∃ k, w' = w.drewN k := by
  obtain ⟨a, c, rfl, hl1⟩ := hs.len
  obtain ⟨a', c', rfl, hl2⟩ := ht.len
  go_enter Try.func18, Try.ntmps18
  go_wp2_with fail
  go_loopw [5] (fun i wr => ∃ j : Nat, j ≤ xs.length ∧ j ≤ ys.length ∧ i = .int .i64 j ∧ (∃ k, wr = w.drewN k) ∧ Hid (fd xs ys 0 = fd (xs.drop j) (ys.drop j) j)) (fun i _ => xs.length - (intOf i).toNat)
  case atStart => exact ⟨0, Nat.zero_le _, Nat.zero_le _, rfl, ⟨0, rfl⟩, Lib.hid rfl⟩
  case round =>
    obtain ⟨j, hj, hj', rfl, ⟨k, rfl⟩, hD⟩ := hrel
    by_cases hlt : j < xs.length
    · by_cases hlt2 : j < ys.length
      · obtain ⟨b, o, rfl, hb1, hb2, c0, c1⟩ := hs.at j hlt
        obtain ⟨b', o', rfl, hb1', hb2', c0', c1'⟩ := ht.at j hlt2
        by_cases hxy : xs[j] = ys[j]
        · have hD2 := Lib.hid (hD.out.trans (fd_same (x := xs[j]) hlt hlt2 hxy))
          rw [← hxy] at c0' c1'
          clear hD hs ht hxy
          generalize xs[j] = x at *
          go_wp2_with fail
          go_quiet (fail)
          go_wp2
          go_roundw
          case rel => exact ⟨j + 1, by omega, by omega, by go_num, ⟨_, rfl⟩, hD2⟩
          case measure => simp [intOf]; omega
        · have hD2 := Lib.hid (hD.out.trans (fd_other hlt hlt2 hxy))
          by_cases h1 : xs[j].1 = ys[j].1
          · have h2 : (xs[j].2 == ys[j].2) = false := by rw [beq_eq_false_iff_ne]; intro h2; exact hxy (Prod.ext h1 h2)
            rw [← h1] at c0'
            clear hD hs ht hxy h1
            generalize xs[j] = x at *
            generalize ys[j] = y at *
            go_wp2_with fail
            go_quiet (fail)
            go_wp2
            go_ret
            exact ⟨retI hD2.out.symm, ⟨_, World.drewN_drewN _ _ _⟩⟩
          · have h2 : (xs[j].1 == ys[j].1) = false := by rw [beq_eq_false_iff_ne]; exact h1
            clear hD hs ht hxy h1
            generalize xs[j] = x at *
            generalize ys[j] = y at *
            go_wp2_with fail
            go_quiet (fail)
            go_wp2
            go_ret
            exact ⟨retI hD2.out.symm, ⟨_, World.drewN_drewN _ _ _⟩⟩
      · have hD2 := Lib.hid (hD.out.trans (fd_right hlt (by omega)))
        have hj2 : j = ys.length := by omega
        have hy : Hid (((ys.length : Nat) : Int) = j) := Lib.hid (by omega)
        have hlt3 : ys.length < xs.length := by omega
        clear hD hj2 hs ht
        go_wp2
        go_ret
        exact ⟨retI (by rw [hD2.out, hy.out]), ⟨_, rfl⟩⟩
    · by_cases hlt2 : j < ys.length
      · have hD2 := Lib.hid (hD.out.trans (fd_left (by omega) hlt2))
        have hx : Hid (((xs.length : Nat) : Int) = j) := Lib.hid (by omega)
        have hlt3 : xs.length < ys.length := by omega
        clear hD hs ht
        go_wp2
        go_ret
        exact ⟨retI (by rw [hD2.out, hx.out]), ⟨_, rfl⟩⟩
      · have hD2 := Lib.hid (hD.out.trans (fd_end (by omega) (by omega)))
        have l1 : xs.length ≤ ys.length := by omega
        have l2 : ys.length ≤ xs.length := by omega
        clear hD hs ht
        go_wp2
        go_ret
        exact ⟨retI hD2.out.symm, ⟨_, rfl⟩⟩
set_option maxHeartbeats 1000000 in
theorem implFirst (w : World) (lo hi lo' hi' : Nat) (s t : Value) (xs ys : List Ev) (hs : EvsR w lo hi s xs) (ht : EvsR w lo' hi' t ys) :
    Calls Try.prog 17 #[s, t] w fun e w' => e = .returned (.int .i64 (fd xs ys 0)) ∧ ∃ k, w' = w.drewN k := by
  obtain ⟨a, c, rfl, hl1⟩ := hs.len
  obtain ⟨a', c', rfl, hl2⟩ := ht.len
  by_cases hle : xs.length < ys.length
  all_goals
    go_enter Try.func17, Try.ntmps17
    go_wp2_with fail
    go_loopw [11] (fun i wr => ∃ j : Nat, j ≤ xs.length ∧ j ≤ ys.length ∧ i = .int .i64 j ∧ (∃ k, wr = w.drewN k) ∧ Hid (fd xs ys 0 = fd (xs.drop j) (ys.drop j) j)) (fun i _ => xs.length + ys.length + 1 - (intOf i).toNat)
    case atStart => exact ⟨0, Nat.zero_le _, Nat.zero_le _, rfl, ⟨0, rfl⟩, Lib.hid rfl⟩
    case round =>
      obtain ⟨j, hj, hj', rfl, ⟨k, rfl⟩, hD⟩ := hrel
      by_cases hlt : j < xs.length
      · by_cases hlt2 : j < ys.length
        · obtain ⟨b, o, rfl, hb1, hb2, c0, c1⟩ := hs.at j hlt
          obtain ⟨b', o', rfl, hb1', hb2', c0', c1'⟩ := ht.at j hlt2
          have hg1 : decide (xs.length ≤ j) = false := by simp; omega
          have hg2 : decide (ys.length ≤ j) = false := by simp; omega
          by_cases hxy : xs[j] = ys[j]
          · have hD2 := Lib.hid (hD.out.trans (fd_same (x := xs[j]) hlt hlt2 hxy))
            rw [← hxy] at c0' c1'
            clear hD hs ht hxy
            generalize xs[j] = x at *
            go_wp2_with fail
            go_quiet (fail)
            go_wp2
            go_roundw
            case rel => exact ⟨j + 1, by omega, by omega, by go_num, ⟨_, rfl⟩, hD2⟩
            case measure => simp [intOf]; omega
          · have hD2 := Lib.hid (hD.out.trans (fd_other hlt hlt2 hxy))
            by_cases h1 : xs[j].1 = ys[j].1
            · have h2 : (xs[j].2 == ys[j].2) = false := by rw [beq_eq_false_iff_ne]; intro h2; exact hxy (Prod.ext h1 h2)
              rw [← h1] at c0'
              clear hD hs ht hxy h1
              generalize xs[j] = x at *
              generalize ys[j] = y at *
              go_wp2_with fail
              go_quiet (fail)
              go_wp2
              go_ret
              exact ⟨retI hD2.out.symm, ⟨_, World.drewN_drewN _ _ _⟩⟩
            · have h2 : (xs[j].1 == ys[j].1) = false := by rw [beq_eq_false_iff_ne]; exact h1
              clear hD hs ht hxy h1
              generalize xs[j] = x at *
              generalize ys[j] = y at *
              go_wp2_with fail
              go_quiet (fail)
              go_wp2
              go_ret
              exact ⟨retI hD2.out.symm, ⟨_, World.drewN_drewN _ _ _⟩⟩
        · have hD2 := Lib.hid (hD.out.trans (fd_right hlt (by omega)))
          have hg1 : decide (xs.length ≤ j) = false := by simp; omega
          have hg2 : decide (ys.length ≤ j) = true := by simp; omega
          clear hD hs ht
          first
            | (exfalso; omega)
            | (go_wp2_with fail
               go_quiet (fail)
               go_wp2
               go_ret
               exact ⟨retI hD2.out.symm, ⟨_, World.drewN_drewN _ _ _⟩⟩)
      · by_cases hlt2 : j < ys.length
        · have hD2 := Lib.hid (hD.out.trans (fd_left (by omega) hlt2))
          have hg1 : decide (xs.length ≤ j) = true := by simp; omega
          clear hD hs ht
          first
            | (exfalso; omega)
            | (go_wp2_with fail
               go_quiet (fail)
               go_wp2
               go_ret
               exact ⟨retI hD2.out.symm, ⟨_, World.drewN_drewN _ _ _⟩⟩)
        · have hD2 := Lib.hid (hD.out.trans (fd_end (by omega) (by omega)))
          clear hD hs ht
          go_wp2
          go_ret
          exact ⟨retI hD2.out.symm, ⟨_, rfl⟩⟩
theorem specSame (w : World) (lo hi lo' hi' : Nat) (s t : Value) (xs ys : List Ev) (hs : EvsR w lo hi s xs) (ht : EvsR w lo' hi' t ys) :
    Calls Try.prog 19 #[s, t] w fun e w' => e = .returned (.bool (decide (xs = ys))) ∧ New w w' := by
  obtain ⟨a, c, rfl, hl1⟩ := hs.len
  obtain ⟨a', c', rfl, hl2⟩ := ht.len
  by_cases hlen : xs.length = ys.length
  · have hf := Lib.hid (fd_none xs ys 0 hlen)
    have hq : ((xs.length : Int) == (ys.length : Int)) = true := by simp [hlen]
    clear hlen
    go_enter Try.func19, Try.ntmps19
    go_wp2_with fail
    refine (specFirst w lo hi lo' hi' _ _ xs ys hs ht).mono ?_
    rintro e w1 ⟨rfl, k, rfl⟩
    go_wp2
    go_ret
    exact ⟨retB (by rw [Bool.eq_iff_iff]; simpa using hf.out), drewN_kp _ k (Kp.refl _ _)⟩
  · have hq : ((xs.length : Int) == (ys.length : Int)) = false := by simp; omega
    have hfin := Lib.hid (show decide (xs = ys) = false by
      rw [decide_eq_false_iff_not]; intro e; exact hlen (by rw [e]))
    clear hlen
    go_enter Try.func19, Try.ntmps19
    go_wp2
    go_ret
    exact ⟨retB hfin.out.symm, Kp.refl _ _⟩
theorem implSame (w : World) (lo hi lo' hi' : Nat) (s t : Value) (xs ys : List Ev) (hs : EvsR w lo hi s xs) (ht : EvsR w lo' hi' t ys) :
    Calls Try.prog 14 #[s, t] w fun e w' => e = .returned (.bool (decide (xs = ys))) ∧ New w w' := by
  obtain ⟨a, c, rfl, hl1⟩ := hs.len
  obtain ⟨a', c', rfl, hl2⟩ := ht.len
  go_enter Try.func14, Try.ntmps14
  go_wp2_with fail
  refine (Sl.eqE w lo hi lo' hi' _ _ xs ys hs ht).mono ?_
  rintro e w1 ⟨rfl, k, rfl⟩
  go_wp2
  go_ret
  exact ⟨rfl, drewN_kp _ k (Kp.refl _ _)⟩
end Go.Proofs.Ytckikiaockkmbaa.Diff
