/- Rows of truth values in the laws: compared, marked, looked at. Conditions: bounds on the lengths. -/
import Derived.Test.YtckikiaockkmbaaLawF
import Derived.Test.YtckikiaockkmbaaOwnM
namespace Go.Proofs.Ytckikiaockkmbaa.BoolU
open Go.RowKit Kit
set_option linter.unusedVariables false
/-- the mark of a number -/
abbrev mb (x : Int) : Bool := x % 3 == 0
def marksB (k : Int) (n : Nat) : List Bool := (List.range n).map fun i => mb (k + (i : Nat))
theorem marksB_length (k : Int) (n : Nat) : (marksB k n).length = n := by simp [marksB]
def BM (w : World) (b N j : Nat) (k : Int) : Prop := ∃ cs : Array Value, w.heap[b]? = some (.cells cs 4 (0, 0)) ∧ cs.size = N ∧ ∀ i, i < j → cs[i]? = some (.bool (mb (k + (i : Nat))))
theorem BM.row {w : World} {b N j : Nat} {k : Int} (h : BM w b N j k) : Row w b N 4 := by obtain ⟨cs, h1, h2, _⟩ := h; exact ⟨cs, h1, h2⟩
theorem BM.step {w : World} {b N j : Nat} {k : Int} (h : BM w b N j k) (hj : j < N) {x : Bool} (e : x = mb (k + (j : Nat))) : BM (w.setCell ⟨b, j, none⟩ (.bool x)) b N (j + 1) k := by
  subst e
  obtain ⟨cs, h1, h2, h3⟩ := h
  refine ⟨_, setCell_heap h1 _, by simpa using h2, fun i hi => ?_⟩
  rw [Array.getElem?_setIfInBounds]
  by_cases e : j = i
  · subst e; simp [h2, hj]
  · simp only [e, if_false]; exact h3 i (by omega)
set_option maxHeartbeats 1000000 in
theorem markBoolS (w : World) (base : Nat) (v : Value) (xs : List Bool) (k : Int) (hO : OwnF 1 encB w base 4 v xs) (hk0 : 0 ≤ k) (hk1 : k ≤ 1099511627776) (hm : xs.length ≤ 1073741824) :
    Calls Try.prog 49 #[v, .int .i64 k] w fun e w' => e = .returned (.int .i64 (k + (xs.length : Int))) ∧ Kp (fun b => v.ownBlock = some b) w w' ∧ OwnF 1 encB w' base 4 v (marksB k xs.length) := by
  rcases hO.form with ⟨rfl, rfl⟩ | ⟨b, cap, cs, rfl, hb, hlc, hcm, hh, hcs, hc⟩
  · go_enter Try.func49, Try.ntmps49
    go_wp2_with fail
    refine wp_loop_rounds 1 ?_
    rw [rounds_succ]
    go_wp2
    go_ret
    exact ⟨retI (by simp), Kp.refl _ _, by simpa [marksB] using hO⟩
  · have hM0 : BM w b cap 0 k := ⟨cs, hh, by omega, fun i hi => absurd hi (Nat.not_lt_zero _)⟩
    have hB := Lib.hid hb
    have hCM := Lib.hid hcm
    clear hO hh hcs hc hb hcm
    go_enter Try.func49, Try.ntmps49
    go_wp2_with fail
    go_loopw [1, 5] (fun q i wr => ∃ j : Nat, j ≤ xs.length ∧ i = .int .i64 j ∧ q = .int .i64 (k + (j : Int)) ∧ Kp (fun c => c = b) w wr ∧ BM wr b cap j k) (fun _ i _ => xs.length - (intOf i).toNat)
    case atStart => exact ⟨0, Nat.zero_le _, rfl, by go_num, Kp.refl _ _, hM0⟩
    case round =>
      obtain ⟨j, hj, rfl, rfl, hK, hM⟩ := hrel
      clear hM0
      by_cases hlt : j < xs.length
      · have hfr := hM.row.free
        obtain ⟨y0, d0⟩ := hM.row.cell j (by omega)
        have hjc : j < cap := by omega
        have hmod : (k + (j : Int)).tmod 3 = (k + (j : Int)) % 3 := Int.tmod_eq_emod_of_nonneg (by omega)
        go_wp2
        go_roundw
        case rel => exact ⟨j + 1, by omega, by go_num, by go_num, (hK.setCell (.inl rfl) _), hM.step hjc (by first | rfl | (simp [mb]))⟩
        case measure => simp [intOf]; omega
      · have hge : xs.length ≤ j := by omega
        have hj2 : Hid ((j : Int) = xs.length) := Lib.hid (by omega)
        have hM2 : BM wr b cap xs.length k := by
          have : j = xs.length := by omega
          rw [← this]; exact hM
        clear hM
        go_wp2
        go_ret
        refine ⟨retI (by rw [hj2.out]), hK.mono (fun c _ h => by rw [h]; rfl), ?_⟩
        obtain ⟨cs, h1, h2, h3⟩ := hM2
        have := OwnF.mk' (enc := encB) (n := 1) (xs := marksB k xs.length) (base := base) (cap := cap) h1 hB.out (by rw [marksB_length]; exact hlc) hCM.out (by omega) (fun i hi t ht => by
          obtain rfl : t = 0 := by omega
          rw [marksB_length] at hi
          have := h3 i hi
          simpa [marksB] using this)
        rw [marksB_length] at this
        exact this
set_option maxHeartbeats 1000000 in
theorem heldBoolS (w : World) (lo hi : Nat) (s : Value) (m : Nat) (k : Int) (hs : BoolsR w lo hi s (marksB k m)) (hk0 : 0 ≤ k) (hk1 : k ≤ 1099511627776) (hm : m ≤ 1073741824) :
    Calls Try.prog 50 #[s, .int .i64 k] w fun e w' => e = .returned (.int .i64 (k + (m : Int))) ∧ w = w' := by
  obtain ⟨a, c, rfl, _⟩ := hs.len
  rw [marksB_length] at hs ⊢
  have hml := marksB_length k m
  go_enter Try.func50, Try.ntmps50
  go_wp2_with fail
  go_loopw [1, 5] (fun q i wr => ∃ j : Nat, j ≤ m ∧ i = .int .i64 j ∧ q = .int .i64 (k + (j : Int)) ∧ wr = w) (fun _ i _ => m - (intOf i).toNat)
  case atStart => exact ⟨0, Nat.zero_le _, rfl, by go_num, by first | rfl | trivial⟩
  case round =>
    obtain ⟨j, hj, rfl, rfl, rfl⟩ := hrel
    by_cases hlt : j < m
    · obtain ⟨b, o, rfl, _, _, c0⟩ := hs.at j (by rw [hml]; exact hlt)
      have hget : (marksB k m)[j]'(by rw [hml]; exact hlt) = mb (k + (j : Nat)) := by simp [marksB]
      rw [hget] at c0
      have hmod : (k + (j : Int)).tmod 3 = (k + (j : Int)) % 3 := Int.tmod_eq_emod_of_nonneg (by omega)
      have hne : (mb (k + (j : Nat)) != mb (k + (j : Nat))) = false := by simp
      clear hget hml
      go_wp2
      go_roundw
      case rel => exact ⟨j + 1, by omega, by go_num, by go_num, by first | rfl | trivial⟩
      case measure => simp [intOf]; omega
    · have hge : m ≤ j := by omega
      have hj2 : Hid ((j : Int) = m) := Lib.hid (by omega)
      go_wp2
      go_ret
      exact ⟨retI (by rw [hj2.out]), by first | rfl | trivial⟩
set_option maxHeartbeats 1000000 in
theorem eqBoolS (w : World) (lo hi lo' hi' : Nat) (s t : Value) (xs : List Bool) (hs : BoolsR w lo hi s xs) (ht : BoolsR w lo' hi' t xs) :
    Calls Try.prog 48 #[s, t] w fun e w' => e = .returned (.bool true) ∧ New w w' := by
  obtain ⟨a, c, rfl, hl1⟩ := hs.len
  obtain ⟨a', c', rfl, _⟩ := ht.len
  have hn : (xs.length != xs.length) = false := by simp
  go_enter Try.func48, Try.ntmps48
  go_wp2_with fail
  clear hn
  go_loopw [5] (fun i wr => ∃ j : Nat, j ≤ xs.length ∧ i = .int .i64 j ∧ ∃ k, wr = w.drewN k) (fun i _ => xs.length - (intOf i).toNat)
  case atStart => exact ⟨0, Nat.zero_le _, rfl, 0, rfl⟩
  case round =>
    obtain ⟨j, hj, rfl, k, rfl⟩ := hrel
    by_cases hlt : j < xs.length
    · obtain ⟨b, o, rfl, _, _, c0⟩ := hs.at j hlt
      obtain ⟨b', o', rfl, _, _, c1⟩ := ht.at j hlt
      clear hs ht
      generalize xs[j] = x at *
      cases x
      all_goals
        go_wp2_with fail
        go_quiet (fail)
        go_wp2
        go_roundw
        case rel => exact ⟨j + 1, by omega, by go_num, _, by first | rfl | exact World.drewN_drewN _ _ _⟩
        case measure => simp [intOf]; omega
    · have hge : xs.length ≤ j := by omega
      go_wp2
      go_ret
      exact ⟨rfl, drewN_kp _ k (Kp.refl _ _)⟩
end Go.Proofs.Ytckikiaockkmbaa.BoolU
