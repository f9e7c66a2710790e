/- mark and held of the laws, on rows of the call's own: what they write and what they find. Condition: fewer than 2^30 elements. -/
import Derived.Test.YtckikiaockkmbaaLawF
namespace Go.Proofs.Ytckikiaockkmbaa
open Go.RowKit Kit
set_option linter.unusedVariables false

/-- block b: N cells; the first j elements of n cells hold k, k+1, .. -/
def Marked (w : World) (b : Nat) (T : TypeId) (N n j : Nat) (k : Int) : Prop := ∃ cs : Array Value, w.heap[b]? = some (.cells cs T (0, 0)) ∧ cs.size = N ∧ ∀ i, i < j → ∀ t, t < n → cs[i * n + t]? = some (.int .i64 (k + (i * n + t : Nat)))
namespace Marked
variable {w : World} {b : Nat} {T : TypeId} {N n j : Nat} {k : Int}
theorem row (h : Marked w b T N n j k) : Row w b N T := by obtain ⟨cs, h1, h2, _⟩ := h; exact ⟨cs, h1, h2⟩
theorem cell (h : Marked w b T N n j k) (i : Nat) (hi : i < N) : ∃ v, w.cell? ⟨b, 0 + i, none⟩ = some v := by rw [Nat.zero_add]; exact h.row.cell i hi
theorem cell1 (h : Marked w b T N n j k) (i : Nat) (hi : i < N) : ∃ v, w.cell? ⟨b, i, none⟩ = some v := h.row.cell i hi
theorem free (h : Marked w b T N n j k) : ∀ i, w.frozen? ⟨b, i, none⟩ = false := h.row.free
end Marked
def marksI (k : Int) (m : Nat) : List Int := (List.range m).map fun i : Nat => k + (i : Int)
def marksE (k : Int) (m : Nat) : List Ev := (List.range m).map fun i : Nat => (k + 2 * (i : Int), k + 2 * (i : Int) + 1)
def marksN (k : Int) (m : Nat) : List Ins := (List.range m).map fun i : Nat => ⟨k + 5 * (i : Int), k + 5 * (i : Int) + 1, k + 5 * (i : Int) + 2, k + 5 * (i : Int) + 3, k + 5 * (i : Int) + 4⟩
theorem Marked.step1 {w : World} {b : Nat} {T : TypeId} {N j : Nat} {k : Int} (h : Marked w b T N 1 j k) (hN : (j + 1) * 1 ≤ N) {x0 : Int} (e0 : x0 = k + (j * 1 + 0 : Nat)) : Marked (w.setCell ⟨b, j, none⟩ (.int .i64 x0)) b T N 1 (j + 1) k := by
  subst e0
  obtain ⟨cs, h1, h2, h3⟩ := h
  refine ⟨_, (setCell_heap h1 _), by simpa using h2, fun i hij t ht => ?_⟩
  simp only [Array.getElem?_setIfInBounds]
  by_cases e : j = i
  · subst e
    match t, ht with
    | 0, _ => simp [h2]; omega
  · rw [if_neg (by omega)]
    exact h3 i (by omega) t ht
theorem Marked.step2 {w : World} {b : Nat} {T : TypeId} {N j : Nat} {k : Int} (h : Marked w b T N 2 j k) (hN : (j + 1) * 2 ≤ N) {x0 x1 : Int} (e0 : x0 = k + (j * 2 + 0 : Nat)) (e1 : x1 = k + (j * 2 + 1 : Nat)) : Marked ((w.setCell ⟨b, j * 2, none⟩ (.int .i64 x0)).setCell ⟨b, j * 2 + 1, none⟩ (.int .i64 x1)) b T N 2 (j + 1) k := by
  subst e0; subst e1
  obtain ⟨cs, h1, h2, h3⟩ := h
  refine ⟨_, (setCell_heap (setCell_heap h1 _) _), by simpa using h2, fun i hij t ht => ?_⟩
  simp only [Array.getElem?_setIfInBounds, Array.size_setIfInBounds]
  by_cases e : j = i
  · subst e
    match t, ht with
    | 0, _ => simp [h2]; omega
    | 1, _ => simp [h2]; omega
  · rw [if_neg (by omega), if_neg (by omega)]
    exact h3 i (by omega) t ht
theorem Marked.step5 {w : World} {b : Nat} {T : TypeId} {N j : Nat} {k : Int} (h : Marked w b T N 5 j k) (hN : (j + 1) * 5 ≤ N) {x0 x1 x2 x3 x4 : Int} (e0 : x0 = k + (j * 5 + 0 : Nat)) (e1 : x1 = k + (j * 5 + 1 : Nat)) (e2 : x2 = k + (j * 5 + 2 : Nat)) (e3 : x3 = k + (j * 5 + 3 : Nat)) (e4 : x4 = k + (j * 5 + 4 : Nat)) : Marked (((((w.setCell ⟨b, j * 5, none⟩ (.int .i64 x0)).setCell ⟨b, j * 5 + 1, none⟩ (.int .i64 x1)).setCell ⟨b, j * 5 + 2, none⟩ (.int .i64 x2)).setCell ⟨b, j * 5 + 3, none⟩ (.int .i64 x3)).setCell ⟨b, j * 5 + 4, none⟩ (.int .i64 x4)) b T N 5 (j + 1) k := by
  subst e0; subst e1; subst e2; subst e3; subst e4
  obtain ⟨cs, h1, h2, h3⟩ := h
  refine ⟨_, (setCell_heap (setCell_heap (setCell_heap (setCell_heap (setCell_heap h1 _) _) _) _) _), by simpa using h2, fun i hij t ht => ?_⟩
  simp only [Array.getElem?_setIfInBounds, Array.size_setIfInBounds]
  by_cases e : j = i
  · subst e
    match t, ht with
    | 0, _ => simp [h2]; omega
    | 1, _ => simp [h2]; omega
    | 2, _ => simp [h2]; omega
    | 3, _ => simp [h2]; omega
    | 4, _ => simp [h2]; omega
  · rw [if_neg (by omega), if_neg (by omega), if_neg (by omega), if_neg (by omega), if_neg (by omega)]
    exact h3 i (by omega) t ht
theorem Marked.own1 {w : World} {base b cap : Nat} {T : TypeId} {k : Int} {m : Nat} (h : Marked w b T (cap * 1) 1 m k) (hb : base ≤ b) (hl : m ≤ cap) (hc : cap ≤ maxLen) : OwnF 1 encI w base T (.slice (some ⟨b, 0, none⟩) m cap) (marksI k m) := by
  obtain ⟨cs, h1, h2, h3⟩ := h
  have hml : (marksI k m).length = m := by simp [marksI]
  refine ⟨cs.toList.take (m * 1), ⟨?_, .inr ⟨b, cap, cs, by rw [hml], hb, h1, by rw [hml]; exact hl, hc, h2, by rw [hml]⟩⟩, fun i hi t ht => ?_⟩
  · rw [hml, List.length_take, Array.length_toList, h2]
    have : m * 1 ≤ cap * 1 := Nat.mul_le_mul_right _ hl
    omega
  · have hi' : i < m := by omega
    have hlt : i * 1 + t < m * 1 := by
      have : (i + 1) * 1 ≤ m * 1 := Nat.mul_le_mul_right _ hi'
      omega
    rw [List.getElem?_take, if_pos hlt, Array.getElem?_toList, h3 i hi' t ht]
    match t, ht with
    | 0, _ => simp [marksI, encI]
theorem Marked.own2 {w : World} {base b cap : Nat} {T : TypeId} {k : Int} {m : Nat} (h : Marked w b T (cap * 2) 2 m k) (hb : base ≤ b) (hl : m ≤ cap) (hc : cap ≤ maxLen) : OwnF 2 encE w base T (.slice (some ⟨b, 0, none⟩) m cap) (marksE k m) := by
  obtain ⟨cs, h1, h2, h3⟩ := h
  have hml : (marksE k m).length = m := by simp [marksE]
  refine ⟨cs.toList.take (m * 2), ⟨?_, .inr ⟨b, cap, cs, by rw [hml], hb, h1, by rw [hml]; exact hl, hc, h2, by rw [hml]⟩⟩, fun i hi t ht => ?_⟩
  · rw [hml, List.length_take, Array.length_toList, h2]
    have : m * 2 ≤ cap * 2 := Nat.mul_le_mul_right _ hl
    omega
  · have hi' : i < m := by omega
    have hlt : i * 2 + t < m * 2 := by
      have : (i + 1) * 2 ≤ m * 2 := Nat.mul_le_mul_right _ hi'
      omega
    rw [List.getElem?_take, if_pos hlt, Array.getElem?_toList, h3 i hi' t ht]
    match t, ht with
    | 0, _ => simp [marksE, encE]; omega
    | 1, _ => simp [marksE, encE]; omega
theorem Marked.own5 {w : World} {base b cap : Nat} {T : TypeId} {k : Int} {m : Nat} (h : Marked w b T (cap * 5) 5 m k) (hb : base ≤ b) (hl : m ≤ cap) (hc : cap ≤ maxLen) : OwnF 5 encN w base T (.slice (some ⟨b, 0, none⟩) m cap) (marksN k m) := by
  obtain ⟨cs, h1, h2, h3⟩ := h
  have hml : (marksN k m).length = m := by simp [marksN]
  refine ⟨cs.toList.take (m * 5), ⟨?_, .inr ⟨b, cap, cs, by rw [hml], hb, h1, by rw [hml]; exact hl, hc, h2, by rw [hml]⟩⟩, fun i hi t ht => ?_⟩
  · rw [hml, List.length_take, Array.length_toList, h2]
    have : m * 5 ≤ cap * 5 := Nat.mul_le_mul_right _ hl
    omega
  · have hi' : i < m := by omega
    have hlt : i * 5 + t < m * 5 := by
      have : (i + 1) * 5 ≤ m * 5 := Nat.mul_le_mul_right _ hi'
      omega
    rw [List.getElem?_take, if_pos hlt, Array.getElem?_toList, h3 i hi' t ht]
    match t, ht with
    | 0, _ => simp [marksN, encN]; omega
    | 1, _ => simp [marksN, encN]; omega
    | 2, _ => simp [marksN, encN]; omega
    | 3, _ => simp [marksN, encN]; omega
    | 4, _ => simp [marksN, encN]; omega
end Go.Proofs.Ytckikiaockkmbaa
namespace Go.Proofs.Ytckikiaockkmbaa.LawF
open Go.RowKit Kit
set_option linter.unusedVariables false

set_option maxHeartbeats 1000000 in
theorem markIntS (w : World) (base : Nat) (v : Value) (xs : List Int) (k : Int) (hO : OwnF 1 encI w base 3 v xs) (hk0 : 0 ≤ k) (hk1 : k ≤ 1099511627776) (hm : xs.length ≤ 1073741824) :
    Calls Try.prog 82 #[v, .int .i64 k] w fun e w' => e = .returned (.int .i64 (k + (xs.length : Int))) ∧ Kp (fun b => v.ownBlock = some b) w w' ∧ OwnF 1 encI w' base 3 v (marksI k xs.length) := by
  rcases hO.form with ⟨rfl, rfl⟩ | ⟨b, cap, cs, rfl, hb, hlc, hcm, hh, hcs, hc⟩
  · go_enter Try.func82, Try.ntmps82
    go_wp2_with fail
    refine wp_loop_rounds 1 ?_
    rw [rounds_succ]
    go_wp2
    go_ret
    exact ⟨retI (by simp), Kp.refl _ _, by simpa [marksI] using hO⟩
  · have hM0 : Marked w b 3 (cap * 1) 1 0 k := ⟨cs, hh, hcs, fun i hi => absurd hi (Nat.not_lt_zero _)⟩
    have hcap : xs.length * 1 ≤ cap * 1 := Nat.mul_le_mul_right _ hlc
    have hB := Lib.hid hb
    have hCM := Lib.hid hcm
    clear hO hh hcs hc hb hcm
    go_enter Try.func82, Try.ntmps82
    go_wp2_with fail
    go_loopw [1, 5] (fun q i wr => ∃ j : Nat, j ≤ xs.length ∧ i = .int .i64 j ∧ q = .int .i64 (k + (j : Int)) ∧ Kp (fun c => c = b) w wr ∧ Marked wr b 3 (cap * 1) 1 j k) (fun _ i _ => xs.length - (intOf i).toNat)
    case atStart => exact ⟨0, Nat.zero_le _, rfl, by go_num, Kp.refl _ _, hM0⟩
    case round =>
      obtain ⟨j, hj, rfl, rfl, hK, hM⟩ := hrel
      clear hM0
      by_cases hlt : j < xs.length
      · have hfr := hM.free
        obtain ⟨y0, d0⟩ := hM.cell1 j (by omega)
        go_wp2
        go_roundw
        case rel => exact ⟨j + 1, by omega, by go_num, by go_num, (hK.setCell (.inl rfl) _), hM.step1 (by omega) (by omega)⟩
        case measure => simp [intOf]; omega
      · have hge : xs.length ≤ j := by omega
        have hj2 : Hid ((j : Int) = xs.length) := Lib.hid (by omega)
        have hM2 : Marked wr b 3 (cap * 1) 1 xs.length k := by
          have : j = xs.length := by omega
          rw [← this]; exact hM
        clear hM
        go_wp2
        go_ret
        exact ⟨retI (by rw [hj2.out]), hK.mono (fun c _ h => by rw [h]; rfl), hM2.own1 hB.out hlc hCM.out⟩


set_option maxHeartbeats 1000000 in
theorem markInstrS (w : World) (base : Nat) (v : Value) (xs : List Ins) (k : Int) (hO : OwnF 5 encN w base 76 v xs) (hk0 : 0 ≤ k) (hk1 : k ≤ 1099511627776) (hm : xs.length ≤ 1073741824) :
    Calls Try.prog 36 #[v, .int .i64 k] w fun e w' => e = .returned (.int .i64 (k + 5 * (xs.length : Int))) ∧ Kp (fun b => v.ownBlock = some b) w w' ∧ OwnF 5 encN w' base 76 v (marksN k xs.length) := by
  rcases hO.form with ⟨rfl, rfl⟩ | ⟨b, cap, cs, rfl, hb, hlc, hcm, hh, hcs, hc⟩
  · go_enter Try.func36, Try.ntmps36
    go_wp2_with fail
    refine wp_loop_rounds 1 ?_
    rw [rounds_succ]
    go_wp2
    go_ret
    exact ⟨retI (by simp), Kp.refl _ _, by simpa [marksN] using hO⟩
  · have hM0 : Marked w b 76 (cap * 5) 5 0 k := ⟨cs, hh, hcs, fun i hi => absurd hi (Nat.not_lt_zero _)⟩
    have hcap : xs.length * 5 ≤ cap * 5 := Nat.mul_le_mul_right _ hlc
    have hB := Lib.hid hb
    have hCM := Lib.hid hcm
    clear hO hh hcs hc hb hcm
    go_enter Try.func36, Try.ntmps36
    go_wp2_with fail
    go_loopw [1, 5] (fun q i wr => ∃ j : Nat, j ≤ xs.length ∧ i = .int .i64 j ∧ q = .int .i64 (k + 5 * (j : Int)) ∧ Kp (fun c => c = b) w wr ∧ Marked wr b 76 (cap * 5) 5 j k) (fun _ i _ => xs.length - (intOf i).toNat)
    case atStart => exact ⟨0, Nat.zero_le _, rfl, by go_num, Kp.refl _ _, hM0⟩
    case round =>
      obtain ⟨j, hj, rfl, rfl, hK, hM⟩ := hrel
      clear hM0
      by_cases hlt : j < xs.length
      · have hfr := hM.free
        obtain ⟨y0, d0⟩ := hM.cell1 (j * 5) (by omega)
        obtain ⟨y1, d1⟩ := hM.cell1 (j * 5 + 1) (by omega)
        obtain ⟨y2, d2⟩ := hM.cell1 (j * 5 + 2) (by omega)
        obtain ⟨y3, d3⟩ := hM.cell1 (j * 5 + 3) (by omega)
        obtain ⟨y4, d4⟩ := hM.cell1 (j * 5 + 4) (by omega)
        go_wp2
        go_roundw
        case rel => exact ⟨j + 1, by omega, by go_num, by go_num, (((((hK.setCell (.inl rfl) _).setCell (.inl rfl) _).setCell (.inl rfl) _).setCell (.inl rfl) _).setCell (.inl rfl) _), hM.step5 (by omega) (by omega) (by omega) (by omega) (by omega) (by omega)⟩
        case measure => simp [intOf]; omega
      · have hge : xs.length ≤ j := by omega
        have hj2 : Hid ((j : Int) = xs.length) := Lib.hid (by omega)
        have hM2 : Marked wr b 76 (cap * 5) 5 xs.length k := by
          have : j = xs.length := by omega
          rw [← this]; exact hM
        clear hM
        go_wp2
        go_ret
        exact ⟨retI (by rw [hj2.out]), hK.mono (fun c _ h => by rw [h]; rfl), hM2.own5 hB.out hlc hCM.out⟩
set_option maxHeartbeats 1000000 in
theorem heldInstrS (w : World) (lo hi : Nat) (s : Value) (m : Nat) (k : Int) (hs : InssR w lo hi s (marksN k m)) (hk0 : 0 ≤ k) (hk1 : k ≤ 1099511627776) (hm : m ≤ 1073741824) :
    Calls Try.prog 37 #[s, .int .i64 k] w fun e w' => e = .returned (.int .i64 (k + 5 * (m : Int))) ∧ w = w' := by
  obtain ⟨a, c, rfl, _⟩ := hs.len
  have hml : (marksN k m).length = m := by simp [marksN]
  rw [hml] at hs ⊢
  have hML := Lib.hid hml; clear hml
  go_enter Try.func37, Try.ntmps37
  go_wp2_with fail
  go_loop [1, 5] (fun q i => ∃ j : Nat, j ≤ m ∧ i = .int .i64 j ∧ q = .int .i64 (k + 5 * (j : Int))) (fun _ i => m - (intOf i).toNat)
  case atStart => exact ⟨0, Nat.zero_le _, rfl, by go_num⟩
  case round =>
    obtain ⟨j, hj, rfl, rfl⟩ := hrel
    by_cases hlt : j < m
    · obtain ⟨b, o, rfl, hb1, hb2, c0, c1, c2, c3, c4⟩ := hs.at j (by rw [hML.out]; exact hlt)
      simp only [marksN, List.getElem_map, List.getElem_range] at c0 c1 c2 c3 c4
      clear hs
      go_wp2
      go_round
      case rel => exact ⟨j + 1, by omega, by go_num, by go_num⟩
      case measure => simp [intOf]; omega
    · have hge : m ≤ j := by omega
      have hj2 : Hid ((j : Int) = m) := Lib.hid (by omega)
      go_wp2
      go_ret
      exact ⟨retI (by rw [hj2.out]), rfl⟩
end Go.Proofs.Ytckikiaockkmbaa.LawF
