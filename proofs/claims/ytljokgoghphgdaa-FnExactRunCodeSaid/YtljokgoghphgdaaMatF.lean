/- szIntSS, toIntSS, eqIntSS of laws: lists of lists of ints. Condition: at most 2^20 elements. -/
import Derived.Test.YtljokgoghphgdaaLawF
namespace Go.Proofs.Ytljokgoghphgdaa
open Go.RowKit Kit
set_option linter.unusedVariables false
/-- how much a matrix takes -/
def msz : List (List Int) → Nat | [] => 0 | x :: l => x.length + 1 + msz l
theorem msz_len : ∀ l : List (List Int), l.length ≤ msz l
  | [] => Nat.le_refl _
  | x :: l => by have := msz_len l; simp [msz]; omega
theorem msz_get : ∀ (l : List (List Int)) (i : Nat) (h : i < l.length), l[i].length + 1 ≤ msz l
  | x :: l, 0, _ => by simp [msz]
  | x :: l, i + 1, h => by have := msz_get l i (by simpa using h); simp [msz]; omega
theorem msz_take_drop : ∀ (l : List (List Int)) (j : Nat), msz l = msz (l.take j) + msz (l.drop j)
  | [], j => by simp [msz]
  | e :: es, 0 => by simp [msz]
  | e :: es, j + 1 => by have := msz_take_drop es j; simp [msz]; omega
theorem msz_take_succ (l : List (List Int)) (j : Nat) (h : j < l.length) : msz (l.take (j + 1)) = msz (l.take j) + (l[j].length + 1) := by
  have h1 := msz_take_drop (l.take (j + 1)) j
  rw [List.take_take, Nat.min_eq_left (Nat.le_succ j)] at h1
  rw [h1]; congr 1
  rw [List.take_succ_eq_append_getElem h, List.drop_append_of_le_length (by simp; omega), List.drop_of_length_le (by simp; omega)]
  simp [msz]
/-- the first j rows lie in block b, their elements behind it -/
def FilledM (w : World) (b : Nat) (l : List (List Int)) (j : Nat) : Prop := ∃ S : Nat → Value, ∀ i (hi : i < l.length), i < j → w.cell? ⟨b, i, none⟩ = some (S i) ∧ IntsR w (b + 1) w.heap.size (S i) l[i]
namespace FilledM
theorem zero (w : World) (b : Nat) (l : List (List Int)) : FilledM w b l 0 := ⟨fun _ => .nilIface, fun i _ h => absurd h (Nat.not_lt_zero _)⟩
theorem new {w w' : World} {b : Nat} {l : List (List Int)} {j : Nat} (h : FilledM w b l j) (hb : b < w.heap.size) (k : New w w') : FilledM w' b l j := by
  obtain ⟨S, h⟩ := h
  exact ⟨S, fun i hi hj => ⟨by rw [k.cell hb (fun f => f)]; exact (h i hi hj).1, ((h i hi hj).2.new (Nat.le_refl _) k).mono (Nat.le_refl _) k.size⟩⟩
theorem step {w : World} {b : Nat} {T : TypeId} {l : List (List Int)} {j : Nat} (h : FilledM w b l j) (hr : Row w b (l.length * 1) T) (hj : j < l.length) {s : Value} (hs : IntsR w (b + 1) w.heap.size s l[j]) : FilledM (w.setCell ⟨b, j, none⟩ s) b l (j + 1) := by
  obtain ⟨S, h⟩ := h
  obtain ⟨cs, hh, hn⟩ := hr.is
  have hsz : (w.setCell ⟨b, j, none⟩ s).heap.size = w.heap.size := by simp
  refine ⟨fun i => if i = j then s else S i, fun i hi hij => ?_⟩
  have hc : (w.setCell ⟨b, j, none⟩ s).cell? ⟨b, i, none⟩ = (cs.setIfInBounds j s)[i]? := cell_of_heap (setCell_heap hh s) i
  rw [hsz]
  by_cases e : i = j
  · subst e
    have hz : i < cs.size := by omega
    simp only [↓reduceIte]
    refine ⟨by rw [hc, Array.getElem?_setIfInBounds, if_pos rfl, if_pos hz], hs.set (.inl (by omega)) _ _⟩
  · simp only [if_neg e]
    have h2 := h i hi (by omega)
    refine ⟨by rw [hc, Array.getElem?_setIfInBounds, if_neg (by omega), ← cell_of_heap hh i]; exact h2.1, h2.2.set (.inl (by omega)) _ _⟩
theorem done {w : World} {b : Nat} {l : List (List Int)} (h : FilledM w b l l.length) (hb : b < w.heap.size) (hm : l.length ≤ 9223372036854775807) : MatR w b w.heap.size (.slice (some ⟨b, 0, none⟩) l.length l.length) l := by
  obtain ⟨S, h⟩ := h
  by_cases h0 : 0 < l.length
  · exact .cons b 0 l.length l S h0 (Nat.le_refl _) hb (Nat.le_refl _) hm (fun i hi => by rw [Nat.zero_add]; exact (h i hi hi).1) (fun i hi => ((h i hi hi).2).mono (by omega) (Nat.le_refl _))
  · obtain rfl := List.eq_nil_of_length_eq_zero (by omega : l.length = 0)
    exact .nil _ _
end FilledM
end Go.Proofs.Ytljokgoghphgdaa
namespace Go.Proofs.Ytljokgoghphgdaa.MatF
open Go.RowKit Kit
set_option linter.unusedVariables false
set_option maxHeartbeats 1000000 in
theorem szIntSS (w : World) (lo hi : Nat) (s : Value) (l : List (List Int)) (left : Int) (hs : MatR w lo hi s l) (h0 : 0 ≤ left) (hm : left ≤ 1048576) :
    Calls Try.prog 78 #[s, .int .i64 left] w fun e w' => e = .returned (.int .i64 (szOf left (msz l))) ∧ w = w' := by
  obtain ⟨a, c, rfl, hl1⟩ := hs.len
  have hlen := msz_len l
  by_cases hc0 : ((l.length : Nat) : Int) ≤ left
  · go_enter Try.func78, Try.ntmps78
    go_wp2_with fail
    go_loop [1, 5] (fun q i => ∃ (j : Nat) (L : Int), j ≤ l.length ∧ i = .int .i64 j ∧ q = .int .i64 L ∧ 0 ≤ L ∧ L ≤ 1048576 ∧ Hid (L = left - l.length + j - (msz (l.take j) : Nat))) (fun _ i => l.length - (intOf i).toNat)
    case atStart => exact ⟨0, _, Nat.zero_le _, rfl, rfl, by omega, by omega, Lib.hid (by simp [msz])⟩
    case round =>
      obtain ⟨j, L, hj, rfl, rfl, hL0, hL1, hL⟩ := hrel
      by_cases hlt : j < l.length
      · obtain ⟨b, o, s, rfl, hb1, hb2, c0, hs1⟩ := hs.at' j hlt
        obtain ⟨ra, rc, rfl, hrl⟩ := hs1.len
        have ht := msz_take_succ l j hlt
        have ht2 := msz_take_drop l (j + 1)
        have ht3 := msz_len (l.drop (j + 1))
        rw [List.length_drop] at ht3
        have hT := Lib.hid ht; have hT2 := Lib.hid ht2; have hT3 := Lib.hid ht3
        clear hs1 hs ht ht2 ht3
        generalize l[j] = x at *
        go_wp2_with fail
        refine (LawF.szIntS _ _ _ _ L hrl hL0 hL1).mono ?_
        rintro r w1 ⟨rfl, rfl⟩
        by_cases hc : ((x.length : Nat) : Int) ≤ L
        · rw [szOf_hi hc]
          have hq0 : 0 ≤ L - (x.length : Nat) := by omega
          have hq1 : L - ((x.length : Nat) : Int) ≤ 1048576 := by omega
          have hq2 := Lib.hid (show L - ((x.length : Nat) : Int) = left - l.length + (j + 1 : Nat) - (msz (l.take (j + 1)) : Nat) by have := hL.out; have := hT.out; omega)
          generalize L - ((x.length : Nat) : Int) = q at *
          clear hc hL
          go_wp2
          go_round
          case rel => exact ⟨j + 1, q, by omega, by go_num, rfl, hq0, hq1, hq2⟩
          case measure => simp [intOf]; omega
        · rw [szOf_lo (by omega)]
          have hfin := Lib.hid (szOf_lo (left := left) (n := msz l) (by have := hL.out; have := hT.out; have := hT2.out; have := hT3.out; omega))
          clear hc hL
          go_wp2
          go_ret
          exact ⟨retI hfin.out.symm, rfl⟩
      · have hge : l.length ≤ j := by omega
        have hfin := Lib.hid (show L = szOf left (msz l) by
          have h := hL.out
          rw [List.take_of_length_le hge] at h
          have : j = l.length := by omega
          subst this
          rw [szOf_hi (by omega)]; omega)
        clear hL hs
        go_wp2
        go_ret
        exact ⟨retI hfin.out, rfl⟩
  · have hfin := Lib.hid (szOf_lo (left := left) (n := msz l) (by omega))
    go_enter Try.func78, Try.ntmps78
    go_wp2
    go_ret
    exact ⟨retI hfin.out.symm, rfl⟩
theorem infoM : (Try.prog.info? 23).map (fun i => (i.zero, i.size, i.bytes)) = some (some (.slice none 0 0), 1, 24) := by kernel_rfl
set_option maxHeartbeats 1000000 in
theorem toIntSS (w : World) (lo hi : Nat) (s : Value) (l : List (List Int)) (hs : MatR w lo hi s l) (h1 : hi ≤ w.heap.size) (hm : msz l ≤ 1048576) :
    Calls Try.prog 81 #[s] w fun e w' => ∃ v, e = .returned v ∧ New w w' ∧ MatR w' w.heap.size w'.heap.size v l := by
  obtain ⟨a, c, rfl, hl1⟩ := hs.len
  have hlen : l.length ≤ 1048576 := by have := msz_len l; omega
  have hmk := run_mk (P := Try.prog) _ _ _ _ _ Try.underlying27 infoM l.length (by omega) (by omega)
  go_enter Try.func81, Try.ntmps81
  go_wp2_with fail
  clear hmk
  have hR : Row (w.alloc (.cells (mkCells (.slice none 0 0) 1 l.length) 23)) w.heap.size (l.length * 1) 23 := Row.mk' _ _ _ _ _
  have hA : New w (w.alloc (.cells (mkCells (.slice none 0 0) 1 l.length) 23)) := (Kp.refl _ _).alloc _
  generalize w.alloc (.cells (mkCells (.slice none 0 0) 1 l.length) 23) = wA at *
  go_loopw [4] (fun i wr => ∃ j : Nat, j ≤ l.length ∧ i = .int .i64 j ∧ New w wr ∧ Row wr w.heap.size (l.length * 1) 23 ∧ FilledM wr w.heap.size l j) (fun i _ => l.length - (intOf i).toNat)
  case atStart => exact ⟨0, Nat.zero_le _, rfl, hA, hR, FilledM.zero _ _ _⟩
  case round =>
    obtain ⟨j, hj, rfl, hN, hrow, hF⟩ := hrel
    clear hA hR
    by_cases hlt : j < l.length
    · obtain ⟨b, o, s, rfl, hb1, hb2, c0, hs1⟩ := hs.at' j hlt
      have g0 := (hN.cell (b := b) (by omega) (fun f => f) (o + j)).trans c0
      have k1 : IntsR wr lo hi s l[j] := hs1.new h1 hN
      have hsm : l[j].length ≤ 1048576 := by have := msz_get l j hlt; omega
      clear c0 hs1 hs
      go_wp2_with fail
      refine (LawF.toIntS _ _ _ _ _ k1 (by have := hN.size; omega) hsm).mono ?_
      rintro r w1 ⟨t, rfl, hn, ht⟩
      obtain ⟨ta, tc, rfl, _⟩ := ht.reads.len
      have hrow1 := hrow.new hn
      obtain ⟨x0, d0⟩ := hrow1.cell j (by omega)
      have hfr := hrow1.free
      have hF1 := hF.new hrow.lt hn
      have hN1 : New w w1 := hN.trans hn
      have ht1 := ht.reads.mono (lo' := w.heap.size + 1) (by have := hrow.lt; omega) (Nat.le_refl _)
      clear g0 k1 hrow hF hn ht hN
      go_wp2
      go_roundw
      case rel => exact ⟨j + 1, by omega, by go_num, hN1.setCell (.inr (Nat.le_refl _)) _, hrow1.set _ _, hF1.step hrow1 hlt ht1⟩
      case measure => simp [intOf]; omega
    · have hge : l.length ≤ j := by omega
      have hF2 : FilledM wr w.heap.size l l.length := by
        have : j = l.length := by omega
        rw [← this]; exact hF
      clear hF
      go_wp2
      go_ret
      exact ⟨_, rfl, hN, hF2.done hrow.lt hl1⟩
set_option maxHeartbeats 1000000 in
theorem eqIntSS (w : World) (lo hi lo' hi' : Nat) (s t : Value) (xs ys : List (List Int)) (hs : MatR w lo hi s xs) (ht : MatR w lo' hi' t ys) (h1 : hi ≤ w.heap.size) (h2 : hi' ≤ w.heap.size) :
    Calls Try.prog 84 #[s, t] w fun e w' => e = .returned (.bool (decide (xs = ys))) ∧ ∃ k, w' = w.drewN k := by
  obtain ⟨a, c, rfl, hl1⟩ := hs.len
  obtain ⟨a', c', rfl, hl2⟩ := ht.len
  by_cases hlen : xs.length = ys.length
  · have hL := Lib.hid hlen
    have hq3 : ((xs.length : Int) != (ys.length : Int)) = false := by simp [hlen]
    have hle : ys.length ≤ xs.length := by omega
    have hge : xs.length ≤ ys.length := by omega
    clear hlen
    go_enter Try.func84, Try.ntmps84
    go_wp2_with fail
    go_loopw [5] (fun i wr => ∃ j : Nat, j ≤ xs.length ∧ i = .int .i64 j ∧ (∃ k, wr = w.drewN k) ∧ Hid (decide (xs = ys) = decide (xs.drop j = ys.drop j))) (fun i _ => xs.length - (intOf i).toNat)
    case atStart => exact ⟨0, Nat.zero_le _, rfl, ⟨0, rfl⟩, Lib.hid rfl⟩
    case round =>
      obtain ⟨j, hj, rfl, ⟨k, rfl⟩, hD⟩ := hrel
      by_cases hlt : j < xs.length
      · obtain ⟨b, o, s, rfl, hb1, hb2, c0, q0⟩ := hs.at' j hlt
        obtain ⟨b', o', t, rfl, hb1', hb2', c0', q0'⟩ := ht.at' j (by omega)
        have hlt2 : j < ys.length := by omega
        have hD2 : Hid (decide (xs = ys) = (decide (xs[j] = ys[j]) && decide (xs.drop (j + 1) = ys.drop (j + 1)))) := Lib.hid (by
          rw [hD.out, List.drop_eq_getElem_cons hlt, List.drop_eq_getElem_cons hlt2]; simp only [List.cons.injEq, Bool.decide_and])
        clear hD hs ht
        generalize xs[j] = x at *
        generalize ys[j] = y at *
        have Q := Lib.hid (show ∀ n, Calls Try.prog 82 #[s, t] (w.drewN (k + n)) fun e w' => e = .returned (.bool (decide (x = y))) ∧ ∃ m, w' = w.drewN (k + m) from fun n =>
          (LawF.eqIntS _ _ _ _ _ _ _ _ _ (q0.kp (drewN_kp (fun _ => False) (k + n) (Kp.refl _ _)) h1 (fun _ f => f.elim)) (q0'.kp (drewN_kp (fun _ => False) (k + n) (Kp.refl _ _)) h2 (fun _ f => f.elim))).mono
            fun e w' ⟨he, m, hw⟩ => ⟨he, n + m, by rw [hw, World.drewN_drewN, Nat.add_assoc]⟩)
        clear q0 q0'
        cases hxy : decide (x = y)
        · rw [hxy] at Q
          have hfin := Lib.hid (show decide (xs = ys) = false by rw [hD2.out, hxy]; rfl)
          go_wp2_with fail
          go_quiet ((go_at_call 82; exact Q.out _))
          go_wp2
          go_ret
          exact ⟨retB hfin.out.symm, ⟨_, World.drewN_drewN _ _ _⟩⟩
        · rw [hxy] at Q
          go_wp2_with fail
          go_quiet ((go_at_call 82; exact Q.out _))
          go_wp2
          go_roundw
          case rel => exact ⟨j + 1, by omega, by go_num, ⟨_, rfl⟩, Lib.hid (by rw [hD2.out, hxy]; rfl)⟩
          case measure => simp [intOf]; omega
      · have hfin := Lib.hid (show decide (xs = ys) = true by rw [hD.out, List.drop_of_length_le (by omega), List.drop_of_length_le (by have := hL.out; omega)]; rfl)
        have hge2 : xs.length ≤ j := by omega
        clear hD
        go_wp2
        go_ret
        exact ⟨retB hfin.out.symm, ⟨_, rfl⟩⟩
  · have hq : ((xs.length : Int) != (ys.length : Int)) = true := by simp; omega
    have hfin := Lib.hid (show decide (xs = ys) = false by
      rw [decide_eq_false_iff_not]; intro e; exact hlen (by rw [e]))
    clear hlen
    go_enter Try.func84, Try.ntmps84
    go_wp2
    go_ret
    exact ⟨retB hfin.out.symm, 0, rfl⟩
end Go.Proofs.Ytljokgoghphgdaa.MatF
