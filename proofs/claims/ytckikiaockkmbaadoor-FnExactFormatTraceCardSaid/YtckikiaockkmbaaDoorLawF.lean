/- Contracts of the laws' own helpers on flat slices of ints: sz, to, eq, mark, held. -/
import Derived.Test.YtckikiaockkmbaaDoorFlat
import Derived.Test.YtckikiaockkmbaaDoorChecked
import Derived.WalkKit
import Derived.ProofKit
import Derived.Deep.QuietTactic
import Derived.BigQuiet
import Derived.StillTailTactics
namespace Go.Proofs.YtckikiaockkmbaaDoor.LawF
open Go.RowKit Kit
set_option linter.unusedVariables false

theorem szIntS (w : World) (a : Option Addr) (n cap : Nat) (left : Int) (hn : n ≤ 9223372036854775807) (h0 : 0 ≤ left) (h1 : left ≤ 1048576) :
    Calls Tryd.prog 26 #[.slice a n cap, .int .i64 left] w fun e w' => e = .returned (.int .i64 (szOf left n)) ∧ w = w' := by
  by_cases h : left < n
  · have H := Lib.hid (szOf_lo h)
    go_enter Tryd.func26, Tryd.ntmps26
    go_wp2
    go_ret
    exact ⟨retI H.out.symm, rfl⟩
  · have H := Lib.hid (szOf_hi (left := left) (n := n) (by omega))
    go_enter Tryd.func26, Tryd.ntmps26
    go_wp2
    go_ret
    exact ⟨retI H.out.symm, rfl⟩

theorem infoI : (Tryd.prog.info? 3).map (fun i => (i.zero, i.size, i.bytes)) = some (some (.int .i64 0), 1, 8) := by kernel_rfl
set_option maxHeartbeats 400000 in
theorem toIntS (w : World) (lo hi : Nat) (s : Value) (xs : List Int) (hs : IntsR w lo hi s xs) (h1 : hi ≤ w.heap.size) (hm : xs.length ≤ 1048576) :
    Calls Tryd.prog 31 #[s] w fun e w' => ∃ v, e = .returned v ∧ New w w' ∧ OwnF 1 encI w' w.heap.size 3 v xs := by
  obtain ⟨a, c, rfl, hl1⟩ := hs.len
  have hmk := run_mk (P := Tryd.prog) _ _ _ _ _ Tryd.underlying29 infoI xs.length (by omega) (by omega)
  go_enter Tryd.func31, Tryd.ntmps31
  go_wp2_with fail
  clear hmk
  have hR : RowF 1 encI (w.alloc (.cells (mkCells (.int .i64 0) 1 xs.length) 3)) w.heap.size 3 xs 0 := RowF.zero _ _
  have hA : New w (w.alloc (.cells (mkCells (.int .i64 0) 1 xs.length) 3)) := (Kp.refl _ _).alloc _
  generalize w.alloc (.cells (mkCells (.int .i64 0) 1 xs.length) 3) = wA at *
  go_loopw [4] (fun i wr => ∃ j : Nat, j ≤ xs.length ∧ i = .int .i64 j ∧ New w wr ∧ RowF 1 encI wr w.heap.size 3 xs j) (fun i _ => xs.length - (intOf i).toNat)
  case atStart => exact ⟨0, Nat.zero_le _, rfl, hA, hR⟩
  case round =>
    obtain ⟨j, hj, rfl, hN, hrow⟩ := hrel
    clear hA hR
    by_cases hlt : j < xs.length
    · obtain ⟨b, o, rfl, hb1, hb2, c0⟩ := hs.at j hlt
      have g0 := (hN.cell (b := b) (by omega) (fun f => f) (o + j)).trans c0
      obtain ⟨x0, d0⟩ := hrow.row.cell j (by omega)
      have f0 := hrow.row.free j
      clear c0
      go_wp2
      go_roundw
      case rel => exact ⟨j + 1, by omega, by go_num, hN.setCell (.inr (Nat.le_refl _)) _, hrow.step1 hlt rfl⟩
      case measure => simp [intOf]; omega
    · have hge : xs.length ≤ j := by omega
      have hF : RowF 1 encI wr w.heap.size 3 xs xs.length := by
        have : j = xs.length := by omega
        rw [← this]; exact hrow
      clear hrow
      go_wp2
      go_ret
      exact ⟨_, rfl, hN, hF.own (by unfold maxLen; omega)⟩

set_option maxHeartbeats 400000 in
theorem eqIntS (w : World) (lo hi lo' hi' : Nat) (s t : Value) (xs ys : List Int) (hs : IntsR w lo hi s xs) (ht : IntsR w lo' hi' t ys) :
    Calls Tryd.prog 36 #[s, t] w fun e w' => e = .returned (.bool (decide (xs = ys))) ∧ ∃ k, w' = w.drewN k := by
  obtain ⟨a, c, rfl, hl1⟩ := hs.len
  obtain ⟨a', c', rfl, hl2⟩ := ht.len
  by_cases hlen : xs.length = ys.length
  · have hL := Lib.hid hlen
    have hq3 : ((xs.length : Int) != (ys.length : Int)) = false := by simp [hlen]
    have hle : ys.length ≤ xs.length := by omega
    have hge : xs.length ≤ ys.length := by omega
    clear hlen
    go_enter Tryd.func36, Tryd.ntmps36
    go_wp2_with fail
    go_loopw [5] (fun i wr => ∃ j : Nat, j ≤ xs.length ∧ i = .int .i64 j ∧ (∃ k, wr = w.drewN k) ∧ Hid (decide (xs = ys) = decide (xs.drop j = ys.drop j))) (fun i _ => xs.length - (intOf i).toNat)
    case atStart => exact ⟨0, Nat.zero_le _, rfl, ⟨0, rfl⟩, Lib.hid rfl⟩
    case round =>
      obtain ⟨j, hj, rfl, ⟨k, rfl⟩, hD⟩ := hrel
      by_cases hlt : j < xs.length
      · obtain ⟨b, o, rfl, hb1, hb2, c0⟩ := hs.at j hlt
        obtain ⟨b', o', rfl, hb1', hb2', c0'⟩ := ht.at j (by omega)
        have hlt2 : j < ys.length := by omega
        have hD2 : Hid (decide (xs = ys) = (xs[j] == ys[j] && decide (xs.drop (j + 1) = ys.drop (j + 1)))) := Lib.hid (by
          rw [hD.out, List.drop_eq_getElem_cons hlt, List.drop_eq_getElem_cons hlt2]; simp only [List.cons.injEq, Bool.decide_and]; rfl)
        clear hD hs ht
        generalize xs[j] = x at *
        generalize ys[j] = y at *
        by_cases hxy : x = y
        · subst hxy
          go_wp2_with fail
          go_quiet (fail)
          go_wp2
          go_roundw
          case rel => exact ⟨j + 1, by omega, by go_num, ⟨_, rfl⟩, Lib.hid (by rw [hD2.out]; simp)⟩
          case measure => simp [intOf]; omega
        · have hb : (x != y) = true := by simp [hxy]
          have hb2 : (x == y) = false := by simp [hxy]
          have hfin := Lib.hid (show decide (xs = ys) = false by rw [hD2.out, hb2]; rfl)
          go_wp2_with fail
          go_quiet (fail)
          go_wp2
          go_ret
          exact ⟨retB hfin.out.symm, ⟨_, World.drewN_drewN _ _ _⟩⟩
      · have hfin := Lib.hid (show decide (xs = ys) = true by rw [hD.out, List.drop_of_length_le (by omega), List.drop_of_length_le (by have := hL.out; omega)]; rfl)
        have hge2 : xs.length ≤ j := by omega
        clear hD
        go_wp2
        go_ret
        exact ⟨retB hfin.out.symm, ⟨_, rfl⟩⟩
  · have hq : ((xs.length : Int) != (ys.length : Int)) = true := by simp; omega
    have hfin := Lib.hid (show decide (xs = ys) = false by
      rw [decide_eq_false_iff_not]; intro e; exact hlen (by rw [e]))
    clear hlen
    go_enter Tryd.func36, Tryd.ntmps36
    go_wp2
    go_ret
    exact ⟨retB hfin.out.symm, 0, rfl⟩

theorem szEventS (w : World) (a : Option Addr) (n cap : Nat) (left : Int) (hn : n ≤ 9223372036854775807) (h0 : 0 ≤ left) (h1 : left ≤ 1048576) :
    Calls Tryd.prog 6 #[.slice a n cap, .int .i64 left] w fun e w' => e = .returned (.int .i64 (szOf left n)) ∧ w = w' := by
  by_cases h : left < n
  · have H := Lib.hid (szOf_lo h)
    go_enter Tryd.func6, Tryd.ntmps6
    go_wp2
    go_ret
    exact ⟨retI H.out.symm, rfl⟩
  · have H := Lib.hid (szOf_hi (left := left) (n := n) (by omega))
    go_enter Tryd.func6, Tryd.ntmps6
    go_wp2
    go_ret
    exact ⟨retI H.out.symm, rfl⟩


theorem infoEvent : (Tryd.prog.info? 54).map (fun i => (i.zero, i.size, i.bytes)) = some (some (.agg #[.int .i64 0, .int .i64 0]), 2, 16) := by kernel_rfl
set_option maxHeartbeats 400000 in
theorem toEvent (w : World) (x0 x1 : Int) : Calls Tryd.prog 21 #[.agg #[.int .i64 x0, .int .i64 x1]] w fun e w' => e = .returned (.agg #[.int .i64 x0, .int .i64 x1]) ∧ New w w' := by
  go_enter Tryd.func21, Tryd.ntmps21
  go_wp2
  refine bodyPost_ret (results_cell_row rfl _ _ _ _ _ _ _ rfl (heap_old (heap_at (by simp))) Tryd.underlying54 rfl (by kernel_rfl)) rfl ⟨rfl, ?_⟩
  exact (((Kp.refl _ _).alloc _).alloc _).alloc _
set_option maxHeartbeats 400000 in
theorem toEventS (w : World) (lo hi : Nat) (s : Value) (xs : List Ev) (hs : EvsR w lo hi s xs) (h1 : hi ≤ w.heap.size) (hm : xs.length ≤ 1048576) :
    Calls Tryd.prog 8 #[s] w fun e w' => ∃ v, e = .returned v ∧ New w w' ∧ OwnF 2 encE w' w.heap.size 54 v xs := by
  obtain ⟨a, c, rfl, hl1⟩ := hs.len
  have hmk := run_mk (P := Tryd.prog) _ _ _ _ _ Tryd.underlying25 infoEvent xs.length (by omega) (by omega)
  go_enter Tryd.func8, Tryd.ntmps8
  go_wp2_with fail
  clear hmk
  have hR : RowF 2 encE (w.alloc (.cells (mkCells (.agg #[.int .i64 0, .int .i64 0]) 2 xs.length) 54)) w.heap.size 54 xs 0 := RowF.zero _ _
  have hA : New w (w.alloc (.cells (mkCells (.agg #[.int .i64 0, .int .i64 0]) 2 xs.length) 54)) := (Kp.refl _ _).alloc _
  generalize w.alloc (.cells (mkCells (.agg #[.int .i64 0, .int .i64 0]) 2 xs.length) 54) = wA at *
  go_loopw [4] (fun i wr => ∃ j : Nat, j ≤ xs.length ∧ i = .int .i64 j ∧ New w wr ∧ RowF 2 encE wr w.heap.size 54 xs j) (fun i _ => xs.length - (intOf i).toNat)
  case atStart => exact ⟨0, Nat.zero_le _, rfl, hA, hR⟩
  case round =>
    obtain ⟨j, hj, rfl, hN, hrow⟩ := hrel
    clear hA hR
    by_cases hlt : j < xs.length
    · obtain ⟨b, o, rfl, hb1, hb2, c0, c1⟩ := hs.at j hlt
      have g0 := (hN.cell (b := b) (by omega) (fun f => f) (o + j * 2)).trans c0
      have g1 := (hN.cell (b := b) (by omega) (fun f => f) (o + j * 2 + 1)).trans c1
      clear c0 c1
      go_wp2_with fail
      refine (toEvent _ _ _).mono ?_
      rintro r w1 ⟨rfl, hn⟩
      have hrow1 := hrow.new hn
      obtain ⟨y0, d0⟩ := hrow1.row.cell (j * 2) (by omega)
      obtain ⟨y1, d1⟩ := hrow1.row.cell (j * 2 + 1) (by omega)
      have f0 := hrow1.row.free
      have hN1 : New w w1 := hN.trans hn
      clear g0 g1 hrow hn hN
      go_wp2
      go_roundw
      case rel => exact ⟨j + 1, by omega, by go_num, ((hN1.setCell (.inr (Nat.le_refl _)) _).setCell (.inr (Nat.le_refl _)) _), hrow1.step2 hlt rfl rfl⟩
      case measure => simp [intOf]; omega
    · have hge : xs.length ≤ j := by omega
      have hF : RowF 2 encE wr w.heap.size 54 xs xs.length := by
        have : j = xs.length := by omega
        rw [← this]; exact hrow
      clear hrow
      go_wp2
      go_ret
      exact ⟨_, rfl, hN, hF.own (by unfold maxLen; omega)⟩
theorem eqEvent (w : World) (x0 x1 u0 u1 : Int) : Calls Tryd.prog 25 #[.agg #[.int .i64 x0, .int .i64 x1], .agg #[.int .i64 u0, .int .i64 u1]] w fun e w' => e = .returned (.bool (x0 == u0 && x1 == u1)) ∧ New w w' := by
  by_cases h0 : x0 = u0
  · by_cases h1 : x1 = u1
    · subst h0 h1
      go_enter Tryd.func25, Tryd.ntmps25
      go_wp2
      go_ret
      exact ⟨retB (by simp), ((Kp.refl _ _).alloc _).alloc _⟩
    · have n1 : (x1 != u1) = true := by simp [h1]
      subst h0
      go_enter Tryd.func25, Tryd.ntmps25
      go_wp2
      go_ret
      exact ⟨retB (by simp [h1]), ((Kp.refl _ _).alloc _).alloc _⟩
  · have n0 : (x0 != u0) = true := by simp [h0]
    go_enter Tryd.func25, Tryd.ntmps25
    go_wp2
    go_ret
    exact ⟨retB (by simp [h0]), ((Kp.refl _ _).alloc _).alloc _⟩
set_option maxHeartbeats 1000000 in
theorem eqEventS (w : World) (lo hi lo' hi' : Nat) (s t : Value) (xs ys : List Ev) (hs : EvsR w lo hi s xs) (ht : EvsR w lo' hi' t ys) (h1 : hi ≤ w.heap.size) (h2 : hi' ≤ w.heap.size) :
    Calls Tryd.prog 10 #[s, t] w fun e w' => e = .returned (.bool (decide (xs = ys))) ∧ New w w' := by
  obtain ⟨a, c, rfl, hl1⟩ := hs.len
  obtain ⟨a', c', rfl, hl2⟩ := ht.len
  by_cases hlen : xs.length = ys.length
  · have hL := Lib.hid hlen
    have hq3 : ((xs.length : Int) != (ys.length : Int)) = false := by simp [hlen]
    have hle : ys.length ≤ xs.length := by omega
    have hge : xs.length ≤ ys.length := by omega
    clear hlen
    go_enter Tryd.func10, Tryd.ntmps10
    go_wp2_with fail
    go_loopw [5] (fun i wr => ∃ j : Nat, j ≤ xs.length ∧ i = .int .i64 j ∧ New w wr ∧ Hid (decide (xs = ys) = decide (xs.drop j = ys.drop j))) (fun i _ => xs.length - (intOf i).toNat)
    case atStart => exact ⟨0, Nat.zero_le _, rfl, Kp.refl _ _, Lib.hid rfl⟩
    case round =>
      obtain ⟨j, hj, rfl, hN, hD⟩ := hrel
      by_cases hlt : j < xs.length
      · obtain ⟨b, o, rfl, hb1, hb2, c0, c1⟩ := hs.at j hlt
        obtain ⟨b', o', rfl, hb1', hb2', c0', c1'⟩ := ht.at j (by omega)
        have hlt2 : j < ys.length := by omega
        have g0 := (hN.cell (b := b) (by omega) (fun f => f) (o + j * 2)).trans c0
        have g1 := (hN.cell (b := b) (by omega) (fun f => f) (o + j * 2 + 1)).trans c1
        have g0' := (hN.cell (b := b') (by omega) (fun f => f) (o' + j * 2)).trans c0'
        have g1' := (hN.cell (b := b') (by omega) (fun f => f) (o' + j * 2 + 1)).trans c1'
        have hD2 : Hid (decide (xs = ys) = ((xs[j].1 == ys[j].1 && xs[j].2 == ys[j].2) && decide (xs.drop (j + 1) = ys.drop (j + 1)))) := Lib.hid (by
          rw [hD.out, List.drop_eq_getElem_cons hlt, List.drop_eq_getElem_cons hlt2]
          generalize xs[j] = x
          generalize ys[j] = y
          cases x; cases y
          rw [Bool.eq_iff_iff]
          simp [List.cons.injEq, and_assoc])
        clear hD hs ht c0 c1 c0' c1'
        generalize xs[j] = x at *
        generalize ys[j] = y at *
        go_wp2_with fail
        set_option maxRecDepth 100000 in go_still_tail 8, (by kernel_rfl)
        change wpList _ _ _ _ _ wr.drew
        go_wp2_with fail
        refine (eqEvent _ _ _ _ _).mono ?_
        rintro r w1 ⟨rfl, hn⟩
        have hN1 : New w w1 := hN.drew.trans hn
        cases hb : (x.1 == y.1 && x.2 == y.2)
        · go_wp2
          go_ret
          exact ⟨retB (by rw [hD2.out, hb]; simp), hN1⟩
        · go_wp2
          go_roundw
          case rel => exact ⟨j + 1, by omega, by go_num, hN1, Lib.hid (by rw [hD2.out, hb]; simp)⟩
          case measure => simp [intOf]; omega
      · have hfin := Lib.hid (show decide (xs = ys) = true by rw [hD.out, List.drop_of_length_le (by omega), List.drop_of_length_le (by have := hL.out; omega)]; rfl)
        have hge2 : xs.length ≤ j := by omega
        clear hD
        go_wp2
        go_ret
        exact ⟨retB hfin.out.symm, hN⟩
  · have hq : ((xs.length : Int) != (ys.length : Int)) = true := by simp; omega
    have hfin := Lib.hid (show decide (xs = ys) = false by
      rw [decide_eq_false_iff_not]; intro e; exact hlen (by rw [e]))
    clear hlen
    go_enter Tryd.func10, Tryd.ntmps10
    go_wp2
    go_ret
    exact ⟨retB hfin.out.symm, Kp.refl _ _⟩

end Go.Proofs.YtckikiaockkmbaaDoor.LawF
