/- szStmt, szStmtS of laws. Condition: at most 2^20 nodes. -/
import Derived.Test.YtckikiaockkmbaaDoorYP4
import Derived.Test.YtckikiaockkmbaaDoorYP2
import Derived.Test.YtckikiaockkmbaaDoorYP1
namespace Go.Proofs.YtckikiaockkmbaaDoor.SzS
open Go.RowKit Kit
set_option linter.unusedVariables false
def Does (n : Nat) : Prop := ∀ (w : World) (lo hi : Nat) (s : Value) (l : List St) (left : Int), St.sizes l < n → StsR w lo hi s l → hi ≤ w.heap.size → 0 ≤ left → left ≤ 1048576 →
  Calls Tryd.prog 27 #[s, .int .i64 left] w fun e w' => e = .returned (.int .i64 (szOf left (St.sizes l))) ∧ New w w'
set_option maxHeartbeats 1000000 in
theorem szStmt_step (n : Nat) (H : Does n) (w : World) (lo hi : Nat) (k t ik iv vk vv c : Int) (si sv sb se : Value) (li lv : List Ex) (lb le : List St) (left : Int) (q1 : St.sizes lb < n) (q2 : St.sizes le < n) (ri : KidsR w lo hi si li) (rv : KidsR w lo hi sv lv) (rb : StsR w lo hi sb lb) (re : StsR w lo hi se le) (h1 : hi ≤ w.heap.size) (h0 : 0 ≤ left) (hm : left ≤ 1048576) :
    Calls Tryd.prog 47 #[.agg #[.int .i64 k, .int .i64 t, .int .i64 ik, .int .i64 iv, si, .int .i64 vk, .int .i64 vv, sv, .int .i64 c, sb, se], .int .i64 left] w fun e w' => e = .returned (.int .i64 (szOf left (Ex.sizes li + Ex.sizes lv + St.sizes lb + St.sizes le))) ∧ New w w' := by
  have HH := Lib.hid H; clear H
  go_enter Tryd.func47, Tryd.ntmps47
  go_wp2_with fail
  have N0 : New w (w.alloc (.cells #[.int .i64 k, .int .i64 t, .int .i64 ik, .int .i64 iv, si, .int .i64 vk, .int .i64 vv, sv, .int .i64 c, sb, se] 89)) := ((Kp.refl _ _).alloc _)
  have bA_0 : (w.alloc (.cells #[.int .i64 k, .int .i64 t, .int .i64 ik, .int .i64 iv, si, .int .i64 vk, .int .i64 vv, sv, .int .i64 c, sb, se] 89)).heap[w.heap.size]? = some (.cells #[.int .i64 k, .int .i64 t, .int .i64 ik, .int .i64 iv, si, .int .i64 vk, .int .i64 vv, sv, .int .i64 c, sb, se] 89) := alloc_heap _ _
  have z0 : w.heap.size < (w.alloc (.cells #[.int .i64 k, .int .i64 t, .int .i64 ik, .int .i64 iv, si, .int .i64 vk, .int .i64 vv, sv, .int .i64 c, sb, se] 89)).heap.size := by simp
  generalize (w.alloc (.cells #[.int .i64 k, .int .i64 t, .int .i64 ik, .int .i64 iv, si, .int .i64 vk, .int .i64 vv, sv, .int .i64 c, sb, se] 89)) = w0 at *
  refine (SzE.szExpr _ lo hi _ _ _ _ (left) (ri.new h1 N0) (by omega) (by omega) (by omega)).mono ?_
  rintro e w1 ⟨rfl, hn1⟩
  have z1 := hn1.size
  have N1 : New w w1 := N0.trans hn1
  have bA_1 := heap_new hn1 bA_0
  clear bA_0 hn1
  have bA_1_c5 := cell_of_heap bA_1 5
  have bA_1_c6 := cell_of_heap bA_1 6
  have bA_1_c7 := cell_of_heap bA_1 7
  by_cases p0 : ((Ex.sizes li : Nat) : Int) ≤ left
  rotate_left
  · rw [szOf_lo (by omega)]
    clear HH
    go_wp2
    go_ret
    exact ⟨retI (by rw [szOf_lo (by omega)]), N1⟩
  rw [szOf_hi (by omega)]
  go_wp2_with fail
  refine (SzE.szExpr _ lo hi _ _ _ _ (left - (Ex.sizes li : Nat)) (rv.new h1 N1) (by omega) (by omega) (by omega)).mono ?_
  rintro e w2 ⟨rfl, hn2⟩
  have z2 := hn2.size
  have N2 : New w w2 := N1.trans hn2
  have bA_2 := heap_new hn2 bA_1
  clear bA_1_c5 bA_1_c6 bA_1_c7
  clear bA_1 hn2
  have bA_2_c9 := cell_of_heap bA_2 9
  by_cases p1 : ((Ex.sizes lv : Nat) : Int) ≤ left - (Ex.sizes li : Nat)
  rotate_left
  · rw [szOf_lo (by omega)]
    clear HH
    go_wp2
    go_ret
    exact ⟨retI (by rw [szOf_lo (by omega)]), N2⟩
  rw [szOf_hi (by omega)]
  go_wp2_with fail
  refine (HH.out _ lo hi _ _ (left - (Ex.sizes li : Nat) - (Ex.sizes lv : Nat)) q1 (rb.new h1 N2) (by omega) (by omega) (by omega)).mono ?_
  rintro e w3 ⟨rfl, hn3⟩
  have z3 := hn3.size
  have N3 : New w w3 := N2.trans hn3
  have bA_3 := heap_new hn3 bA_2
  clear bA_2_c9
  clear bA_2 hn3
  have bA_3_c10 := cell_of_heap bA_3 10
  by_cases p2 : ((St.sizes lb : Nat) : Int) ≤ left - (Ex.sizes li : Nat) - (Ex.sizes lv : Nat)
  rotate_left
  · rw [szOf_lo (by omega)]
    clear HH
    go_wp2
    go_ret
    exact ⟨retI (by rw [szOf_lo (by omega)]), N3⟩
  rw [szOf_hi (by omega)]
  go_wp2_with fail
  refine (HH.out _ lo hi _ _ (left - (Ex.sizes li : Nat) - (Ex.sizes lv : Nat) - (St.sizes lb : Nat)) q2 (re.new h1 N3) (by omega) (by omega) (by omega)).mono ?_
  rintro e w4 ⟨rfl, hn4⟩
  have z4 := hn4.size
  have N4 : New w w4 := N3.trans hn4
  have bA_4 := heap_new hn4 bA_3
  clear bA_3_c10
  clear bA_3 hn4
  by_cases p3 : ((St.sizes le : Nat) : Int) ≤ left - (Ex.sizes li : Nat) - (Ex.sizes lv : Nat) - (St.sizes lb : Nat)
  rotate_left
  · rw [szOf_lo (by omega)]
    clear HH
    go_wp2
    go_ret
    exact ⟨retI (by rw [szOf_lo (by omega)]), N4⟩
  rw [szOf_hi (by omega)]
  clear HH
  go_wp2
  go_ret
  exact ⟨retI (by rw [szOf_hi (by omega)]; omega), N4⟩
set_option maxHeartbeats 1000000 in
theorem szStmtS_step (n : Nat) (H : Does n) (w : World) (lo hi : Nat) (s : Value) (l : List St) (left : Int) (hl : St.sizes l ≤ n) (hs : StsR w lo hi s l) (h1 : hi ≤ w.heap.size) (h0 : 0 ≤ left) (hm : left ≤ 1048576) :
    Calls Tryd.prog 27 #[s, .int .i64 left] w fun e w' => e = .returned (.int .i64 (szOf left (St.sizes l))) ∧ New w w' := by
  obtain ⟨a, c, rfl, hl1⟩ := hs.len
  have hlen := St.length_sizes l
  have HH := Lib.hid H; clear H
  by_cases hc0 : ((l.length : Nat) : Int) ≤ left
  · go_enter Tryd.func27, Tryd.ntmps27
    go_wp2_with fail
    go_loopw [1, 5] (fun q i wr => ∃ (j : Nat) (L : Int), j ≤ l.length ∧ i = .int .i64 j ∧ q = .int .i64 L ∧ 0 ≤ L ∧ L ≤ 1048576 ∧ New w wr ∧ Hid (L = left - l.length + j - (St.sizes (l.take j) : Nat))) (fun _ i _ => l.length - (intOf i).toNat)
    case atStart => exact ⟨0, _, Nat.zero_le _, rfl, rfl, by omega, by omega, Kp.refl _ _, Lib.hid (by simp [St.sizes])⟩
    case round =>
      obtain ⟨j, L, hj, rfl, rfl, hL0, hL1, hN, hL⟩ := hrel
      by_cases hlt : j < l.length
      · obtain ⟨b, o, vi, vv, vb, ve, rfl, A⟩ := hs.elem j hlt
        have hb2 := A.hhi
        have g0 := (hN.cell (b := b) (by omega) (fun f => f) (o + j * 11)).trans A.c0
        have g1 := (hN.cell (b := b) (by omega) (fun f => f) (o + j * 11 + 1)).trans A.c1
        have g2 := (hN.cell (b := b) (by omega) (fun f => f) (o + j * 11 + 2)).trans A.c2
        have g3 := (hN.cell (b := b) (by omega) (fun f => f) (o + j * 11 + 3)).trans A.c3
        have g4 := (hN.cell (b := b) (by omega) (fun f => f) (o + j * 11 + 4)).trans A.c4
        have g5 := (hN.cell (b := b) (by omega) (fun f => f) (o + j * 11 + 5)).trans A.c5
        have g6 := (hN.cell (b := b) (by omega) (fun f => f) (o + j * 11 + 6)).trans A.c6
        have g7 := (hN.cell (b := b) (by omega) (fun f => f) (o + j * 11 + 7)).trans A.c7
        have g8 := (hN.cell (b := b) (by omega) (fun f => f) (o + j * 11 + 8)).trans A.c8
        have g9 := (hN.cell (b := b) (by omega) (fun f => f) (o + j * 11 + 9)).trans A.c9
        have g10 := (hN.cell (b := b) (by omega) (fun f => f) (o + j * 11 + 10)).trans A.c10
        have k1 := A.ri.new h1 hN
        have k2 := A.rv.new h1 hN
        have k3 := A.rb.new h1 hN
        have k4 := A.re.new h1 hN
        have hp := St.parts_get l j hlt
        have ht := St.sizes_take_succ l j hlt
        have ht2 := St.sizes_take_drop l (j + 1)
        have ht3 := St.length_sizes (l.drop (j + 1))
        rw [List.length_drop] at ht3
        have hL2 := hL.out
        have hT := Lib.hid ht; have hT2 := Lib.hid ht2; have hT3 := Lib.hid ht3; have hLh := Lib.hid hL2
        clear A hs ht ht2 ht3 hL hL2
        generalize l[j] = x at *
        have hx : ∃ m, Ex.sizes x.index.kids + Ex.sizes x.value.kids + St.sizes x.body + St.sizes x.els = m := ⟨_, rfl⟩
        go_wp2_with fail
        refine (szStmt_step n HH.out _ lo hi _ _ _ _ _ _ _ _ _ _ _ _ _ _ _ L (by omega) (by omega) k1 k2 k3 k4 (by have := hN.size; omega) hL0 hL1).mono ?_
        rintro r w1 ⟨rfl, hn⟩
        have hN1 : New w w1 := hN.trans hn
        obtain ⟨m, hx⟩ := hx
        rw [hx]
        have hX := Lib.hid hx
        have hP : m + 1 ≤ St.sizes l := by omega
        clear hx hp
        by_cases hc : ((m : Nat) : Int) ≤ L
        · rw [szOf_hi hc]
          have hq0 : 0 ≤ L - (m : Nat) := by omega
          have hq1 : L - ((m : Nat) : Int) ≤ 1048576 := by omega
          have hq2 := Lib.hid (show L - ((m : Nat) : Int) = left - l.length + (j + 1 : Nat) - (St.sizes (l.take (j + 1)) : Nat) by have := hLh.out; have := hT.out; have := hX.out; omega)
          generalize L - ((m : Nat) : Int) = q at *
          clear hc g0 g1 g2 g3 g4 g5 g6 g7 g8 g9 g10 k1 k2 k3 k4 hn hN
          go_wp2
          go_roundw
          case rel => exact ⟨j + 1, q, by omega, by go_num, rfl, hq0, hq1, hN1, hq2⟩
          case measure => simp [intOf]; omega
        · rw [szOf_lo (by omega)]
          have hfin := Lib.hid (szOf_lo (left := left) (n := St.sizes l) (by have := hLh.out; have := hT.out; have := hT2.out; have := hT3.out; have := hX.out; omega))
          clear hc g0 g1 g2 g3 g4 g5 g6 g7 g8 g9 g10 k1 k2 k3 k4 hn hN
          go_wp2
          go_ret
          exact ⟨retI hfin.out.symm, hN1⟩
      · have hge : l.length ≤ j := by omega
        have hfin := Lib.hid (show L = szOf left (St.sizes l) by
          have h := hL.out
          rw [List.take_of_length_le hge] at h
          have : j = l.length := by omega
          subst this
          rw [szOf_hi (by omega)]; omega)
        clear hL hs
        go_wp2
        go_ret
        exact ⟨retI hfin.out, hN⟩
  · have hfin := Lib.hid (szOf_lo (left := left) (n := St.sizes l) (by omega))
    go_enter Tryd.func27, Tryd.ntmps27
    go_wp2
    go_ret
    exact ⟨retI hfin.out.symm, Kp.refl _ _⟩
theorem does : ∀ n, Does n
  | 0 => fun w lo hi s l left hl => absurd hl (Nat.not_lt_zero _)
  | n + 1 => fun w lo hi s l left hl hs h1 h0 hm => szStmtS_step n (does n) w lo hi s l left (Nat.le_of_lt_succ hl) hs h1 h0 hm
theorem szStmtS (w : World) (lo hi : Nat) (s : Value) (l : List St) (left : Int) (hs : StsR w lo hi s l) (h1 : hi ≤ w.heap.size) (h0 : 0 ≤ left) (hm : left ≤ 1048576) :
    Calls Tryd.prog 27 #[s, .int .i64 left] w fun e w' => e = .returned (.int .i64 (szOf left (St.sizes l))) ∧ New w w' :=
  does _ w lo hi s l left (Nat.lt_succ_self _) hs h1 h0 hm
end Go.Proofs.YtckikiaockkmbaaDoor.SzS
