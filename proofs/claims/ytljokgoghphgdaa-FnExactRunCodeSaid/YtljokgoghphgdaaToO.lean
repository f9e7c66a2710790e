/- toMemory of the laws, with ownership. Condition: at most 2^20 elements. -/
import Derived.Test.YtljokgoghphgdaaMarkC
import Derived.Test.YtljokgoghphgdaaMemF
import Derived.Test.YtljokgoghphgdaaMachF
import Derived.Test.YtljokgoghphgdaaCodeF
namespace Go.Proofs.Ytljokgoghphgdaa.ToO
open Go.RowKit Kit
set_option linter.unusedVariables false
set_option maxHeartbeats 1000000 in
theorem toMemory (w : World) (lo hi : Nat) (ta tb : Value) (xa : List Int) (xb : List (List Int)) (sa : IntsR w lo hi ta xa) (sb : MatR w lo hi tb xb) (h1 : hi ≤ w.heap.size) (m0 : xa.length ≤ 1048576) (m1 : msz xb ≤ 1048576) :
    Calls Try.prog 33 #[.agg #[ta, tb]] w fun e w' => ∃ va vb, e = .returned (.agg #[va, vb]) ∧ New w w' ∧ MarkC.MemO w' w.heap.size w'.heap.size va vb xa xb := by
  go_enter Try.func33, Try.ntmps33
  go_wp2_with fail
  have N0 : New w (((w.alloc (.cells #[ta, tb] 58)).alloc (.cells #[.slice none 0 0, .slice none 0 0] 29)).alloc (.cells #[.slice none 0 0, .slice none 0 0] 29)) := (((Kp.refl _ _).alloc _).alloc _).alloc _
  have bA : (((w.alloc (.cells #[ta, tb] 58)).alloc (.cells #[.slice none 0 0, .slice none 0 0] 29)).alloc (.cells #[.slice none 0 0, .slice none 0 0] 29)).heap[w.heap.size]? = some (.cells #[ta, tb] 58) := heap_old (heap_old (alloc_heap _ _))
  have bR : (((w.alloc (.cells #[ta, tb] 58)).alloc (.cells #[.slice none 0 0, .slice none 0 0] 29)).alloc (.cells #[.slice none 0 0, .slice none 0 0] 29)).heap[w.heap.size + 1]? = some (.cells #[.slice none 0 0, .slice none 0 0] 29) := heap_old (heap_at (by simp))
  have bO : (((w.alloc (.cells #[ta, tb] 58)).alloc (.cells #[.slice none 0 0, .slice none 0 0] 29)).alloc (.cells #[.slice none 0 0, .slice none 0 0] 29)).heap[w.heap.size + 1 + 1]? = some (.cells #[.slice none 0 0, .slice none 0 0] 29) := heap_at (by simp)
  have z0 : w.heap.size + 1 + 1 < (((w.alloc (.cells #[ta, tb] 58)).alloc (.cells #[.slice none 0 0, .slice none 0 0] 29)).alloc (.cells #[.slice none 0 0, .slice none 0 0] 29)).heap.size := by simp
  generalize (((w.alloc (.cells #[ta, tb] 58)).alloc (.cells #[.slice none 0 0, .slice none 0 0] 29)).alloc (.cells #[.slice none 0 0, .slice none 0 0] 29)) = w0 at *
  have bA_c0 := cell_of_heap bA 0
  have bA_c1 := cell_of_heap bA 1
  have bR_c0 := cell_of_heap bR 0
  have bR_c1 := cell_of_heap bR 1
  have bR_f := frozen_of_heap bR
  have bO_c0 := cell_of_heap bO 0
  have bO_c1 := cell_of_heap bO 1
  have bO_f := frozen_of_heap bO
  refine (LawF.toIntS _ _ _ _ _ (sa.new h1 N0) (by omega) (by omega)).mono ?_
  rintro e w1 ⟨vX, rfl, hn1, oX⟩
  have z1 : w0.heap.size ≤ w1.heap.size := hn1.size
  have N1 : New w w1 := N0.trans hn1
  have bA_1 := heap_new hn1 bA
  clear bA bA_c0 bA_c1
  have bA_1_c0 := cell_of_heap bA_1 0
  have bA_1_c1 := cell_of_heap bA_1 1
  have bR_1 := heap_new hn1 bR
  clear bR bR_c0 bR_c1 bR_f
  have bR_1_c0 := cell_of_heap bR_1 0
  have bR_1_c1 := cell_of_heap bR_1 1
  have bR_1_f := frozen_of_heap bR_1
  have bO_1 := heap_new hn1 bO
  clear bO bO_c0 bO_c1 bO_f
  have bO_1_c0 := cell_of_heap bO_1 0
  have bO_1_c1 := cell_of_heap bO_1 1
  have bO_1_f := frozen_of_heap bO_1
  clear hn1
  have hXt := Lib.hid (show ∀ b, vX.ownBlock = some b → b < w1.heap.size from fun b hb => (oX.lt b hb).2)
  obtain ⟨aX, cX, rfl, _⟩ := oX.reads.len
  have hk2 : One (w.heap.size + 1 + 1) w1 (w1.setCell ⟨w.heap.size + 1 + 1, 0, none⟩ (.slice aX xa.length cX)) := (Kp.refl (fun k => k = w.heap.size + 1 + 1) _).setCell (.inl rfl) _
  have z2 : w1.heap.size ≤ (w1.setCell ⟨w.heap.size + 1 + 1, 0, none⟩ (.slice aX xa.length cX)).heap.size := hk2.size
  have N2 : New w (w1.setCell ⟨w.heap.size + 1 + 1, 0, none⟩ (.slice aX xa.length cX)) := New.one N1 hk2 (by omega)
  have bA_2 : (w1.setCell ⟨w.heap.size + 1 + 1, 0, none⟩ (.slice aX xa.length cX)).heap[w.heap.size]? = some (.cells #[ta, tb] 58) := heap_set bA_1 (by omega) _
  have bA_2_c0 := cell_of_heap bA_2 0
  have bA_2_c1 := cell_of_heap bA_2 1
  have bR_2 : (w1.setCell ⟨w.heap.size + 1 + 1, 0, none⟩ (.slice aX xa.length cX)).heap[w.heap.size + 1]? = some (.cells #[.slice none 0 0, .slice none 0 0] 29) := heap_set bR_1 (by omega) _
  have bR_2_c0 := cell_of_heap bR_2 0
  have bR_2_c1 := cell_of_heap bR_2 1
  have bR_2_f := frozen_of_heap bR_2
  have bO_2 : (w1.setCell ⟨w.heap.size + 1 + 1, 0, none⟩ (.slice aX xa.length cX)).heap[w.heap.size + 1 + 1]? = some (.cells #[.slice aX xa.length cX, .slice none 0 0] 29) := setCell_heap bO_1 _
  have bO_2_c0 := cell_of_heap bO_2 0
  have bO_2_c1 := cell_of_heap bO_2 1
  have bO_2_f := frozen_of_heap bO_2
  have X_2 := oX.kp hk2 (fun b hb e => by have := oX.lt b hb; omega)
  go_wp2_with fail
  clear bA_1 bA_1_c0 bA_1_c1
  clear bR_1 bR_1_c0 bR_1_c1 bR_1_f
  clear bO_1 bO_1_c0 bO_1_c1 bO_1_f
  clear oX
  clear hk2
  generalize (w1.setCell ⟨w.heap.size + 1 + 1, 0, none⟩ (.slice aX xa.length cX)) = w2 at *
  refine (MatO.toIntSS _ _ _ _ _ (sb.new h1 N2) (by omega) (by omega)).mono ?_
  rintro e w3 ⟨vY, rfl, hn3, oY⟩
  have z3 : w2.heap.size ≤ w3.heap.size := hn3.size
  have N3 : New w w3 := N2.trans hn3
  have bA_3 := heap_new hn3 bA_2
  clear bA_2 bA_2_c0 bA_2_c1
  have bA_3_c0 := cell_of_heap bA_3 0
  have bA_3_c1 := cell_of_heap bA_3 1
  have bR_3 := heap_new hn3 bR_2
  clear bR_2 bR_2_c0 bR_2_c1 bR_2_f
  have bR_3_c0 := cell_of_heap bR_3 0
  have bR_3_c1 := cell_of_heap bR_3 1
  have bR_3_f := frozen_of_heap bR_3
  have bO_3 := heap_new hn3 bO_2
  clear bO_2 bO_2_c0 bO_2_c1 bO_2_f
  have bO_3_c0 := cell_of_heap bO_3 0
  have bO_3_c1 := cell_of_heap bO_3 1
  have bO_3_f := frozen_of_heap bO_3
  have X_3 := X_2.new hn3
  clear X_2
  clear hn3
  obtain ⟨aY, cY, rfl, _⟩ := oY.reads.len
  have hk4 : One (w.heap.size + 1 + 1) w3 (w3.setCell ⟨w.heap.size + 1 + 1, 1, none⟩ (.slice aY xb.length cY)) := (Kp.refl (fun k => k = w.heap.size + 1 + 1) _).setCell (.inl rfl) _
  have z4 : w3.heap.size ≤ (w3.setCell ⟨w.heap.size + 1 + 1, 1, none⟩ (.slice aY xb.length cY)).heap.size := hk4.size
  have N4 : New w (w3.setCell ⟨w.heap.size + 1 + 1, 1, none⟩ (.slice aY xb.length cY)) := New.one N3 hk4 (by omega)
  have bA_4 : (w3.setCell ⟨w.heap.size + 1 + 1, 1, none⟩ (.slice aY xb.length cY)).heap[w.heap.size]? = some (.cells #[ta, tb] 58) := heap_set bA_3 (by omega) _
  have bA_4_c0 := cell_of_heap bA_4 0
  have bA_4_c1 := cell_of_heap bA_4 1
  have bR_4 : (w3.setCell ⟨w.heap.size + 1 + 1, 1, none⟩ (.slice aY xb.length cY)).heap[w.heap.size + 1]? = some (.cells #[.slice none 0 0, .slice none 0 0] 29) := heap_set bR_3 (by omega) _
  have bR_4_c0 := cell_of_heap bR_4 0
  have bR_4_c1 := cell_of_heap bR_4 1
  have bR_4_f := frozen_of_heap bR_4
  have bO_4 : (w3.setCell ⟨w.heap.size + 1 + 1, 1, none⟩ (.slice aY xb.length cY)).heap[w.heap.size + 1 + 1]? = some (.cells #[.slice aX xa.length cX, .slice aY xb.length cY] 29) := setCell_heap bO_3 _
  have bO_4_c0 := cell_of_heap bO_4 0
  have bO_4_c1 := cell_of_heap bO_4 1
  have bO_4_f := frozen_of_heap bO_4
  have X_4 := X_3.kp hk4 (fun b hb e => by have := X_3.lt b hb; omega)
  have Y_4 := oY.kp hk4 (fun b e => by omega)
  go_wp2_with fail
  have hk5 : One (w.heap.size + 1) (w3.setCell ⟨w.heap.size + 1 + 1, 1, none⟩ (.slice aY xb.length cY)) ((w3.setCell ⟨w.heap.size + 1 + 1, 1, none⟩ (.slice aY xb.length cY)).setCell ⟨w.heap.size + 1, 0, none⟩ (.slice aX xa.length cX)) := (Kp.refl (fun k => k = w.heap.size + 1) _).setCell (.inl rfl) _
  have z5 : (w3.setCell ⟨w.heap.size + 1 + 1, 1, none⟩ (.slice aY xb.length cY)).heap.size ≤ ((w3.setCell ⟨w.heap.size + 1 + 1, 1, none⟩ (.slice aY xb.length cY)).setCell ⟨w.heap.size + 1, 0, none⟩ (.slice aX xa.length cX)).heap.size := hk5.size
  have N5 : New w ((w3.setCell ⟨w.heap.size + 1 + 1, 1, none⟩ (.slice aY xb.length cY)).setCell ⟨w.heap.size + 1, 0, none⟩ (.slice aX xa.length cX)) := New.one N4 hk5 (by omega)
  have bA_5 : ((w3.setCell ⟨w.heap.size + 1 + 1, 1, none⟩ (.slice aY xb.length cY)).setCell ⟨w.heap.size + 1, 0, none⟩ (.slice aX xa.length cX)).heap[w.heap.size]? = some (.cells #[ta, tb] 58) := heap_set bA_4 (by omega) _
  have bA_5_c0 := cell_of_heap bA_5 0
  have bA_5_c1 := cell_of_heap bA_5 1
  have bR_5 : ((w3.setCell ⟨w.heap.size + 1 + 1, 1, none⟩ (.slice aY xb.length cY)).setCell ⟨w.heap.size + 1, 0, none⟩ (.slice aX xa.length cX)).heap[w.heap.size + 1]? = some (.cells #[.slice aX xa.length cX, .slice none 0 0] 29) := setCell_heap bR_4 _
  have bR_5_c0 := cell_of_heap bR_5 0
  have bR_5_c1 := cell_of_heap bR_5 1
  have bR_5_f := frozen_of_heap bR_5
  have bO_5 : ((w3.setCell ⟨w.heap.size + 1 + 1, 1, none⟩ (.slice aY xb.length cY)).setCell ⟨w.heap.size + 1, 0, none⟩ (.slice aX xa.length cX)).heap[w.heap.size + 1 + 1]? = some (.cells #[.slice aX xa.length cX, .slice aY xb.length cY] 29) := heap_set bO_4 (by omega) _
  have bO_5_c0 := cell_of_heap bO_5 0
  have bO_5_c1 := cell_of_heap bO_5 1
  have bO_5_f := frozen_of_heap bO_5
  have X_5 := X_4.kp hk5 (fun b hb e => by have := X_4.lt b hb; omega)
  have Y_5 := Y_4.kp hk5 (fun b e => by omega)
  have hk6 : One (w.heap.size + 1) ((w3.setCell ⟨w.heap.size + 1 + 1, 1, none⟩ (.slice aY xb.length cY)).setCell ⟨w.heap.size + 1, 0, none⟩ (.slice aX xa.length cX)) (((w3.setCell ⟨w.heap.size + 1 + 1, 1, none⟩ (.slice aY xb.length cY)).setCell ⟨w.heap.size + 1, 0, none⟩ (.slice aX xa.length cX)).setCell ⟨w.heap.size + 1, 1, none⟩ (.slice aY xb.length cY)) := (Kp.refl (fun k => k = w.heap.size + 1) _).setCell (.inl rfl) _
  have z6 : ((w3.setCell ⟨w.heap.size + 1 + 1, 1, none⟩ (.slice aY xb.length cY)).setCell ⟨w.heap.size + 1, 0, none⟩ (.slice aX xa.length cX)).heap.size ≤ (((w3.setCell ⟨w.heap.size + 1 + 1, 1, none⟩ (.slice aY xb.length cY)).setCell ⟨w.heap.size + 1, 0, none⟩ (.slice aX xa.length cX)).setCell ⟨w.heap.size + 1, 1, none⟩ (.slice aY xb.length cY)).heap.size := hk6.size
  have N6 : New w (((w3.setCell ⟨w.heap.size + 1 + 1, 1, none⟩ (.slice aY xb.length cY)).setCell ⟨w.heap.size + 1, 0, none⟩ (.slice aX xa.length cX)).setCell ⟨w.heap.size + 1, 1, none⟩ (.slice aY xb.length cY)) := New.one N5 hk6 (by omega)
  have bA_6 : (((w3.setCell ⟨w.heap.size + 1 + 1, 1, none⟩ (.slice aY xb.length cY)).setCell ⟨w.heap.size + 1, 0, none⟩ (.slice aX xa.length cX)).setCell ⟨w.heap.size + 1, 1, none⟩ (.slice aY xb.length cY)).heap[w.heap.size]? = some (.cells #[ta, tb] 58) := heap_set bA_5 (by omega) _
  have bA_6_c0 := cell_of_heap bA_6 0
  have bA_6_c1 := cell_of_heap bA_6 1
  have bR_6 : (((w3.setCell ⟨w.heap.size + 1 + 1, 1, none⟩ (.slice aY xb.length cY)).setCell ⟨w.heap.size + 1, 0, none⟩ (.slice aX xa.length cX)).setCell ⟨w.heap.size + 1, 1, none⟩ (.slice aY xb.length cY)).heap[w.heap.size + 1]? = some (.cells #[.slice aX xa.length cX, .slice aY xb.length cY] 29) := setCell_heap bR_5 _
  have bR_6_c0 := cell_of_heap bR_6 0
  have bR_6_c1 := cell_of_heap bR_6 1
  have bR_6_f := frozen_of_heap bR_6
  have bO_6 : (((w3.setCell ⟨w.heap.size + 1 + 1, 1, none⟩ (.slice aY xb.length cY)).setCell ⟨w.heap.size + 1, 0, none⟩ (.slice aX xa.length cX)).setCell ⟨w.heap.size + 1, 1, none⟩ (.slice aY xb.length cY)).heap[w.heap.size + 1 + 1]? = some (.cells #[.slice aX xa.length cX, .slice aY xb.length cY] 29) := heap_set bO_5 (by omega) _
  have bO_6_c0 := cell_of_heap bO_6 0
  have bO_6_c1 := cell_of_heap bO_6 1
  have bO_6_f := frozen_of_heap bO_6
  have X_6 := X_5.kp hk6 (fun b hb e => by have := X_5.lt b hb; omega)
  have Y_6 := Y_5.kp hk6 (fun b e => by omega)
  refine bodyPost_ret (results_cell_row rfl _ _ _ _ _ _ _ rfl bR_6 Try.underlying29 rfl (by kernel_rfl)) rfl ⟨_, _, rfl, N6, w2.heap.size, by omega, by simp; omega, ⟨X_6.mono (by omega), fun b hb => by have := hXt.out b hb; omega⟩, Y_6.mono (Nat.le_refl _) (by simp)⟩
set_option maxHeartbeats 1000000 in
theorem toCode (w : World) (lo hi : Nat) (ta tb tc : Value) (xa xb : List Int) (x : List Ins) (sa : IntsR w lo hi ta xa) (sb : IntsR w lo hi tb xb) (s : InssR w lo hi tc x) (h1 : hi ≤ w.heap.size) (m1 : xa.length ≤ 1048576) (m2 : xb.length ≤ 1048576) (m3 : x.length ≤ 1048576) :
    Calls Try.prog 32 #[.agg #[ta, tb, tc]] w fun e w' => ∃ va vb vc, e = .returned (.agg #[va, vb, vc]) ∧ New w w' ∧ MarkC.CodeO w' w.heap.size w'.heap.size va vb vc xa xb x := by
  go_enter Try.func32, Try.ntmps32
  go_wp2_with fail
  have N0 : New w (((w.alloc (.cells #[ta, tb, tc] 57)).alloc (.cells #[.slice none 0 0, .slice none 0 0, .slice none 0 0] 26)).alloc (.cells #[.slice none 0 0, .slice none 0 0, .slice none 0 0] 26)) := (((Kp.refl _ _).alloc _).alloc _).alloc _
  have bA : (((w.alloc (.cells #[ta, tb, tc] 57)).alloc (.cells #[.slice none 0 0, .slice none 0 0, .slice none 0 0] 26)).alloc (.cells #[.slice none 0 0, .slice none 0 0, .slice none 0 0] 26)).heap[w.heap.size]? = some (.cells #[ta, tb, tc] 57) := heap_old (heap_old (alloc_heap _ _))
  have bR : (((w.alloc (.cells #[ta, tb, tc] 57)).alloc (.cells #[.slice none 0 0, .slice none 0 0, .slice none 0 0] 26)).alloc (.cells #[.slice none 0 0, .slice none 0 0, .slice none 0 0] 26)).heap[w.heap.size + 1]? = some (.cells #[.slice none 0 0, .slice none 0 0, .slice none 0 0] 26) := heap_old (heap_at (by simp))
  have bO : (((w.alloc (.cells #[ta, tb, tc] 57)).alloc (.cells #[.slice none 0 0, .slice none 0 0, .slice none 0 0] 26)).alloc (.cells #[.slice none 0 0, .slice none 0 0, .slice none 0 0] 26)).heap[w.heap.size + 1 + 1]? = some (.cells #[.slice none 0 0, .slice none 0 0, .slice none 0 0] 26) := heap_at (by simp)
  have z0 : w.heap.size + 1 + 1 < (((w.alloc (.cells #[ta, tb, tc] 57)).alloc (.cells #[.slice none 0 0, .slice none 0 0, .slice none 0 0] 26)).alloc (.cells #[.slice none 0 0, .slice none 0 0, .slice none 0 0] 26)).heap.size := by simp
  generalize (((w.alloc (.cells #[ta, tb, tc] 57)).alloc (.cells #[.slice none 0 0, .slice none 0 0, .slice none 0 0] 26)).alloc (.cells #[.slice none 0 0, .slice none 0 0, .slice none 0 0] 26)) = w0 at *
  have bA_c0 := cell_of_heap bA 0
  have bA_c1 := cell_of_heap bA 1
  have bA_c2 := cell_of_heap bA 2
  have bR_c0 := cell_of_heap bR 0
  have bR_c1 := cell_of_heap bR 1
  have bR_c2 := cell_of_heap bR 2
  have bR_f := frozen_of_heap bR
  have bO_c0 := cell_of_heap bO 0
  have bO_c1 := cell_of_heap bO 1
  have bO_c2 := cell_of_heap bO 2
  have bO_f := frozen_of_heap bO
  refine (LawF.toIntS _ _ _ _ _ (sa.new h1 N0) (by omega) (by omega)).mono ?_
  rintro e w1 ⟨vX, rfl, hn1, oX⟩
  have z1 : w0.heap.size ≤ w1.heap.size := hn1.size
  have N1 : New w w1 := N0.trans hn1
  have bA_1 := heap_new hn1 bA
  clear bA bA_c0 bA_c1 bA_c2
  have bA_1_c0 := cell_of_heap bA_1 0
  have bA_1_c1 := cell_of_heap bA_1 1
  have bA_1_c2 := cell_of_heap bA_1 2
  have bR_1 := heap_new hn1 bR
  clear bR bR_c0 bR_c1 bR_c2 bR_f
  have bR_1_c0 := cell_of_heap bR_1 0
  have bR_1_c1 := cell_of_heap bR_1 1
  have bR_1_c2 := cell_of_heap bR_1 2
  have bR_1_f := frozen_of_heap bR_1
  have bO_1 := heap_new hn1 bO
  clear bO bO_c0 bO_c1 bO_c2 bO_f
  have bO_1_c0 := cell_of_heap bO_1 0
  have bO_1_c1 := cell_of_heap bO_1 1
  have bO_1_c2 := cell_of_heap bO_1 2
  have bO_1_f := frozen_of_heap bO_1
  clear hn1
  have hXt := Lib.hid (show ∀ b, vX.ownBlock = some b → b < w1.heap.size from fun b hb => (oX.lt b hb).2)
  obtain ⟨aX, cX, rfl, _⟩ := oX.reads.len
  have hk2 : One (w.heap.size + 1 + 1) w1 (w1.setCell ⟨w.heap.size + 1 + 1, 0, none⟩ (.slice aX xa.length cX)) := (Kp.refl (fun k => k = w.heap.size + 1 + 1) _).setCell (.inl rfl) _
  have z2 : w1.heap.size ≤ (w1.setCell ⟨w.heap.size + 1 + 1, 0, none⟩ (.slice aX xa.length cX)).heap.size := hk2.size
  have N2 : New w (w1.setCell ⟨w.heap.size + 1 + 1, 0, none⟩ (.slice aX xa.length cX)) := New.one N1 hk2 (by omega)
  have bA_2 : (w1.setCell ⟨w.heap.size + 1 + 1, 0, none⟩ (.slice aX xa.length cX)).heap[w.heap.size]? = some (.cells #[ta, tb, tc] 57) := heap_set bA_1 (by omega) _
  have bA_2_c0 := cell_of_heap bA_2 0
  have bA_2_c1 := cell_of_heap bA_2 1
  have bA_2_c2 := cell_of_heap bA_2 2
  have bR_2 : (w1.setCell ⟨w.heap.size + 1 + 1, 0, none⟩ (.slice aX xa.length cX)).heap[w.heap.size + 1]? = some (.cells #[.slice none 0 0, .slice none 0 0, .slice none 0 0] 26) := heap_set bR_1 (by omega) _
  have bR_2_c0 := cell_of_heap bR_2 0
  have bR_2_c1 := cell_of_heap bR_2 1
  have bR_2_c2 := cell_of_heap bR_2 2
  have bR_2_f := frozen_of_heap bR_2
  have bO_2 : (w1.setCell ⟨w.heap.size + 1 + 1, 0, none⟩ (.slice aX xa.length cX)).heap[w.heap.size + 1 + 1]? = some (.cells #[.slice aX xa.length cX, .slice none 0 0, .slice none 0 0] 26) := setCell_heap bO_1 _
  have bO_2_c0 := cell_of_heap bO_2 0
  have bO_2_c1 := cell_of_heap bO_2 1
  have bO_2_c2 := cell_of_heap bO_2 2
  have bO_2_f := frozen_of_heap bO_2
  have X_2 := oX.kp hk2 (fun b hb e => by have := oX.lt b hb; omega)
  go_wp2_with fail
  clear bA_1 bA_1_c0 bA_1_c1 bA_1_c2
  clear bR_1 bR_1_c0 bR_1_c1 bR_1_c2 bR_1_f
  clear bO_1 bO_1_c0 bO_1_c1 bO_1_c2 bO_1_f
  clear oX
  clear hk2
  generalize (w1.setCell ⟨w.heap.size + 1 + 1, 0, none⟩ (.slice aX xa.length cX)) = w2 at *
  refine (LawF.toIntS _ _ _ _ _ (sb.new h1 N2) (by omega) (by omega)).mono ?_
  rintro e w3 ⟨vY, rfl, hn3, oY⟩
  have z3 : w2.heap.size ≤ w3.heap.size := hn3.size
  have N3 : New w w3 := N2.trans hn3
  have bA_3 := heap_new hn3 bA_2
  clear bA_2 bA_2_c0 bA_2_c1 bA_2_c2
  have bA_3_c0 := cell_of_heap bA_3 0
  have bA_3_c1 := cell_of_heap bA_3 1
  have bA_3_c2 := cell_of_heap bA_3 2
  have bR_3 := heap_new hn3 bR_2
  clear bR_2 bR_2_c0 bR_2_c1 bR_2_c2 bR_2_f
  have bR_3_c0 := cell_of_heap bR_3 0
  have bR_3_c1 := cell_of_heap bR_3 1
  have bR_3_c2 := cell_of_heap bR_3 2
  have bR_3_f := frozen_of_heap bR_3
  have bO_3 := heap_new hn3 bO_2
  clear bO_2 bO_2_c0 bO_2_c1 bO_2_c2 bO_2_f
  have bO_3_c0 := cell_of_heap bO_3 0
  have bO_3_c1 := cell_of_heap bO_3 1
  have bO_3_c2 := cell_of_heap bO_3 2
  have bO_3_f := frozen_of_heap bO_3
  have X_3 := X_2.new hn3
  clear X_2
  clear hn3
  have hYt := Lib.hid (show ∀ b, vY.ownBlock = some b → b < w3.heap.size from fun b hb => (oY.lt b hb).2)
  obtain ⟨aY, cY, rfl, _⟩ := oY.reads.len
  have hk4 : One (w.heap.size + 1 + 1) w3 (w3.setCell ⟨w.heap.size + 1 + 1, 1, none⟩ (.slice aY xb.length cY)) := (Kp.refl (fun k => k = w.heap.size + 1 + 1) _).setCell (.inl rfl) _
  have z4 : w3.heap.size ≤ (w3.setCell ⟨w.heap.size + 1 + 1, 1, none⟩ (.slice aY xb.length cY)).heap.size := hk4.size
  have N4 : New w (w3.setCell ⟨w.heap.size + 1 + 1, 1, none⟩ (.slice aY xb.length cY)) := New.one N3 hk4 (by omega)
  have bA_4 : (w3.setCell ⟨w.heap.size + 1 + 1, 1, none⟩ (.slice aY xb.length cY)).heap[w.heap.size]? = some (.cells #[ta, tb, tc] 57) := heap_set bA_3 (by omega) _
  have bA_4_c0 := cell_of_heap bA_4 0
  have bA_4_c1 := cell_of_heap bA_4 1
  have bA_4_c2 := cell_of_heap bA_4 2
  have bR_4 : (w3.setCell ⟨w.heap.size + 1 + 1, 1, none⟩ (.slice aY xb.length cY)).heap[w.heap.size + 1]? = some (.cells #[.slice none 0 0, .slice none 0 0, .slice none 0 0] 26) := heap_set bR_3 (by omega) _
  have bR_4_c0 := cell_of_heap bR_4 0
  have bR_4_c1 := cell_of_heap bR_4 1
  have bR_4_c2 := cell_of_heap bR_4 2
  have bR_4_f := frozen_of_heap bR_4
  have bO_4 : (w3.setCell ⟨w.heap.size + 1 + 1, 1, none⟩ (.slice aY xb.length cY)).heap[w.heap.size + 1 + 1]? = some (.cells #[.slice aX xa.length cX, .slice aY xb.length cY, .slice none 0 0] 26) := setCell_heap bO_3 _
  have bO_4_c0 := cell_of_heap bO_4 0
  have bO_4_c1 := cell_of_heap bO_4 1
  have bO_4_c2 := cell_of_heap bO_4 2
  have bO_4_f := frozen_of_heap bO_4
  have X_4 := X_3.kp hk4 (fun b hb e => by have := X_3.lt b hb; omega)
  have Y_4 := oY.kp hk4 (fun b hb e => by have := oY.lt b hb; omega)
  go_wp2_with fail
  clear bA_3 bA_3_c0 bA_3_c1 bA_3_c2
  clear bR_3 bR_3_c0 bR_3_c1 bR_3_c2 bR_3_f
  clear bO_3 bO_3_c0 bO_3_c1 bO_3_c2 bO_3_f
  clear X_3
  clear oY
  clear hk4
  generalize (w3.setCell ⟨w.heap.size + 1 + 1, 1, none⟩ (.slice aY xb.length cY)) = w4 at *
  refine (LawF.toInstrS _ _ _ _ _ (s.new h1 N4) (by omega) (by omega)).mono ?_
  rintro e w5 ⟨vZ, rfl, hn5, oZ⟩
  have z5 : w4.heap.size ≤ w5.heap.size := hn5.size
  have N5 : New w w5 := N4.trans hn5
  have bA_5 := heap_new hn5 bA_4
  clear bA_4 bA_4_c0 bA_4_c1 bA_4_c2
  have bA_5_c0 := cell_of_heap bA_5 0
  have bA_5_c1 := cell_of_heap bA_5 1
  have bA_5_c2 := cell_of_heap bA_5 2
  have bR_5 := heap_new hn5 bR_4
  clear bR_4 bR_4_c0 bR_4_c1 bR_4_c2 bR_4_f
  have bR_5_c0 := cell_of_heap bR_5 0
  have bR_5_c1 := cell_of_heap bR_5 1
  have bR_5_c2 := cell_of_heap bR_5 2
  have bR_5_f := frozen_of_heap bR_5
  have bO_5 := heap_new hn5 bO_4
  clear bO_4 bO_4_c0 bO_4_c1 bO_4_c2 bO_4_f
  have bO_5_c0 := cell_of_heap bO_5 0
  have bO_5_c1 := cell_of_heap bO_5 1
  have bO_5_c2 := cell_of_heap bO_5 2
  have bO_5_f := frozen_of_heap bO_5
  have X_5 := X_4.new hn5
  clear X_4
  have Y_5 := Y_4.new hn5
  clear Y_4
  clear hn5
  have hZt := Lib.hid (show ∀ b, vZ.ownBlock = some b → b < w5.heap.size from fun b hb => (oZ.lt b hb).2)
  obtain ⟨aZ, cZ, rfl, _⟩ := oZ.reads.len
  have hk6 : One (w.heap.size + 1 + 1) w5 (w5.setCell ⟨w.heap.size + 1 + 1, 2, none⟩ (.slice aZ x.length cZ)) := (Kp.refl (fun k => k = w.heap.size + 1 + 1) _).setCell (.inl rfl) _
  have z6 : w5.heap.size ≤ (w5.setCell ⟨w.heap.size + 1 + 1, 2, none⟩ (.slice aZ x.length cZ)).heap.size := hk6.size
  have N6 : New w (w5.setCell ⟨w.heap.size + 1 + 1, 2, none⟩ (.slice aZ x.length cZ)) := New.one N5 hk6 (by omega)
  have bA_6 : (w5.setCell ⟨w.heap.size + 1 + 1, 2, none⟩ (.slice aZ x.length cZ)).heap[w.heap.size]? = some (.cells #[ta, tb, tc] 57) := heap_set bA_5 (by omega) _
  have bA_6_c0 := cell_of_heap bA_6 0
  have bA_6_c1 := cell_of_heap bA_6 1
  have bA_6_c2 := cell_of_heap bA_6 2
  have bR_6 : (w5.setCell ⟨w.heap.size + 1 + 1, 2, none⟩ (.slice aZ x.length cZ)).heap[w.heap.size + 1]? = some (.cells #[.slice none 0 0, .slice none 0 0, .slice none 0 0] 26) := heap_set bR_5 (by omega) _
  have bR_6_c0 := cell_of_heap bR_6 0
  have bR_6_c1 := cell_of_heap bR_6 1
  have bR_6_c2 := cell_of_heap bR_6 2
  have bR_6_f := frozen_of_heap bR_6
  have bO_6 : (w5.setCell ⟨w.heap.size + 1 + 1, 2, none⟩ (.slice aZ x.length cZ)).heap[w.heap.size + 1 + 1]? = some (.cells #[.slice aX xa.length cX, .slice aY xb.length cY, .slice aZ x.length cZ] 26) := setCell_heap bO_5 _
  have bO_6_c0 := cell_of_heap bO_6 0
  have bO_6_c1 := cell_of_heap bO_6 1
  have bO_6_c2 := cell_of_heap bO_6 2
  have bO_6_f := frozen_of_heap bO_6
  have X_6 := X_5.kp hk6 (fun b hb e => by have := X_5.lt b hb; omega)
  have Y_6 := Y_5.kp hk6 (fun b hb e => by have := Y_5.lt b hb; omega)
  have Z_6 := oZ.kp hk6 (fun b hb e => by have := oZ.lt b hb; omega)
  go_wp2_with fail
  have hk7 : One (w.heap.size + 1) (w5.setCell ⟨w.heap.size + 1 + 1, 2, none⟩ (.slice aZ x.length cZ)) ((w5.setCell ⟨w.heap.size + 1 + 1, 2, none⟩ (.slice aZ x.length cZ)).setCell ⟨w.heap.size + 1, 0, none⟩ (.slice aX xa.length cX)) := (Kp.refl (fun k => k = w.heap.size + 1) _).setCell (.inl rfl) _
  have z7 : (w5.setCell ⟨w.heap.size + 1 + 1, 2, none⟩ (.slice aZ x.length cZ)).heap.size ≤ ((w5.setCell ⟨w.heap.size + 1 + 1, 2, none⟩ (.slice aZ x.length cZ)).setCell ⟨w.heap.size + 1, 0, none⟩ (.slice aX xa.length cX)).heap.size := hk7.size
  have N7 : New w ((w5.setCell ⟨w.heap.size + 1 + 1, 2, none⟩ (.slice aZ x.length cZ)).setCell ⟨w.heap.size + 1, 0, none⟩ (.slice aX xa.length cX)) := New.one N6 hk7 (by omega)
  have bA_7 : ((w5.setCell ⟨w.heap.size + 1 + 1, 2, none⟩ (.slice aZ x.length cZ)).setCell ⟨w.heap.size + 1, 0, none⟩ (.slice aX xa.length cX)).heap[w.heap.size]? = some (.cells #[ta, tb, tc] 57) := heap_set bA_6 (by omega) _
  have bA_7_c0 := cell_of_heap bA_7 0
  have bA_7_c1 := cell_of_heap bA_7 1
  have bA_7_c2 := cell_of_heap bA_7 2
  have bR_7 : ((w5.setCell ⟨w.heap.size + 1 + 1, 2, none⟩ (.slice aZ x.length cZ)).setCell ⟨w.heap.size + 1, 0, none⟩ (.slice aX xa.length cX)).heap[w.heap.size + 1]? = some (.cells #[.slice aX xa.length cX, .slice none 0 0, .slice none 0 0] 26) := setCell_heap bR_6 _
  have bR_7_c0 := cell_of_heap bR_7 0
  have bR_7_c1 := cell_of_heap bR_7 1
  have bR_7_c2 := cell_of_heap bR_7 2
  have bR_7_f := frozen_of_heap bR_7
  have bO_7 : ((w5.setCell ⟨w.heap.size + 1 + 1, 2, none⟩ (.slice aZ x.length cZ)).setCell ⟨w.heap.size + 1, 0, none⟩ (.slice aX xa.length cX)).heap[w.heap.size + 1 + 1]? = some (.cells #[.slice aX xa.length cX, .slice aY xb.length cY, .slice aZ x.length cZ] 26) := heap_set bO_6 (by omega) _
  have bO_7_c0 := cell_of_heap bO_7 0
  have bO_7_c1 := cell_of_heap bO_7 1
  have bO_7_c2 := cell_of_heap bO_7 2
  have bO_7_f := frozen_of_heap bO_7
  have X_7 := X_6.kp hk7 (fun b hb e => by have := X_6.lt b hb; omega)
  have Y_7 := Y_6.kp hk7 (fun b hb e => by have := Y_6.lt b hb; omega)
  have Z_7 := Z_6.kp hk7 (fun b hb e => by have := Z_6.lt b hb; omega)
  have hk8 : One (w.heap.size + 1) ((w5.setCell ⟨w.heap.size + 1 + 1, 2, none⟩ (.slice aZ x.length cZ)).setCell ⟨w.heap.size + 1, 0, none⟩ (.slice aX xa.length cX)) (((w5.setCell ⟨w.heap.size + 1 + 1, 2, none⟩ (.slice aZ x.length cZ)).setCell ⟨w.heap.size + 1, 0, none⟩ (.slice aX xa.length cX)).setCell ⟨w.heap.size + 1, 1, none⟩ (.slice aY xb.length cY)) := (Kp.refl (fun k => k = w.heap.size + 1) _).setCell (.inl rfl) _
  have z8 : ((w5.setCell ⟨w.heap.size + 1 + 1, 2, none⟩ (.slice aZ x.length cZ)).setCell ⟨w.heap.size + 1, 0, none⟩ (.slice aX xa.length cX)).heap.size ≤ (((w5.setCell ⟨w.heap.size + 1 + 1, 2, none⟩ (.slice aZ x.length cZ)).setCell ⟨w.heap.size + 1, 0, none⟩ (.slice aX xa.length cX)).setCell ⟨w.heap.size + 1, 1, none⟩ (.slice aY xb.length cY)).heap.size := hk8.size
  have N8 : New w (((w5.setCell ⟨w.heap.size + 1 + 1, 2, none⟩ (.slice aZ x.length cZ)).setCell ⟨w.heap.size + 1, 0, none⟩ (.slice aX xa.length cX)).setCell ⟨w.heap.size + 1, 1, none⟩ (.slice aY xb.length cY)) := New.one N7 hk8 (by omega)
  have bA_8 : (((w5.setCell ⟨w.heap.size + 1 + 1, 2, none⟩ (.slice aZ x.length cZ)).setCell ⟨w.heap.size + 1, 0, none⟩ (.slice aX xa.length cX)).setCell ⟨w.heap.size + 1, 1, none⟩ (.slice aY xb.length cY)).heap[w.heap.size]? = some (.cells #[ta, tb, tc] 57) := heap_set bA_7 (by omega) _
  have bA_8_c0 := cell_of_heap bA_8 0
  have bA_8_c1 := cell_of_heap bA_8 1
  have bA_8_c2 := cell_of_heap bA_8 2
  have bR_8 : (((w5.setCell ⟨w.heap.size + 1 + 1, 2, none⟩ (.slice aZ x.length cZ)).setCell ⟨w.heap.size + 1, 0, none⟩ (.slice aX xa.length cX)).setCell ⟨w.heap.size + 1, 1, none⟩ (.slice aY xb.length cY)).heap[w.heap.size + 1]? = some (.cells #[.slice aX xa.length cX, .slice aY xb.length cY, .slice none 0 0] 26) := setCell_heap bR_7 _
  have bR_8_c0 := cell_of_heap bR_8 0
  have bR_8_c1 := cell_of_heap bR_8 1
  have bR_8_c2 := cell_of_heap bR_8 2
  have bR_8_f := frozen_of_heap bR_8
  have bO_8 : (((w5.setCell ⟨w.heap.size + 1 + 1, 2, none⟩ (.slice aZ x.length cZ)).setCell ⟨w.heap.size + 1, 0, none⟩ (.slice aX xa.length cX)).setCell ⟨w.heap.size + 1, 1, none⟩ (.slice aY xb.length cY)).heap[w.heap.size + 1 + 1]? = some (.cells #[.slice aX xa.length cX, .slice aY xb.length cY, .slice aZ x.length cZ] 26) := heap_set bO_7 (by omega) _
  have bO_8_c0 := cell_of_heap bO_8 0
  have bO_8_c1 := cell_of_heap bO_8 1
  have bO_8_c2 := cell_of_heap bO_8 2
  have bO_8_f := frozen_of_heap bO_8
  have X_8 := X_7.kp hk8 (fun b hb e => by have := X_7.lt b hb; omega)
  have Y_8 := Y_7.kp hk8 (fun b hb e => by have := Y_7.lt b hb; omega)
  have Z_8 := Z_7.kp hk8 (fun b hb e => by have := Z_7.lt b hb; omega)
  have hk9 : One (w.heap.size + 1) (((w5.setCell ⟨w.heap.size + 1 + 1, 2, none⟩ (.slice aZ x.length cZ)).setCell ⟨w.heap.size + 1, 0, none⟩ (.slice aX xa.length cX)).setCell ⟨w.heap.size + 1, 1, none⟩ (.slice aY xb.length cY)) ((((w5.setCell ⟨w.heap.size + 1 + 1, 2, none⟩ (.slice aZ x.length cZ)).setCell ⟨w.heap.size + 1, 0, none⟩ (.slice aX xa.length cX)).setCell ⟨w.heap.size + 1, 1, none⟩ (.slice aY xb.length cY)).setCell ⟨w.heap.size + 1, 2, none⟩ (.slice aZ x.length cZ)) := (Kp.refl (fun k => k = w.heap.size + 1) _).setCell (.inl rfl) _
  have z9 : (((w5.setCell ⟨w.heap.size + 1 + 1, 2, none⟩ (.slice aZ x.length cZ)).setCell ⟨w.heap.size + 1, 0, none⟩ (.slice aX xa.length cX)).setCell ⟨w.heap.size + 1, 1, none⟩ (.slice aY xb.length cY)).heap.size ≤ ((((w5.setCell ⟨w.heap.size + 1 + 1, 2, none⟩ (.slice aZ x.length cZ)).setCell ⟨w.heap.size + 1, 0, none⟩ (.slice aX xa.length cX)).setCell ⟨w.heap.size + 1, 1, none⟩ (.slice aY xb.length cY)).setCell ⟨w.heap.size + 1, 2, none⟩ (.slice aZ x.length cZ)).heap.size := hk9.size
  have N9 : New w ((((w5.setCell ⟨w.heap.size + 1 + 1, 2, none⟩ (.slice aZ x.length cZ)).setCell ⟨w.heap.size + 1, 0, none⟩ (.slice aX xa.length cX)).setCell ⟨w.heap.size + 1, 1, none⟩ (.slice aY xb.length cY)).setCell ⟨w.heap.size + 1, 2, none⟩ (.slice aZ x.length cZ)) := New.one N8 hk9 (by omega)
  have bA_9 : ((((w5.setCell ⟨w.heap.size + 1 + 1, 2, none⟩ (.slice aZ x.length cZ)).setCell ⟨w.heap.size + 1, 0, none⟩ (.slice aX xa.length cX)).setCell ⟨w.heap.size + 1, 1, none⟩ (.slice aY xb.length cY)).setCell ⟨w.heap.size + 1, 2, none⟩ (.slice aZ x.length cZ)).heap[w.heap.size]? = some (.cells #[ta, tb, tc] 57) := heap_set bA_8 (by omega) _
  have bA_9_c0 := cell_of_heap bA_9 0
  have bA_9_c1 := cell_of_heap bA_9 1
  have bA_9_c2 := cell_of_heap bA_9 2
  have bR_9 : ((((w5.setCell ⟨w.heap.size + 1 + 1, 2, none⟩ (.slice aZ x.length cZ)).setCell ⟨w.heap.size + 1, 0, none⟩ (.slice aX xa.length cX)).setCell ⟨w.heap.size + 1, 1, none⟩ (.slice aY xb.length cY)).setCell ⟨w.heap.size + 1, 2, none⟩ (.slice aZ x.length cZ)).heap[w.heap.size + 1]? = some (.cells #[.slice aX xa.length cX, .slice aY xb.length cY, .slice aZ x.length cZ] 26) := setCell_heap bR_8 _
  have bR_9_c0 := cell_of_heap bR_9 0
  have bR_9_c1 := cell_of_heap bR_9 1
  have bR_9_c2 := cell_of_heap bR_9 2
  have bR_9_f := frozen_of_heap bR_9
  have bO_9 : ((((w5.setCell ⟨w.heap.size + 1 + 1, 2, none⟩ (.slice aZ x.length cZ)).setCell ⟨w.heap.size + 1, 0, none⟩ (.slice aX xa.length cX)).setCell ⟨w.heap.size + 1, 1, none⟩ (.slice aY xb.length cY)).setCell ⟨w.heap.size + 1, 2, none⟩ (.slice aZ x.length cZ)).heap[w.heap.size + 1 + 1]? = some (.cells #[.slice aX xa.length cX, .slice aY xb.length cY, .slice aZ x.length cZ] 26) := heap_set bO_8 (by omega) _
  have bO_9_c0 := cell_of_heap bO_9 0
  have bO_9_c1 := cell_of_heap bO_9 1
  have bO_9_c2 := cell_of_heap bO_9 2
  have bO_9_f := frozen_of_heap bO_9
  have X_9 := X_8.kp hk9 (fun b hb e => by have := X_8.lt b hb; omega)
  have Y_9 := Y_8.kp hk9 (fun b hb e => by have := Y_8.lt b hb; omega)
  have Z_9 := Z_8.kp hk9 (fun b hb e => by have := Z_8.lt b hb; omega)
  refine bodyPost_ret (results_cell_row rfl _ _ _ _ _ _ _ rfl bR_9 Try.underlying26 rfl (by kernel_rfl)) rfl ⟨_, _, _, rfl, N9, w2.heap.size, w4.heap.size, by omega, by omega, by simp; omega, ⟨X_9.mono (by omega), fun b hb => by have := hXt.out b hb; omega⟩, ⟨Y_9.mono (Nat.le_refl _), fun b hb => by have := hYt.out b hb; omega⟩, ⟨Z_9.mono (Nat.le_refl _), fun b hb => by have := hZt.out b hb; simp; omega⟩⟩
set_option maxHeartbeats 1000000 in
theorem toMachine (w : World) (lo hi : Nat) (pc : Int) (mr ma mb : Value) (xr xa : List Int) (xb : List (List Int)) (rr : IntsR w lo hi mr xr) (ra : IntsR w lo hi ma xa) (rb : MatR w lo hi mb xb) (h1 : hi ≤ w.heap.size) (m0 : xr.length ≤ 1048576) (m1 : xa.length ≤ 1048576) (m2 : msz xb ≤ 1048576) :
    Calls Try.prog 46 #[.agg #[.int .i64 pc, mr, ma, mb]] w fun e w' => ∃ va vb vc, e = .returned (.agg #[.int .i64 pc, va, vb, vc]) ∧ New w w' ∧ MarkC.MachO w' w.heap.size w'.heap.size va vb vc xr xa xb := by
  go_enter Try.func46, Try.ntmps46
  go_wp2_with fail
  have N0 : New w (((w.alloc (.cells #[.int .i64 pc, mr, ma, mb] 70)).alloc (.cells #[.int .i64 0, .slice none 0 0, .slice none 0 0, .slice none 0 0] 31)).alloc (.cells #[.int .i64 pc, .slice none 0 0, .slice none 0 0, .slice none 0 0] 31)) := (((Kp.refl _ _).alloc _).alloc _).alloc _
  have bA : (((w.alloc (.cells #[.int .i64 pc, mr, ma, mb] 70)).alloc (.cells #[.int .i64 0, .slice none 0 0, .slice none 0 0, .slice none 0 0] 31)).alloc (.cells #[.int .i64 pc, .slice none 0 0, .slice none 0 0, .slice none 0 0] 31)).heap[w.heap.size]? = some (.cells #[.int .i64 pc, mr, ma, mb] 70) := heap_old (heap_old (alloc_heap _ _))
  have bR : (((w.alloc (.cells #[.int .i64 pc, mr, ma, mb] 70)).alloc (.cells #[.int .i64 0, .slice none 0 0, .slice none 0 0, .slice none 0 0] 31)).alloc (.cells #[.int .i64 pc, .slice none 0 0, .slice none 0 0, .slice none 0 0] 31)).heap[w.heap.size + 1]? = some (.cells #[.int .i64 0, .slice none 0 0, .slice none 0 0, .slice none 0 0] 31) := heap_old (heap_at (by simp))
  have bO : (((w.alloc (.cells #[.int .i64 pc, mr, ma, mb] 70)).alloc (.cells #[.int .i64 0, .slice none 0 0, .slice none 0 0, .slice none 0 0] 31)).alloc (.cells #[.int .i64 pc, .slice none 0 0, .slice none 0 0, .slice none 0 0] 31)).heap[w.heap.size + 1 + 1]? = some (.cells #[.int .i64 pc, .slice none 0 0, .slice none 0 0, .slice none 0 0] 31) := heap_at (by simp)
  have z0 : w.heap.size + 1 + 1 < (((w.alloc (.cells #[.int .i64 pc, mr, ma, mb] 70)).alloc (.cells #[.int .i64 0, .slice none 0 0, .slice none 0 0, .slice none 0 0] 31)).alloc (.cells #[.int .i64 pc, .slice none 0 0, .slice none 0 0, .slice none 0 0] 31)).heap.size := by simp
  generalize (((w.alloc (.cells #[.int .i64 pc, mr, ma, mb] 70)).alloc (.cells #[.int .i64 0, .slice none 0 0, .slice none 0 0, .slice none 0 0] 31)).alloc (.cells #[.int .i64 pc, .slice none 0 0, .slice none 0 0, .slice none 0 0] 31)) = w0 at *
  have bA_c0 := cell_of_heap bA 0
  have bA_c1 := cell_of_heap bA 1
  have bA_c2 := cell_of_heap bA 2
  have bA_c3 := cell_of_heap bA 3
  have bR_c0 := cell_of_heap bR 0
  have bR_c1 := cell_of_heap bR 1
  have bR_c2 := cell_of_heap bR 2
  have bR_c3 := cell_of_heap bR 3
  have bR_f := frozen_of_heap bR
  have bO_c0 := cell_of_heap bO 0
  have bO_c1 := cell_of_heap bO 1
  have bO_c2 := cell_of_heap bO 2
  have bO_c3 := cell_of_heap bO 3
  have bO_f := frozen_of_heap bO
  refine (LawF.toIntS _ _ _ _ _ (rr.new h1 N0) (by omega) (by omega)).mono ?_
  rintro e w1 ⟨vX, rfl, hn1, oX⟩
  have z1 : w0.heap.size ≤ w1.heap.size := hn1.size
  have N1 : New w w1 := N0.trans hn1
  have bA_1 := heap_new hn1 bA
  clear bA bA_c0 bA_c1 bA_c2 bA_c3
  have bA_1_c0 := cell_of_heap bA_1 0
  have bA_1_c1 := cell_of_heap bA_1 1
  have bA_1_c2 := cell_of_heap bA_1 2
  have bA_1_c3 := cell_of_heap bA_1 3
  have bR_1 := heap_new hn1 bR
  clear bR bR_c0 bR_c1 bR_c2 bR_c3 bR_f
  have bR_1_c0 := cell_of_heap bR_1 0
  have bR_1_c1 := cell_of_heap bR_1 1
  have bR_1_c2 := cell_of_heap bR_1 2
  have bR_1_c3 := cell_of_heap bR_1 3
  have bR_1_f := frozen_of_heap bR_1
  have bO_1 := heap_new hn1 bO
  clear bO bO_c0 bO_c1 bO_c2 bO_c3 bO_f
  have bO_1_c0 := cell_of_heap bO_1 0
  have bO_1_c1 := cell_of_heap bO_1 1
  have bO_1_c2 := cell_of_heap bO_1 2
  have bO_1_c3 := cell_of_heap bO_1 3
  have bO_1_f := frozen_of_heap bO_1
  clear hn1
  have hXt := Lib.hid (show ∀ b, vX.ownBlock = some b → b < w1.heap.size from fun b hb => (oX.lt b hb).2)
  obtain ⟨aX, cX, rfl, _⟩ := oX.reads.len
  have hk2 : One (w.heap.size + 1 + 1) w1 (w1.setCell ⟨w.heap.size + 1 + 1, 1, none⟩ (.slice aX xr.length cX)) := (Kp.refl (fun k => k = w.heap.size + 1 + 1) _).setCell (.inl rfl) _
  have z2 : w1.heap.size ≤ (w1.setCell ⟨w.heap.size + 1 + 1, 1, none⟩ (.slice aX xr.length cX)).heap.size := hk2.size
  have N2 : New w (w1.setCell ⟨w.heap.size + 1 + 1, 1, none⟩ (.slice aX xr.length cX)) := New.one N1 hk2 (by omega)
  have bA_2 : (w1.setCell ⟨w.heap.size + 1 + 1, 1, none⟩ (.slice aX xr.length cX)).heap[w.heap.size]? = some (.cells #[.int .i64 pc, mr, ma, mb] 70) := heap_set bA_1 (by omega) _
  have bA_2_c0 := cell_of_heap bA_2 0
  have bA_2_c1 := cell_of_heap bA_2 1
  have bA_2_c2 := cell_of_heap bA_2 2
  have bA_2_c3 := cell_of_heap bA_2 3
  have bR_2 : (w1.setCell ⟨w.heap.size + 1 + 1, 1, none⟩ (.slice aX xr.length cX)).heap[w.heap.size + 1]? = some (.cells #[.int .i64 0, .slice none 0 0, .slice none 0 0, .slice none 0 0] 31) := heap_set bR_1 (by omega) _
  have bR_2_c0 := cell_of_heap bR_2 0
  have bR_2_c1 := cell_of_heap bR_2 1
  have bR_2_c2 := cell_of_heap bR_2 2
  have bR_2_c3 := cell_of_heap bR_2 3
  have bR_2_f := frozen_of_heap bR_2
  have bO_2 : (w1.setCell ⟨w.heap.size + 1 + 1, 1, none⟩ (.slice aX xr.length cX)).heap[w.heap.size + 1 + 1]? = some (.cells #[.int .i64 pc, .slice aX xr.length cX, .slice none 0 0, .slice none 0 0] 31) := setCell_heap bO_1 _
  have bO_2_c0 := cell_of_heap bO_2 0
  have bO_2_c1 := cell_of_heap bO_2 1
  have bO_2_c2 := cell_of_heap bO_2 2
  have bO_2_c3 := cell_of_heap bO_2 3
  have bO_2_f := frozen_of_heap bO_2
  have X_2 := oX.kp hk2 (fun b hb e => by have := oX.lt b hb; omega)
  go_wp2_with fail
  clear bA_1 bA_1_c0 bA_1_c1 bA_1_c2 bA_1_c3
  clear bR_1 bR_1_c0 bR_1_c1 bR_1_c2 bR_1_c3 bR_1_f
  clear bO_1 bO_1_c0 bO_1_c1 bO_1_c2 bO_1_c3 bO_1_f
  clear oX
  clear hk2
  generalize (w1.setCell ⟨w.heap.size + 1 + 1, 1, none⟩ (.slice aX xr.length cX)) = w2 at *
  refine (ToO.toMemory _ _ _ _ _ _ _ (ra.new h1 N2) (rb.new h1 N2) (by omega) (by omega) (by omega)).mono ?_
  rintro e w3 ⟨vY, vZ, rfl, hn3, oY⟩
  have z3 : w2.heap.size ≤ w3.heap.size := hn3.size
  have N3 : New w w3 := N2.trans hn3
  have bA_3 := heap_new hn3 bA_2
  clear bA_2 bA_2_c0 bA_2_c1 bA_2_c2 bA_2_c3
  have bA_3_c0 := cell_of_heap bA_3 0
  have bA_3_c1 := cell_of_heap bA_3 1
  have bA_3_c2 := cell_of_heap bA_3 2
  have bA_3_c3 := cell_of_heap bA_3 3
  have bR_3 := heap_new hn3 bR_2
  clear bR_2 bR_2_c0 bR_2_c1 bR_2_c2 bR_2_c3 bR_2_f
  have bR_3_c0 := cell_of_heap bR_3 0
  have bR_3_c1 := cell_of_heap bR_3 1
  have bR_3_c2 := cell_of_heap bR_3 2
  have bR_3_c3 := cell_of_heap bR_3 3
  have bR_3_f := frozen_of_heap bR_3
  have bO_3 := heap_new hn3 bO_2
  clear bO_2 bO_2_c0 bO_2_c1 bO_2_c2 bO_2_c3 bO_2_f
  have bO_3_c0 := cell_of_heap bO_3 0
  have bO_3_c1 := cell_of_heap bO_3 1
  have bO_3_c2 := cell_of_heap bO_3 2
  have bO_3_c3 := cell_of_heap bO_3 3
  have bO_3_f := frozen_of_heap bO_3
  have X_3 := X_2.new hn3
  clear X_2
  clear hn3
  obtain ⟨⟨aY, cY, rfl⟩, aZ, cZ, rfl⟩ := oY.lens
  have hk4 : One (w.heap.size + 1 + 1) w3 (w3.setCell ⟨w.heap.size + 1 + 1, 2, none⟩ (.slice aY xa.length cY)) := (Kp.refl (fun k => k = w.heap.size + 1 + 1) _).setCell (.inl rfl) _
  have z4 : w3.heap.size ≤ (w3.setCell ⟨w.heap.size + 1 + 1, 2, none⟩ (.slice aY xa.length cY)).heap.size := hk4.size
  have N4 : New w (w3.setCell ⟨w.heap.size + 1 + 1, 2, none⟩ (.slice aY xa.length cY)) := New.one N3 hk4 (by omega)
  have bA_4 : (w3.setCell ⟨w.heap.size + 1 + 1, 2, none⟩ (.slice aY xa.length cY)).heap[w.heap.size]? = some (.cells #[.int .i64 pc, mr, ma, mb] 70) := heap_set bA_3 (by omega) _
  have bA_4_c0 := cell_of_heap bA_4 0
  have bA_4_c1 := cell_of_heap bA_4 1
  have bA_4_c2 := cell_of_heap bA_4 2
  have bA_4_c3 := cell_of_heap bA_4 3
  have bR_4 : (w3.setCell ⟨w.heap.size + 1 + 1, 2, none⟩ (.slice aY xa.length cY)).heap[w.heap.size + 1]? = some (.cells #[.int .i64 0, .slice none 0 0, .slice none 0 0, .slice none 0 0] 31) := heap_set bR_3 (by omega) _
  have bR_4_c0 := cell_of_heap bR_4 0
  have bR_4_c1 := cell_of_heap bR_4 1
  have bR_4_c2 := cell_of_heap bR_4 2
  have bR_4_c3 := cell_of_heap bR_4 3
  have bR_4_f := frozen_of_heap bR_4
  have bO_4 : (w3.setCell ⟨w.heap.size + 1 + 1, 2, none⟩ (.slice aY xa.length cY)).heap[w.heap.size + 1 + 1]? = some (.cells #[.int .i64 pc, .slice aX xr.length cX, .slice aY xa.length cY, .slice none 0 0] 31) := setCell_heap bO_3 _
  have bO_4_c0 := cell_of_heap bO_4 0
  have bO_4_c1 := cell_of_heap bO_4 1
  have bO_4_c2 := cell_of_heap bO_4 2
  have bO_4_c3 := cell_of_heap bO_4 3
  have bO_4_f := frozen_of_heap bO_4
  have X_4 := X_3.kp hk4 (fun b hb e => by have := X_3.lt b hb; omega)
  have Y_4 := oY.kp hk4 (fun b e => by omega)
  have hk5 : One (w.heap.size + 1 + 1) (w3.setCell ⟨w.heap.size + 1 + 1, 2, none⟩ (.slice aY xa.length cY)) ((w3.setCell ⟨w.heap.size + 1 + 1, 2, none⟩ (.slice aY xa.length cY)).setCell ⟨w.heap.size + 1 + 1, 3, none⟩ (.slice aZ xb.length cZ)) := (Kp.refl (fun k => k = w.heap.size + 1 + 1) _).setCell (.inl rfl) _
  have z5 : (w3.setCell ⟨w.heap.size + 1 + 1, 2, none⟩ (.slice aY xa.length cY)).heap.size ≤ ((w3.setCell ⟨w.heap.size + 1 + 1, 2, none⟩ (.slice aY xa.length cY)).setCell ⟨w.heap.size + 1 + 1, 3, none⟩ (.slice aZ xb.length cZ)).heap.size := hk5.size
  have N5 : New w ((w3.setCell ⟨w.heap.size + 1 + 1, 2, none⟩ (.slice aY xa.length cY)).setCell ⟨w.heap.size + 1 + 1, 3, none⟩ (.slice aZ xb.length cZ)) := New.one N4 hk5 (by omega)
  have bA_5 : ((w3.setCell ⟨w.heap.size + 1 + 1, 2, none⟩ (.slice aY xa.length cY)).setCell ⟨w.heap.size + 1 + 1, 3, none⟩ (.slice aZ xb.length cZ)).heap[w.heap.size]? = some (.cells #[.int .i64 pc, mr, ma, mb] 70) := heap_set bA_4 (by omega) _
  have bA_5_c0 := cell_of_heap bA_5 0
  have bA_5_c1 := cell_of_heap bA_5 1
  have bA_5_c2 := cell_of_heap bA_5 2
  have bA_5_c3 := cell_of_heap bA_5 3
  have bR_5 : ((w3.setCell ⟨w.heap.size + 1 + 1, 2, none⟩ (.slice aY xa.length cY)).setCell ⟨w.heap.size + 1 + 1, 3, none⟩ (.slice aZ xb.length cZ)).heap[w.heap.size + 1]? = some (.cells #[.int .i64 0, .slice none 0 0, .slice none 0 0, .slice none 0 0] 31) := heap_set bR_4 (by omega) _
  have bR_5_c0 := cell_of_heap bR_5 0
  have bR_5_c1 := cell_of_heap bR_5 1
  have bR_5_c2 := cell_of_heap bR_5 2
  have bR_5_c3 := cell_of_heap bR_5 3
  have bR_5_f := frozen_of_heap bR_5
  have bO_5 : ((w3.setCell ⟨w.heap.size + 1 + 1, 2, none⟩ (.slice aY xa.length cY)).setCell ⟨w.heap.size + 1 + 1, 3, none⟩ (.slice aZ xb.length cZ)).heap[w.heap.size + 1 + 1]? = some (.cells #[.int .i64 pc, .slice aX xr.length cX, .slice aY xa.length cY, .slice aZ xb.length cZ] 31) := setCell_heap bO_4 _
  have bO_5_c0 := cell_of_heap bO_5 0
  have bO_5_c1 := cell_of_heap bO_5 1
  have bO_5_c2 := cell_of_heap bO_5 2
  have bO_5_c3 := cell_of_heap bO_5 3
  have bO_5_f := frozen_of_heap bO_5
  have X_5 := X_4.kp hk5 (fun b hb e => by have := X_4.lt b hb; omega)
  have Y_5 := Y_4.kp hk5 (fun b e => by omega)
  go_wp2_with fail
  have hk6 : One (w.heap.size + 1) ((w3.setCell ⟨w.heap.size + 1 + 1, 2, none⟩ (.slice aY xa.length cY)).setCell ⟨w.heap.size + 1 + 1, 3, none⟩ (.slice aZ xb.length cZ)) (((w3.setCell ⟨w.heap.size + 1 + 1, 2, none⟩ (.slice aY xa.length cY)).setCell ⟨w.heap.size + 1 + 1, 3, none⟩ (.slice aZ xb.length cZ)).setCell ⟨w.heap.size + 1, 0, none⟩ (.int .i64 pc)) := (Kp.refl (fun k => k = w.heap.size + 1) _).setCell (.inl rfl) _
  have z6 : ((w3.setCell ⟨w.heap.size + 1 + 1, 2, none⟩ (.slice aY xa.length cY)).setCell ⟨w.heap.size + 1 + 1, 3, none⟩ (.slice aZ xb.length cZ)).heap.size ≤ (((w3.setCell ⟨w.heap.size + 1 + 1, 2, none⟩ (.slice aY xa.length cY)).setCell ⟨w.heap.size + 1 + 1, 3, none⟩ (.slice aZ xb.length cZ)).setCell ⟨w.heap.size + 1, 0, none⟩ (.int .i64 pc)).heap.size := hk6.size
  have N6 : New w (((w3.setCell ⟨w.heap.size + 1 + 1, 2, none⟩ (.slice aY xa.length cY)).setCell ⟨w.heap.size + 1 + 1, 3, none⟩ (.slice aZ xb.length cZ)).setCell ⟨w.heap.size + 1, 0, none⟩ (.int .i64 pc)) := New.one N5 hk6 (by omega)
  have bA_6 : (((w3.setCell ⟨w.heap.size + 1 + 1, 2, none⟩ (.slice aY xa.length cY)).setCell ⟨w.heap.size + 1 + 1, 3, none⟩ (.slice aZ xb.length cZ)).setCell ⟨w.heap.size + 1, 0, none⟩ (.int .i64 pc)).heap[w.heap.size]? = some (.cells #[.int .i64 pc, mr, ma, mb] 70) := heap_set bA_5 (by omega) _
  have bA_6_c0 := cell_of_heap bA_6 0
  have bA_6_c1 := cell_of_heap bA_6 1
  have bA_6_c2 := cell_of_heap bA_6 2
  have bA_6_c3 := cell_of_heap bA_6 3
  have bR_6 : (((w3.setCell ⟨w.heap.size + 1 + 1, 2, none⟩ (.slice aY xa.length cY)).setCell ⟨w.heap.size + 1 + 1, 3, none⟩ (.slice aZ xb.length cZ)).setCell ⟨w.heap.size + 1, 0, none⟩ (.int .i64 pc)).heap[w.heap.size + 1]? = some (.cells #[.int .i64 pc, .slice none 0 0, .slice none 0 0, .slice none 0 0] 31) := setCell_heap bR_5 _
  have bR_6_c0 := cell_of_heap bR_6 0
  have bR_6_c1 := cell_of_heap bR_6 1
  have bR_6_c2 := cell_of_heap bR_6 2
  have bR_6_c3 := cell_of_heap bR_6 3
  have bR_6_f := frozen_of_heap bR_6
  have bO_6 : (((w3.setCell ⟨w.heap.size + 1 + 1, 2, none⟩ (.slice aY xa.length cY)).setCell ⟨w.heap.size + 1 + 1, 3, none⟩ (.slice aZ xb.length cZ)).setCell ⟨w.heap.size + 1, 0, none⟩ (.int .i64 pc)).heap[w.heap.size + 1 + 1]? = some (.cells #[.int .i64 pc, .slice aX xr.length cX, .slice aY xa.length cY, .slice aZ xb.length cZ] 31) := heap_set bO_5 (by omega) _
  have bO_6_c0 := cell_of_heap bO_6 0
  have bO_6_c1 := cell_of_heap bO_6 1
  have bO_6_c2 := cell_of_heap bO_6 2
  have bO_6_c3 := cell_of_heap bO_6 3
  have bO_6_f := frozen_of_heap bO_6
  have X_6 := X_5.kp hk6 (fun b hb e => by have := X_5.lt b hb; omega)
  have Y_6 := Y_5.kp hk6 (fun b e => by omega)
  have hk7 : One (w.heap.size + 1) (((w3.setCell ⟨w.heap.size + 1 + 1, 2, none⟩ (.slice aY xa.length cY)).setCell ⟨w.heap.size + 1 + 1, 3, none⟩ (.slice aZ xb.length cZ)).setCell ⟨w.heap.size + 1, 0, none⟩ (.int .i64 pc)) ((((w3.setCell ⟨w.heap.size + 1 + 1, 2, none⟩ (.slice aY xa.length cY)).setCell ⟨w.heap.size + 1 + 1, 3, none⟩ (.slice aZ xb.length cZ)).setCell ⟨w.heap.size + 1, 0, none⟩ (.int .i64 pc)).setCell ⟨w.heap.size + 1, 1, none⟩ (.slice aX xr.length cX)) := (Kp.refl (fun k => k = w.heap.size + 1) _).setCell (.inl rfl) _
  have z7 : (((w3.setCell ⟨w.heap.size + 1 + 1, 2, none⟩ (.slice aY xa.length cY)).setCell ⟨w.heap.size + 1 + 1, 3, none⟩ (.slice aZ xb.length cZ)).setCell ⟨w.heap.size + 1, 0, none⟩ (.int .i64 pc)).heap.size ≤ ((((w3.setCell ⟨w.heap.size + 1 + 1, 2, none⟩ (.slice aY xa.length cY)).setCell ⟨w.heap.size + 1 + 1, 3, none⟩ (.slice aZ xb.length cZ)).setCell ⟨w.heap.size + 1, 0, none⟩ (.int .i64 pc)).setCell ⟨w.heap.size + 1, 1, none⟩ (.slice aX xr.length cX)).heap.size := hk7.size
  have N7 : New w ((((w3.setCell ⟨w.heap.size + 1 + 1, 2, none⟩ (.slice aY xa.length cY)).setCell ⟨w.heap.size + 1 + 1, 3, none⟩ (.slice aZ xb.length cZ)).setCell ⟨w.heap.size + 1, 0, none⟩ (.int .i64 pc)).setCell ⟨w.heap.size + 1, 1, none⟩ (.slice aX xr.length cX)) := New.one N6 hk7 (by omega)
  have bA_7 : ((((w3.setCell ⟨w.heap.size + 1 + 1, 2, none⟩ (.slice aY xa.length cY)).setCell ⟨w.heap.size + 1 + 1, 3, none⟩ (.slice aZ xb.length cZ)).setCell ⟨w.heap.size + 1, 0, none⟩ (.int .i64 pc)).setCell ⟨w.heap.size + 1, 1, none⟩ (.slice aX xr.length cX)).heap[w.heap.size]? = some (.cells #[.int .i64 pc, mr, ma, mb] 70) := heap_set bA_6 (by omega) _
  have bA_7_c0 := cell_of_heap bA_7 0
  have bA_7_c1 := cell_of_heap bA_7 1
  have bA_7_c2 := cell_of_heap bA_7 2
  have bA_7_c3 := cell_of_heap bA_7 3
  have bR_7 : ((((w3.setCell ⟨w.heap.size + 1 + 1, 2, none⟩ (.slice aY xa.length cY)).setCell ⟨w.heap.size + 1 + 1, 3, none⟩ (.slice aZ xb.length cZ)).setCell ⟨w.heap.size + 1, 0, none⟩ (.int .i64 pc)).setCell ⟨w.heap.size + 1, 1, none⟩ (.slice aX xr.length cX)).heap[w.heap.size + 1]? = some (.cells #[.int .i64 pc, .slice aX xr.length cX, .slice none 0 0, .slice none 0 0] 31) := setCell_heap bR_6 _
  have bR_7_c0 := cell_of_heap bR_7 0
  have bR_7_c1 := cell_of_heap bR_7 1
  have bR_7_c2 := cell_of_heap bR_7 2
  have bR_7_c3 := cell_of_heap bR_7 3
  have bR_7_f := frozen_of_heap bR_7
  have bO_7 : ((((w3.setCell ⟨w.heap.size + 1 + 1, 2, none⟩ (.slice aY xa.length cY)).setCell ⟨w.heap.size + 1 + 1, 3, none⟩ (.slice aZ xb.length cZ)).setCell ⟨w.heap.size + 1, 0, none⟩ (.int .i64 pc)).setCell ⟨w.heap.size + 1, 1, none⟩ (.slice aX xr.length cX)).heap[w.heap.size + 1 + 1]? = some (.cells #[.int .i64 pc, .slice aX xr.length cX, .slice aY xa.length cY, .slice aZ xb.length cZ] 31) := heap_set bO_6 (by omega) _
  have bO_7_c0 := cell_of_heap bO_7 0
  have bO_7_c1 := cell_of_heap bO_7 1
  have bO_7_c2 := cell_of_heap bO_7 2
  have bO_7_c3 := cell_of_heap bO_7 3
  have bO_7_f := frozen_of_heap bO_7
  have X_7 := X_6.kp hk7 (fun b hb e => by have := X_6.lt b hb; omega)
  have Y_7 := Y_6.kp hk7 (fun b e => by omega)
  have hk8 : One (w.heap.size + 1) ((((w3.setCell ⟨w.heap.size + 1 + 1, 2, none⟩ (.slice aY xa.length cY)).setCell ⟨w.heap.size + 1 + 1, 3, none⟩ (.slice aZ xb.length cZ)).setCell ⟨w.heap.size + 1, 0, none⟩ (.int .i64 pc)).setCell ⟨w.heap.size + 1, 1, none⟩ (.slice aX xr.length cX)) (((((w3.setCell ⟨w.heap.size + 1 + 1, 2, none⟩ (.slice aY xa.length cY)).setCell ⟨w.heap.size + 1 + 1, 3, none⟩ (.slice aZ xb.length cZ)).setCell ⟨w.heap.size + 1, 0, none⟩ (.int .i64 pc)).setCell ⟨w.heap.size + 1, 1, none⟩ (.slice aX xr.length cX)).setCell ⟨w.heap.size + 1, 2, none⟩ (.slice aY xa.length cY)) := (Kp.refl (fun k => k = w.heap.size + 1) _).setCell (.inl rfl) _
  have z8 : ((((w3.setCell ⟨w.heap.size + 1 + 1, 2, none⟩ (.slice aY xa.length cY)).setCell ⟨w.heap.size + 1 + 1, 3, none⟩ (.slice aZ xb.length cZ)).setCell ⟨w.heap.size + 1, 0, none⟩ (.int .i64 pc)).setCell ⟨w.heap.size + 1, 1, none⟩ (.slice aX xr.length cX)).heap.size ≤ (((((w3.setCell ⟨w.heap.size + 1 + 1, 2, none⟩ (.slice aY xa.length cY)).setCell ⟨w.heap.size + 1 + 1, 3, none⟩ (.slice aZ xb.length cZ)).setCell ⟨w.heap.size + 1, 0, none⟩ (.int .i64 pc)).setCell ⟨w.heap.size + 1, 1, none⟩ (.slice aX xr.length cX)).setCell ⟨w.heap.size + 1, 2, none⟩ (.slice aY xa.length cY)).heap.size := hk8.size
  have N8 : New w (((((w3.setCell ⟨w.heap.size + 1 + 1, 2, none⟩ (.slice aY xa.length cY)).setCell ⟨w.heap.size + 1 + 1, 3, none⟩ (.slice aZ xb.length cZ)).setCell ⟨w.heap.size + 1, 0, none⟩ (.int .i64 pc)).setCell ⟨w.heap.size + 1, 1, none⟩ (.slice aX xr.length cX)).setCell ⟨w.heap.size + 1, 2, none⟩ (.slice aY xa.length cY)) := New.one N7 hk8 (by omega)
  have bA_8 : (((((w3.setCell ⟨w.heap.size + 1 + 1, 2, none⟩ (.slice aY xa.length cY)).setCell ⟨w.heap.size + 1 + 1, 3, none⟩ (.slice aZ xb.length cZ)).setCell ⟨w.heap.size + 1, 0, none⟩ (.int .i64 pc)).setCell ⟨w.heap.size + 1, 1, none⟩ (.slice aX xr.length cX)).setCell ⟨w.heap.size + 1, 2, none⟩ (.slice aY xa.length cY)).heap[w.heap.size]? = some (.cells #[.int .i64 pc, mr, ma, mb] 70) := heap_set bA_7 (by omega) _
  have bA_8_c0 := cell_of_heap bA_8 0
  have bA_8_c1 := cell_of_heap bA_8 1
  have bA_8_c2 := cell_of_heap bA_8 2
  have bA_8_c3 := cell_of_heap bA_8 3
  have bR_8 : (((((w3.setCell ⟨w.heap.size + 1 + 1, 2, none⟩ (.slice aY xa.length cY)).setCell ⟨w.heap.size + 1 + 1, 3, none⟩ (.slice aZ xb.length cZ)).setCell ⟨w.heap.size + 1, 0, none⟩ (.int .i64 pc)).setCell ⟨w.heap.size + 1, 1, none⟩ (.slice aX xr.length cX)).setCell ⟨w.heap.size + 1, 2, none⟩ (.slice aY xa.length cY)).heap[w.heap.size + 1]? = some (.cells #[.int .i64 pc, .slice aX xr.length cX, .slice aY xa.length cY, .slice none 0 0] 31) := setCell_heap bR_7 _
  have bR_8_c0 := cell_of_heap bR_8 0
  have bR_8_c1 := cell_of_heap bR_8 1
  have bR_8_c2 := cell_of_heap bR_8 2
  have bR_8_c3 := cell_of_heap bR_8 3
  have bR_8_f := frozen_of_heap bR_8
  have bO_8 : (((((w3.setCell ⟨w.heap.size + 1 + 1, 2, none⟩ (.slice aY xa.length cY)).setCell ⟨w.heap.size + 1 + 1, 3, none⟩ (.slice aZ xb.length cZ)).setCell ⟨w.heap.size + 1, 0, none⟩ (.int .i64 pc)).setCell ⟨w.heap.size + 1, 1, none⟩ (.slice aX xr.length cX)).setCell ⟨w.heap.size + 1, 2, none⟩ (.slice aY xa.length cY)).heap[w.heap.size + 1 + 1]? = some (.cells #[.int .i64 pc, .slice aX xr.length cX, .slice aY xa.length cY, .slice aZ xb.length cZ] 31) := heap_set bO_7 (by omega) _
  have bO_8_c0 := cell_of_heap bO_8 0
  have bO_8_c1 := cell_of_heap bO_8 1
  have bO_8_c2 := cell_of_heap bO_8 2
  have bO_8_c3 := cell_of_heap bO_8 3
  have bO_8_f := frozen_of_heap bO_8
  have X_8 := X_7.kp hk8 (fun b hb e => by have := X_7.lt b hb; omega)
  have Y_8 := Y_7.kp hk8 (fun b e => by omega)
  have hk9 : One (w.heap.size + 1) (((((w3.setCell ⟨w.heap.size + 1 + 1, 2, none⟩ (.slice aY xa.length cY)).setCell ⟨w.heap.size + 1 + 1, 3, none⟩ (.slice aZ xb.length cZ)).setCell ⟨w.heap.size + 1, 0, none⟩ (.int .i64 pc)).setCell ⟨w.heap.size + 1, 1, none⟩ (.slice aX xr.length cX)).setCell ⟨w.heap.size + 1, 2, none⟩ (.slice aY xa.length cY)) ((((((w3.setCell ⟨w.heap.size + 1 + 1, 2, none⟩ (.slice aY xa.length cY)).setCell ⟨w.heap.size + 1 + 1, 3, none⟩ (.slice aZ xb.length cZ)).setCell ⟨w.heap.size + 1, 0, none⟩ (.int .i64 pc)).setCell ⟨w.heap.size + 1, 1, none⟩ (.slice aX xr.length cX)).setCell ⟨w.heap.size + 1, 2, none⟩ (.slice aY xa.length cY)).setCell ⟨w.heap.size + 1, 3, none⟩ (.slice aZ xb.length cZ)) := (Kp.refl (fun k => k = w.heap.size + 1) _).setCell (.inl rfl) _
  have z9 : (((((w3.setCell ⟨w.heap.size + 1 + 1, 2, none⟩ (.slice aY xa.length cY)).setCell ⟨w.heap.size + 1 + 1, 3, none⟩ (.slice aZ xb.length cZ)).setCell ⟨w.heap.size + 1, 0, none⟩ (.int .i64 pc)).setCell ⟨w.heap.size + 1, 1, none⟩ (.slice aX xr.length cX)).setCell ⟨w.heap.size + 1, 2, none⟩ (.slice aY xa.length cY)).heap.size ≤ ((((((w3.setCell ⟨w.heap.size + 1 + 1, 2, none⟩ (.slice aY xa.length cY)).setCell ⟨w.heap.size + 1 + 1, 3, none⟩ (.slice aZ xb.length cZ)).setCell ⟨w.heap.size + 1, 0, none⟩ (.int .i64 pc)).setCell ⟨w.heap.size + 1, 1, none⟩ (.slice aX xr.length cX)).setCell ⟨w.heap.size + 1, 2, none⟩ (.slice aY xa.length cY)).setCell ⟨w.heap.size + 1, 3, none⟩ (.slice aZ xb.length cZ)).heap.size := hk9.size
  have N9 : New w ((((((w3.setCell ⟨w.heap.size + 1 + 1, 2, none⟩ (.slice aY xa.length cY)).setCell ⟨w.heap.size + 1 + 1, 3, none⟩ (.slice aZ xb.length cZ)).setCell ⟨w.heap.size + 1, 0, none⟩ (.int .i64 pc)).setCell ⟨w.heap.size + 1, 1, none⟩ (.slice aX xr.length cX)).setCell ⟨w.heap.size + 1, 2, none⟩ (.slice aY xa.length cY)).setCell ⟨w.heap.size + 1, 3, none⟩ (.slice aZ xb.length cZ)) := New.one N8 hk9 (by omega)
  have bA_9 : ((((((w3.setCell ⟨w.heap.size + 1 + 1, 2, none⟩ (.slice aY xa.length cY)).setCell ⟨w.heap.size + 1 + 1, 3, none⟩ (.slice aZ xb.length cZ)).setCell ⟨w.heap.size + 1, 0, none⟩ (.int .i64 pc)).setCell ⟨w.heap.size + 1, 1, none⟩ (.slice aX xr.length cX)).setCell ⟨w.heap.size + 1, 2, none⟩ (.slice aY xa.length cY)).setCell ⟨w.heap.size + 1, 3, none⟩ (.slice aZ xb.length cZ)).heap[w.heap.size]? = some (.cells #[.int .i64 pc, mr, ma, mb] 70) := heap_set bA_8 (by omega) _
  have bA_9_c0 := cell_of_heap bA_9 0
  have bA_9_c1 := cell_of_heap bA_9 1
  have bA_9_c2 := cell_of_heap bA_9 2
  have bA_9_c3 := cell_of_heap bA_9 3
  have bR_9 : ((((((w3.setCell ⟨w.heap.size + 1 + 1, 2, none⟩ (.slice aY xa.length cY)).setCell ⟨w.heap.size + 1 + 1, 3, none⟩ (.slice aZ xb.length cZ)).setCell ⟨w.heap.size + 1, 0, none⟩ (.int .i64 pc)).setCell ⟨w.heap.size + 1, 1, none⟩ (.slice aX xr.length cX)).setCell ⟨w.heap.size + 1, 2, none⟩ (.slice aY xa.length cY)).setCell ⟨w.heap.size + 1, 3, none⟩ (.slice aZ xb.length cZ)).heap[w.heap.size + 1]? = some (.cells #[.int .i64 pc, .slice aX xr.length cX, .slice aY xa.length cY, .slice aZ xb.length cZ] 31) := setCell_heap bR_8 _
  have bR_9_c0 := cell_of_heap bR_9 0
  have bR_9_c1 := cell_of_heap bR_9 1
  have bR_9_c2 := cell_of_heap bR_9 2
  have bR_9_c3 := cell_of_heap bR_9 3
  have bR_9_f := frozen_of_heap bR_9
  have bO_9 : ((((((w3.setCell ⟨w.heap.size + 1 + 1, 2, none⟩ (.slice aY xa.length cY)).setCell ⟨w.heap.size + 1 + 1, 3, none⟩ (.slice aZ xb.length cZ)).setCell ⟨w.heap.size + 1, 0, none⟩ (.int .i64 pc)).setCell ⟨w.heap.size + 1, 1, none⟩ (.slice aX xr.length cX)).setCell ⟨w.heap.size + 1, 2, none⟩ (.slice aY xa.length cY)).setCell ⟨w.heap.size + 1, 3, none⟩ (.slice aZ xb.length cZ)).heap[w.heap.size + 1 + 1]? = some (.cells #[.int .i64 pc, .slice aX xr.length cX, .slice aY xa.length cY, .slice aZ xb.length cZ] 31) := heap_set bO_8 (by omega) _
  have bO_9_c0 := cell_of_heap bO_9 0
  have bO_9_c1 := cell_of_heap bO_9 1
  have bO_9_c2 := cell_of_heap bO_9 2
  have bO_9_c3 := cell_of_heap bO_9 3
  have bO_9_f := frozen_of_heap bO_9
  have X_9 := X_8.kp hk9 (fun b hb e => by have := X_8.lt b hb; omega)
  have Y_9 := Y_8.kp hk9 (fun b e => by omega)
  refine bodyPost_ret (results_cell_row rfl _ _ _ _ _ _ _ rfl bR_9 Try.underlying31 rfl (by kernel_rfl)) rfl ⟨_, _, _, rfl, N9, w.heap.size, w2.heap.size, w2.heap.size, _, Nat.le_refl _, by simp; omega, by omega, Nat.le_refl _, .inl (Nat.le_refl _), ⟨X_9.mono (by omega), fun b hb => by have := hXt.out b hb; omega⟩, Y_9.mono (Nat.le_refl _) (by simp)⟩
end Go.Proofs.Ytljokgoghphgdaa.ToO
