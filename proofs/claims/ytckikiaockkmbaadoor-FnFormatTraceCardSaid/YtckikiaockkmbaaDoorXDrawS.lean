/- Draws of single statements. Conditions: fewer than 2^40 picks so far. -/
import Derived.Test.YtckikiaockkmbaaDoorXDrawB
import Derived.Test.YtckikiaockkmbaaDoorXP1
namespace Go.Proofs.YtckikiaockkmbaaDoor.DrawS
open Go.RowKit Kit Draw DrawX DrawB
set_option linter.unusedVariables false
set_option maxHeartbeats 16000000 in
set_option maxRecDepth 100000 in
theorem stmt_of (a1 a2 a3 : Option Addr) (nv d1 na d2 nb d3 : Nat) (hnv : nv ≤ 1000000) (hna : na ≤ 1000000) (z : Int) (c s : Nat) (hz : z ≤ 1000)
    (hB : 1 < z → ∀ (w : World) (br p n : Nat), n ≤ 4 → Rd w br p → p + 4 * c < 1099511627776 → Calls Tryd.prog 68 #[.pointer (some ⟨br, 0, none⟩), .agg #[.slice a1 nv d1, .slice a2 na d2, .slice a3 nb d3], .int .i64 (z - 1), .int .i64 n] w (GotB w br p (4 * c) (4 * s)))
    (w : World) (br p : Nat) (h : Rd w br p) (hp : p + 8 * c + 1300 < 1099511627776) :
    Calls Tryd.prog 88 #[.pointer (some ⟨br, 0, none⟩), .agg #[.slice a1 nv d1, .slice a2 na d2, .slice a3 nb d3], .int .i64 z] w (GotS w br p (8 * c + 1200) (8 * s + 260)) := by
  have hBh := Lib.hid hB
  clear hB
  have hbl := h.lt
  go_enter Tryd.func88, Tryd.ntmps88
  go_upto_region 1 with fail
  have N0 : New w ((w.alloc (.cells #[.slice a1 nv d1, .slice a2 na d2, .slice a3 nb d3] 41)).alloc (.cells #[.int .i64 0, .int .i64 0, .int .i64 0, .int .i64 0, .slice none 0 0, .int .i64 0, .int .i64 0, .slice none 0 0, .int .i64 0, .slice none 0 0, .slice none 0 0] 92)) := ((Kp.refl _ _).alloc _).alloc _
  have bP_0 : ((w.alloc (.cells #[.slice a1 nv d1, .slice a2 na d2, .slice a3 nb d3] 41)).alloc (.cells #[.int .i64 0, .int .i64 0, .int .i64 0, .int .i64 0, .slice none 0 0, .int .i64 0, .int .i64 0, .slice none 0 0, .int .i64 0, .slice none 0 0, .slice none 0 0] 92)).heap[w.heap.size]? = some (.cells #[.slice a1 nv d1, .slice a2 na d2, .slice a3 nb d3] 41) := heap_old (alloc_heap _ _)
  have bR_0 : ((w.alloc (.cells #[.slice a1 nv d1, .slice a2 na d2, .slice a3 nb d3] 41)).alloc (.cells #[.int .i64 0, .int .i64 0, .int .i64 0, .int .i64 0, .slice none 0 0, .int .i64 0, .int .i64 0, .slice none 0 0, .int .i64 0, .slice none 0 0, .slice none 0 0] 92)).heap[w.heap.size + 1]? = some (.cells #[.int .i64 0, .int .i64 0, .int .i64 0, .int .i64 0, .slice none 0 0, .int .i64 0, .int .i64 0, .slice none 0 0, .int .i64 0, .slice none 0 0, .slice none 0 0] 92) := heap_at (by simp)
  have z0 : w.heap.size + 1 < ((w.alloc (.cells #[.slice a1 nv d1, .slice a2 na d2, .slice a3 nb d3] 41)).alloc (.cells #[.int .i64 0, .int .i64 0, .int .i64 0, .int .i64 0, .slice none 0 0, .int .i64 0, .int .i64 0, .slice none 0 0, .int .i64 0, .slice none 0 0, .slice none 0 0] 92)).heap.size := by simp
  generalize ((w.alloc (.cells #[.slice a1 nv d1, .slice a2 na d2, .slice a3 nb d3] 41)).alloc (.cells #[.int .i64 0, .int .i64 0, .int .i64 0, .int .i64 0, .slice none 0 0, .int .i64 0, .int .i64 0, .slice none 0 0, .int .i64 0, .slice none 0 0, .slice none 0 0] 92)) = w0 at *
  have r0 := h.nw N0
  have K0 : One br w w0 := N0.mono (fun _ _ f => f.elim)
  clear N0 h
  go_wp2_with fail
  refine (num _ br p _ 8 _ (fun x => 1 ≤ x ∧ x ≤ 5) (r0.keep (S := fun _ => False) ((Kp.refl _ _).alloc _) (fun _ f => f.elim)) (by omega) (by omega) (by have := r0.lt; omega) (by omega) ?_).mono ?_
  · intro i hi
    match i, hi with
    | 0, _ => exact ⟨_, by decide, World.cell?_alloc_new _ _ _ _⟩
    | 1, _ => exact ⟨_, by decide, World.cell?_alloc_new _ _ _ _⟩
    | 2, _ => exact ⟨_, by decide, World.cell?_alloc_new _ _ _ _⟩
    | 3, _ => exact ⟨_, by decide, World.cell?_alloc_new _ _ _ _⟩
    | 4, _ => exact ⟨_, by decide, World.cell?_alloc_new _ _ _ _⟩
    | 5, _ => exact ⟨_, by decide, World.cell?_alloc_new _ _ _ _⟩
    | 6, _ => exact ⟨_, by decide, World.cell?_alloc_new _ _ _ _⟩
    | 7, _ => exact ⟨_, by decide, World.cell?_alloc_new _ _ _ _⟩
  rintro e w1 ⟨x, rfl, ⟨x1, x5⟩, k1, r1⟩
  have hn1 : One br w0 w1 := ((Kp.refl (fun k => k = br) w0).alloc _).trans k1
  clear k1
  have z1 := hn1.size
  have bP_1 := hn1.bo bP_0
  have bR_1 := hn1.bo bR_0
  have K1 := K0.trans hn1
  clear bP_0 bR_0 K0 r0 hn1
  have hn2 : New w1 (w1.alloc (.cells #[.int .i64 x, .int .i64 0, .int .i64 0, .int .i64 0, .slice none 0 0, .int .i64 0, .int .i64 0, .slice none 0 0, .int .i64 0, .slice none 0 0, .slice none 0 0] 92)) := (Kp.refl _ _).alloc _
  have bE_2 := alloc_heap w1 (.cells #[.int .i64 x, .int .i64 0, .int .i64 0, .int .i64 0, .slice none 0 0, .int .i64 0, .int .i64 0, .slice none 0 0, .int .i64 0, .slice none 0 0, .slice none 0 0] 92)
  have y2 : w1.heap.size < (w1.alloc (.cells #[.int .i64 x, .int .i64 0, .int .i64 0, .int .i64 0, .slice none 0 0, .int .i64 0, .int .i64 0, .slice none 0 0, .int .i64 0, .slice none 0 0, .slice none 0 0] 92)).heap.size := lt_alloc _ _
  go_upto_region 7 with fail
  generalize hbo : w1.heap.size = bo at bE_2 y2 ⊢
  have hbo2 : w.heap.size + 1 < bo := by omega
  generalize (w1.alloc (.cells #[.int .i64 x, .int .i64 0, .int .i64 0, .int .i64 0, .slice none 0 0, .int .i64 0, .int .i64 0, .slice none 0 0, .int .i64 0, .slice none 0 0, .slice none 0 0] 92)) = w2 at *
  have z2 := hn2.size
  have bP_2 := heap_new hn2 bP_1
  have bR_2 := heap_new hn2 bR_1
  have K2 := K1.nw hn2
  have r2 := r1.nw hn2
  have hbr : br < bo := by omega
  clear hn2 bP_1 bR_1 K1 r1
  obtain rfl | rfl | rfl | rfl | rfl : x = 1 ∨ x = 2 ∨ x = 3 ∨ x = 4 ∨ x = 5 := by omega
  · obtain ⟨cP0, cP1, cP2⟩ := cells3 bP_2
    have lP := heap_lt bP_2
    obtain ⟨cE0, cE1, cE2, cE3, cE4, cE5, cE6, cE7⟩ := cells8 bE_2
    have cE8 := cell_of_heap bE_2 8
    have cE9 := cell_of_heap bE_2 9
    have cE10 := cell_of_heap bE_2 10
    have fE := frozen_of_heap bE_2
    have lE := heap_lt bE_2
    go_wp2_with fail
    have hk3 : Kp (fun k => k = bo) w2 (w2.setCell ⟨bo, 0, none⟩ (.int .i64 1)) := (Kp.setCell (Kp.refl (fun k => k = bo) _) (.inl rfl) _)
    have z3 := hk3.size
    have bP_3 := hk3.bo bP_2
    have bR_3 := hk3.bo bR_2
    have bE_3 : (w2.setCell ⟨bo, 0, none⟩ (.int .i64 1)).heap[bo]? = some (.cells #[.int .i64 1, .int .i64 0, .int .i64 0, .int .i64 0, .slice none 0 0, .int .i64 0, .int .i64 0, .slice none 0 0, .int .i64 0, .slice none 0 0, .slice none 0 0] 92) := (setCell_heap bE_2 _)
    have K3 : One br w (w2.setCell ⟨bo, 0, none⟩ (.int .i64 1)) := one_on K2 hk3 (by omega)
    have r3 := r2.kp hk3
    clear cP0 cP1 cP2 lP cE0 cE1 cE2 cE3 cE4 cE5 cE6 cE7 cE8 cE9 cE10 fE lE
    clear bP_2 bR_2 bE_2 K2 r2 hk3
    generalize (w2.setCell ⟨bo, 0, none⟩ (.int .i64 1)) = w3 at *
    refine (pick w3 br (p + 1) _ r3 (by omega)).mono ?_
    rintro e w4 ⟨t, rfl, t0, t1, t2, hn4, r4⟩
    have z4 := hn4.size
    have bP_4 := hn4.bo bP_3
    have bR_4 := hn4.bo bR_3
    have bE_4 := hn4.bo bE_3
    have K4 := K3.trans hn4
    clear bP_3 bR_3 bE_3 K3 r3 hn4
    obtain ⟨cP0, cP1, cP2⟩ := cells3 bP_4
    have lP := heap_lt bP_4
    obtain ⟨cE0, cE1, cE2, cE3, cE4, cE5, cE6, cE7⟩ := cells8 bE_4
    have cE8 := cell_of_heap bE_4 8
    have cE9 := cell_of_heap bE_4 9
    have cE10 := cell_of_heap bE_4 10
    have fE := frozen_of_heap bE_4
    have lE := heap_lt bE_4
    go_wp2_with fail
    have hk5 : Kp (fun k => k = bo) w4 (w4.setCell ⟨bo, 1, none⟩ (.int .i64 t)) := (Kp.setCell (Kp.refl (fun k => k = bo) _) (.inl rfl) _)
    have z5 := hk5.size
    have bP_5 := hk5.bo bP_4
    have bR_5 := hk5.bo bR_4
    have bE_5 : (w4.setCell ⟨bo, 1, none⟩ (.int .i64 t)).heap[bo]? = some (.cells #[.int .i64 1, .int .i64 t, .int .i64 0, .int .i64 0, .slice none 0 0, .int .i64 0, .int .i64 0, .slice none 0 0, .int .i64 0, .slice none 0 0, .slice none 0 0] 92) := (setCell_heap bE_4 _)
    have K5 : One br w (w4.setCell ⟨bo, 1, none⟩ (.int .i64 t)) := one_on K4 hk5 (by omega)
    have r5 := r4.kp hk5
    clear cP0 cP1 cP2 lP cE0 cE1 cE2 cE3 cE4 cE5 cE6 cE7 cE8 cE9 cE10 fE lE
    clear bP_4 bR_4 bE_4 K4 r4 hk5
    generalize (w4.setCell ⟨bo, 1, none⟩ (.int .i64 t)) = w5 at *
    refine (l2Small a1 a2 a3 nv d1 na d2 nb d3 hnv hna w5 br (p + 1 + 1) r5 (by omega)).mono ?_
    rintro e w6 ⟨kV, vV, aV, tV, lV, qV, rfl, hn6, r6, hqV, hkV, hsV, bV1, bV2, bV3, bV4⟩
    have z6 := hn6.size
    have bP_6 := hn6.bo bP_5
    have bR_6 := hn6.bo bR_5
    have bE_6 := hn6.bo bE_5
    have K6 := K5.trans hn6
    clear bP_5 bR_5 bE_5 K5 r5 hn6
    have oV_6 := Lib.hid hkV
    clear hkV
    obtain ⟨cP0, cP1, cP2⟩ := cells3 bP_6
    have lP := heap_lt bP_6
    obtain ⟨cE0, cE1, cE2, cE3, cE4, cE5, cE6, cE7⟩ := cells8 bE_6
    have cE8 := cell_of_heap bE_6 8
    have cE9 := cell_of_heap bE_6 9
    have cE10 := cell_of_heap bE_6 10
    have fE := frozen_of_heap bE_6
    have lE := heap_lt bE_6
    go_upto_region 18 with fail
    have hk7 : Kp (fun k => k = bo) w6 (((w6.setCell ⟨bo, 5, none⟩ (.int .i64 kV)).setCell ⟨bo, 6, none⟩ (.int .i64 vV)).setCell ⟨bo, 7, none⟩ (.slice aV lV.length tV)) := (Kp.setCell (Kp.setCell (Kp.setCell (Kp.refl (fun k => k = bo) _) (.inl rfl) _) (.inl rfl) _) (.inl rfl) _)
    have z7 := hk7.size
    have bP_7 := hk7.bo bP_6
    have bR_7 := hk7.bo bR_6
    have bE_7 : (((w6.setCell ⟨bo, 5, none⟩ (.int .i64 kV)).setCell ⟨bo, 6, none⟩ (.int .i64 vV)).setCell ⟨bo, 7, none⟩ (.slice aV lV.length tV)).heap[bo]? = some (.cells #[.int .i64 1, .int .i64 t, .int .i64 0, .int .i64 0, .slice none 0 0, .int .i64 kV, .int .i64 vV, .slice aV lV.length tV, .int .i64 0, .slice none 0 0, .slice none 0 0] 92) := (setCell_heap (setCell_heap (setCell_heap bE_6 _) _) _)
    have oV_7 := Lib.hid (oV_6.out.kp hk7 (by omega) (fun i e => by omega))
    have K7 : One br w (((w6.setCell ⟨bo, 5, none⟩ (.int .i64 kV)).setCell ⟨bo, 6, none⟩ (.int .i64 vV)).setCell ⟨bo, 7, none⟩ (.slice aV lV.length tV)) := one_on K6 hk7 (by omega)
    have r7 := r6.kp hk7
    clear cP0 cP1 cP2 lP cE0 cE1 cE2 cE3 cE4 cE5 cE6 cE7 cE8 cE9 cE10 fE lE
    clear bP_6 bR_6 bE_6 oV_6 K6 r6 hk7
    generalize (((w6.setCell ⟨bo, 5, none⟩ (.int .i64 kV)).setCell ⟨bo, 6, none⟩ (.int .i64 vV)).setCell ⟨bo, 7, none⟩ (.slice aV lV.length tV)) = w7 at *
    obtain ⟨cE0, cE1, cE2, cE3, cE4, cE5, cE6, cE7⟩ := cells8 bE_7
    have cE8 := cell_of_heap bE_7 8
    have cE9 := cell_of_heap bE_7 9
    have cE10 := cell_of_heap bE_7 10
    have lE := heap_lt bE_7
    obtain ⟨cR0, cR1, cR2, cR3, cR4, cR5, cR6, cR7⟩ := cells8 bR_7
    have cR8 := cell_of_heap bR_7 8
    have cR9 := cell_of_heap bR_7 9
    have cR10 := cell_of_heap bR_7 10
    have fR := frozen_of_heap bR_7
    have lR := heap_lt bR_7
    go_wp2
    have hkz := setMany_kp (w.heap.size + 1) [.int .i64 1, .int .i64 t, .int .i64 0, .int .i64 0, .slice none 0 0, .int .i64 kV, .int .i64 vV, .slice aV lV.length tV, .int .i64 0, .slice none 0 0, .slice none 0 0] w7 0
    have zs := setMany_size (w.heap.size + 1) [.int .i64 1, .int .i64 t, .int .i64 0, .int .i64 0, .slice none 0 0, .int .i64 kV, .int .i64 vV, .slice aV lV.length tV, .int .i64 0, .slice none 0 0, .slice none 0 0] w7 0
    have hR := setMany_row [.int .i64 1, .int .i64 t, .int .i64 0, .int .i64 0, .slice none 0 0, .int .i64 kV, .int .i64 vV, .slice aV lV.length tV, .int .i64 0, .slice none 0 0, .slice none 0 0] bR_7 rfl
    have uV := (oV_7.out.kp hkz (by omega) (fun i e => .inl (by omega))).mono (lo' := w.heap.size) (hi' := (setMany w7 (w.heap.size + 1) 0 [.int .i64 1, .int .i64 t, .int .i64 0, .int .i64 0, .slice none 0 0, .int .i64 kV, .int .i64 vV, .slice aV lV.length tV, .int .i64 0, .slice none 0 0, .slice none 0 0]).heap.size) (by omega) (by omega)
    exact bodyPost_ret (results_cell_row rfl _ _ _ _ _ _ _ rfl hR Tryd.underlying92 rfl (by kernel_rfl)) rfl ⟨⟨1, t, 0, 0, .slice none 0 0, kV, vV, .slice aV lV.length tV, 0, .slice none 0 0, .slice none 0 0⟩, .node 1 t (.node 0 0 []) (.node kV vV lV) 0 [] [], qV, rfl, one_on K7 hkz (by omega), r7.keep hkz (fun i e => by omega), by omega, ⟨rfl, rfl, rfl, rfl, .nil _ _, rfl, rfl, uV, rfl, .nil _ _, .nil _ _⟩, by simp only [St.size, Ex.kids, Ex.sizes, St.sizes]; omega⟩
  · by_cases hz0 : na = 0
    · subst hz0
      obtain ⟨cP0, cP1, cP2⟩ := cells3 bP_2
      have lP := heap_lt bP_2
      obtain ⟨cE0, cE1, cE2, cE3, cE4, cE5, cE6, cE7⟩ := cells8 bE_2
      have cE8 := cell_of_heap bE_2 8
      have cE9 := cell_of_heap bE_2 9
      have cE10 := cell_of_heap bE_2 10
      have fE := frozen_of_heap bE_2
      have lE := heap_lt bE_2
      go_wp2_with fail
      have hk3 : Kp (fun k => k = bo) w2 (w2.setCell ⟨bo, 0, none⟩ (.int .i64 1)) := (Kp.setCell (Kp.refl (fun k => k = bo) _) (.inl rfl) _)
      have z3 := hk3.size
      have bP_3 := hk3.bo bP_2
      have bR_3 := hk3.bo bR_2
      have bE_3 : (w2.setCell ⟨bo, 0, none⟩ (.int .i64 1)).heap[bo]? = some (.cells #[.int .i64 1, .int .i64 0, .int .i64 0, .int .i64 0, .slice none 0 0, .int .i64 0, .int .i64 0, .slice none 0 0, .int .i64 0, .slice none 0 0, .slice none 0 0] 92) := (setCell_heap bE_2 _)
      have K3 : One br w (w2.setCell ⟨bo, 0, none⟩ (.int .i64 1)) := one_on K2 hk3 (by omega)
      have r3 := r2.kp hk3
      clear cP0 cP1 cP2 lP cE0 cE1 cE2 cE3 cE4 cE5 cE6 cE7 cE8 cE9 cE10 fE lE
      clear bP_2 bR_2 bE_2 K2 r2 hk3
      generalize (w2.setCell ⟨bo, 0, none⟩ (.int .i64 1)) = w3 at *
      refine (pick w3 br (p + 1) _ r3 (by omega)).mono ?_
      rintro e w4 ⟨t, rfl, t0, t1, t2, hn4, r4⟩
      have z4 := hn4.size
      have bP_4 := hn4.bo bP_3
      have bR_4 := hn4.bo bR_3
      have bE_4 := hn4.bo bE_3
      have K4 := K3.trans hn4
      clear bP_3 bR_3 bE_3 K3 r3 hn4
      obtain ⟨cP0, cP1, cP2⟩ := cells3 bP_4
      have lP := heap_lt bP_4
      obtain ⟨cE0, cE1, cE2, cE3, cE4, cE5, cE6, cE7⟩ := cells8 bE_4
      have cE8 := cell_of_heap bE_4 8
      have cE9 := cell_of_heap bE_4 9
      have cE10 := cell_of_heap bE_4 10
      have fE := frozen_of_heap bE_4
      have lE := heap_lt bE_4
      go_wp2_with fail
      have hk5 : Kp (fun k => k = bo) w4 (w4.setCell ⟨bo, 1, none⟩ (.int .i64 t)) := (Kp.setCell (Kp.refl (fun k => k = bo) _) (.inl rfl) _)
      have z5 := hk5.size
      have bP_5 := hk5.bo bP_4
      have bR_5 := hk5.bo bR_4
      have bE_5 : (w4.setCell ⟨bo, 1, none⟩ (.int .i64 t)).heap[bo]? = some (.cells #[.int .i64 1, .int .i64 t, .int .i64 0, .int .i64 0, .slice none 0 0, .int .i64 0, .int .i64 0, .slice none 0 0, .int .i64 0, .slice none 0 0, .slice none 0 0] 92) := (setCell_heap bE_4 _)
      have K5 : One br w (w4.setCell ⟨bo, 1, none⟩ (.int .i64 t)) := one_on K4 hk5 (by omega)
      have r5 := r4.kp hk5
      clear cP0 cP1 cP2 lP cE0 cE1 cE2 cE3 cE4 cE5 cE6 cE7 cE8 cE9 cE10 fE lE
      clear bP_4 bR_4 bE_4 K4 r4 hk5
      generalize (w4.setCell ⟨bo, 1, none⟩ (.int .i64 t)) = w5 at *
      refine (l2Small a1 a2 a3 nv d1 0 d2 nb d3 hnv hna w5 br (p + 1 + 1) r5 (by omega)).mono ?_
      rintro e w6 ⟨kV, vV, aV, tV, lV, qV, rfl, hn6, r6, hqV, hkV, hsV, bV1, bV2, bV3, bV4⟩
      have z6 := hn6.size
      have bP_6 := hn6.bo bP_5
      have bR_6 := hn6.bo bR_5
      have bE_6 := hn6.bo bE_5
      have K6 := K5.trans hn6
      clear bP_5 bR_5 bE_5 K5 r5 hn6
      have oV_6 := Lib.hid hkV
      clear hkV
      obtain ⟨cP0, cP1, cP2⟩ := cells3 bP_6
      have lP := heap_lt bP_6
      obtain ⟨cE0, cE1, cE2, cE3, cE4, cE5, cE6, cE7⟩ := cells8 bE_6
      have cE8 := cell_of_heap bE_6 8
      have cE9 := cell_of_heap bE_6 9
      have cE10 := cell_of_heap bE_6 10
      have fE := frozen_of_heap bE_6
      have lE := heap_lt bE_6
      go_upto_region 18 with fail
      have hk7 : Kp (fun k => k = bo) w6 (((w6.setCell ⟨bo, 5, none⟩ (.int .i64 kV)).setCell ⟨bo, 6, none⟩ (.int .i64 vV)).setCell ⟨bo, 7, none⟩ (.slice aV lV.length tV)) := (Kp.setCell (Kp.setCell (Kp.setCell (Kp.refl (fun k => k = bo) _) (.inl rfl) _) (.inl rfl) _) (.inl rfl) _)
      have z7 := hk7.size
      have bP_7 := hk7.bo bP_6
      have bR_7 := hk7.bo bR_6
      have bE_7 : (((w6.setCell ⟨bo, 5, none⟩ (.int .i64 kV)).setCell ⟨bo, 6, none⟩ (.int .i64 vV)).setCell ⟨bo, 7, none⟩ (.slice aV lV.length tV)).heap[bo]? = some (.cells #[.int .i64 1, .int .i64 t, .int .i64 0, .int .i64 0, .slice none 0 0, .int .i64 kV, .int .i64 vV, .slice aV lV.length tV, .int .i64 0, .slice none 0 0, .slice none 0 0] 92) := (setCell_heap (setCell_heap (setCell_heap bE_6 _) _) _)
      have oV_7 := Lib.hid (oV_6.out.kp hk7 (by omega) (fun i e => by omega))
      have K7 : One br w (((w6.setCell ⟨bo, 5, none⟩ (.int .i64 kV)).setCell ⟨bo, 6, none⟩ (.int .i64 vV)).setCell ⟨bo, 7, none⟩ (.slice aV lV.length tV)) := one_on K6 hk7 (by omega)
      have r7 := r6.kp hk7
      clear cP0 cP1 cP2 lP cE0 cE1 cE2 cE3 cE4 cE5 cE6 cE7 cE8 cE9 cE10 fE lE
      clear bP_6 bR_6 bE_6 oV_6 K6 r6 hk7
      generalize (((w6.setCell ⟨bo, 5, none⟩ (.int .i64 kV)).setCell ⟨bo, 6, none⟩ (.int .i64 vV)).setCell ⟨bo, 7, none⟩ (.slice aV lV.length tV)) = w7 at *
      obtain ⟨cE0, cE1, cE2, cE3, cE4, cE5, cE6, cE7⟩ := cells8 bE_7
      have cE8 := cell_of_heap bE_7 8
      have cE9 := cell_of_heap bE_7 9
      have cE10 := cell_of_heap bE_7 10
      have lE := heap_lt bE_7
      obtain ⟨cR0, cR1, cR2, cR3, cR4, cR5, cR6, cR7⟩ := cells8 bR_7
      have cR8 := cell_of_heap bR_7 8
      have cR9 := cell_of_heap bR_7 9
      have cR10 := cell_of_heap bR_7 10
      have fR := frozen_of_heap bR_7
      have lR := heap_lt bR_7
      go_wp2
      have hkz := setMany_kp (w.heap.size + 1) [.int .i64 1, .int .i64 t, .int .i64 0, .int .i64 0, .slice none 0 0, .int .i64 kV, .int .i64 vV, .slice aV lV.length tV, .int .i64 0, .slice none 0 0, .slice none 0 0] w7 0
      have zs := setMany_size (w.heap.size + 1) [.int .i64 1, .int .i64 t, .int .i64 0, .int .i64 0, .slice none 0 0, .int .i64 kV, .int .i64 vV, .slice aV lV.length tV, .int .i64 0, .slice none 0 0, .slice none 0 0] w7 0
      have hR := setMany_row [.int .i64 1, .int .i64 t, .int .i64 0, .int .i64 0, .slice none 0 0, .int .i64 kV, .int .i64 vV, .slice aV lV.length tV, .int .i64 0, .slice none 0 0, .slice none 0 0] bR_7 rfl
      have uV := (oV_7.out.kp hkz (by omega) (fun i e => .inl (by omega))).mono (lo' := w.heap.size) (hi' := (setMany w7 (w.heap.size + 1) 0 [.int .i64 1, .int .i64 t, .int .i64 0, .int .i64 0, .slice none 0 0, .int .i64 kV, .int .i64 vV, .slice aV lV.length tV, .int .i64 0, .slice none 0 0, .slice none 0 0]).heap.size) (by omega) (by omega)
      exact bodyPost_ret (results_cell_row rfl _ _ _ _ _ _ _ rfl hR Tryd.underlying92 rfl (by kernel_rfl)) rfl ⟨⟨1, t, 0, 0, .slice none 0 0, kV, vV, .slice aV lV.length tV, 0, .slice none 0 0, .slice none 0 0⟩, .node 1 t (.node 0 0 []) (.node kV vV lV) 0 [] [], qV, rfl, one_on K7 hkz (by omega), r7.keep hkz (fun i e => by omega), by omega, ⟨rfl, rfl, rfl, rfl, .nil _ _, rfl, rfl, uV, rfl, .nil _ _, .nil _ _⟩, by simp only [St.size, Ex.kids, Ex.sizes, St.sizes]; omega⟩
    · have hna1 : 0 < na := by omega
      obtain ⟨cP0, cP1, cP2⟩ := cells3 bP_2
      have lP := heap_lt bP_2
      obtain ⟨cE0, cE1, cE2, cE3, cE4, cE5, cE6, cE7⟩ := cells8 bE_2
      have cE8 := cell_of_heap bE_2 8
      have cE9 := cell_of_heap bE_2 9
      have cE10 := cell_of_heap bE_2 10
      have fE := frozen_of_heap bE_2
      have lE := heap_lt bE_2
      go_wp2_with fail
      refine (pick w2 br (p + 1) _ r2 (by omega)).mono ?_
      rintro e w3 ⟨t, rfl, t0, t1, t2, hn3, r3⟩
      have z3 := hn3.size
      have bP_3 := hn3.bo bP_2
      have bR_3 := hn3.bo bR_2
      have bE_3 := hn3.bo bE_2
      have K3 := K2.trans hn3
      clear cP0 cP1 cP2 lP cE0 cE1 cE2 cE3 cE4 cE5 cE6 cE7 cE8 cE9 cE10 fE lE
      clear bP_2 bR_2 bE_2 K2 r2 hn3
      obtain ⟨cP0, cP1, cP2⟩ := cells3 bP_3
      have lP := heap_lt bP_3
      obtain ⟨cE0, cE1, cE2, cE3, cE4, cE5, cE6, cE7⟩ := cells8 bE_3
      have cE8 := cell_of_heap bE_3 8
      have cE9 := cell_of_heap bE_3 9
      have cE10 := cell_of_heap bE_3 10
      have fE := frozen_of_heap bE_3
      have lE := heap_lt bE_3
      go_wp2_with fail
      have hk4 : Kp (fun k => k = bo) w3 (w3.setCell ⟨bo, 1, none⟩ (.int .i64 t)) := (Kp.setCell (Kp.refl (fun k => k = bo) _) (.inl rfl) _)
      have z4 := hk4.size
      have bP_4 := hk4.bo bP_3
      have bR_4 := hk4.bo bR_3
      have bE_4 : (w3.setCell ⟨bo, 1, none⟩ (.int .i64 t)).heap[bo]? = some (.cells #[.int .i64 2, .int .i64 t, .int .i64 0, .int .i64 0, .slice none 0 0, .int .i64 0, .int .i64 0, .slice none 0 0, .int .i64 0, .slice none 0 0, .slice none 0 0] 92) := (setCell_heap bE_3 _)
      have K4 : One br w (w3.setCell ⟨bo, 1, none⟩ (.int .i64 t)) := one_on K3 hk4 (by omega)
      have r4 := r3.kp hk4
      clear cP0 cP1 cP2 lP cE0 cE1 cE2 cE3 cE4 cE5 cE6 cE7 cE8 cE9 cE10 fE lE
      clear bP_3 bR_3 bE_3 K3 r3 hk4
      generalize (w3.setCell ⟨bo, 1, none⟩ (.int .i64 t)) = w4 at *
      refine (l2DrawAtom w4 br (p + 1 + 1) a1 a2 a3 nv d1 na d2 nb d3 r4 (by omega) hnv).mono ?_
      rintro e w5 ⟨kI, vI, aI, tI, lI, qI, rfl, hn5, r5, hqI, hkI, hsI, bI1, bI2, bI3, bI4⟩
      have z5 := hn5.size
      have bP_5 := hn5.bo bP_4
      have bR_5 := hn5.bo bR_4
      have bE_5 := hn5.bo bE_4
      have K5 := K4.trans hn5
      clear bP_4 bR_4 bE_4 K4 r4 hn5
      have oI_5 := Lib.hid hkI
      clear hkI
      obtain ⟨cP0, cP1, cP2⟩ := cells3 bP_5
      have lP := heap_lt bP_5
      obtain ⟨cE0, cE1, cE2, cE3, cE4, cE5, cE6, cE7⟩ := cells8 bE_5
      have cE8 := cell_of_heap bE_5 8
      have cE9 := cell_of_heap bE_5 9
      have cE10 := cell_of_heap bE_5 10
      have fE := frozen_of_heap bE_5
      have lE := heap_lt bE_5
      go_wp2_with fail
      have hk6 : Kp (fun k => k = bo) w5 (((w5.setCell ⟨bo, 2, none⟩ (.int .i64 kI)).setCell ⟨bo, 3, none⟩ (.int .i64 vI)).setCell ⟨bo, 4, none⟩ (.slice aI lI.length tI)) := (Kp.setCell (Kp.setCell (Kp.setCell (Kp.refl (fun k => k = bo) _) (.inl rfl) _) (.inl rfl) _) (.inl rfl) _)
      have z6 := hk6.size
      have bP_6 := hk6.bo bP_5
      have bR_6 := hk6.bo bR_5
      have bE_6 : (((w5.setCell ⟨bo, 2, none⟩ (.int .i64 kI)).setCell ⟨bo, 3, none⟩ (.int .i64 vI)).setCell ⟨bo, 4, none⟩ (.slice aI lI.length tI)).heap[bo]? = some (.cells #[.int .i64 2, .int .i64 t, .int .i64 kI, .int .i64 vI, .slice aI lI.length tI, .int .i64 0, .int .i64 0, .slice none 0 0, .int .i64 0, .slice none 0 0, .slice none 0 0] 92) := (setCell_heap (setCell_heap (setCell_heap bE_5 _) _) _)
      have oI_6 := Lib.hid (oI_5.out.kp hk6 (by omega) (fun i e => by omega))
      have K6 : One br w (((w5.setCell ⟨bo, 2, none⟩ (.int .i64 kI)).setCell ⟨bo, 3, none⟩ (.int .i64 vI)).setCell ⟨bo, 4, none⟩ (.slice aI lI.length tI)) := one_on K5 hk6 (by omega)
      have r6 := r5.kp hk6
      clear cP0 cP1 cP2 lP cE0 cE1 cE2 cE3 cE4 cE5 cE6 cE7 cE8 cE9 cE10 fE lE
      clear bP_5 bR_5 bE_5 oI_5 K5 r5 hk6
      generalize (((w5.setCell ⟨bo, 2, none⟩ (.int .i64 kI)).setCell ⟨bo, 3, none⟩ (.int .i64 vI)).setCell ⟨bo, 4, none⟩ (.slice aI lI.length tI)) = w6 at *
      refine (l2Small a1 a2 a3 nv d1 na d2 nb d3 hnv hna w6 br (qI) r6 (by omega)).mono ?_
      rintro e w7 ⟨kV, vV, aV, tV, lV, qV, rfl, hn7, r7, hqV, hkV, hsV, bV1, bV2, bV3, bV4⟩
      have z7 := hn7.size
      have bP_7 := hn7.bo bP_6
      have bR_7 := hn7.bo bR_6
      have bE_7 := hn7.bo bE_6
      have oI_7 := Lib.hid (oI_6.out.kp hn7 (by omega) (fun i e => .inl (by omega)))
      have K7 := K6.trans hn7
      clear bP_6 bR_6 bE_6 oI_6 K6 r6 hn7
      have oV_7 := Lib.hid hkV
      clear hkV
      obtain ⟨cP0, cP1, cP2⟩ := cells3 bP_7
      have lP := heap_lt bP_7
      obtain ⟨cE0, cE1, cE2, cE3, cE4, cE5, cE6, cE7⟩ := cells8 bE_7
      have cE8 := cell_of_heap bE_7 8
      have cE9 := cell_of_heap bE_7 9
      have cE10 := cell_of_heap bE_7 10
      have fE := frozen_of_heap bE_7
      have lE := heap_lt bE_7
      go_upto_region 18 with fail
      have hk8 : Kp (fun k => k = bo) w7 (((w7.setCell ⟨bo, 5, none⟩ (.int .i64 kV)).setCell ⟨bo, 6, none⟩ (.int .i64 vV)).setCell ⟨bo, 7, none⟩ (.slice aV lV.length tV)) := (Kp.setCell (Kp.setCell (Kp.setCell (Kp.refl (fun k => k = bo) _) (.inl rfl) _) (.inl rfl) _) (.inl rfl) _)
      have z8 := hk8.size
      have bP_8 := hk8.bo bP_7
      have bR_8 := hk8.bo bR_7
      have bE_8 : (((w7.setCell ⟨bo, 5, none⟩ (.int .i64 kV)).setCell ⟨bo, 6, none⟩ (.int .i64 vV)).setCell ⟨bo, 7, none⟩ (.slice aV lV.length tV)).heap[bo]? = some (.cells #[.int .i64 2, .int .i64 t, .int .i64 kI, .int .i64 vI, .slice aI lI.length tI, .int .i64 kV, .int .i64 vV, .slice aV lV.length tV, .int .i64 0, .slice none 0 0, .slice none 0 0] 92) := (setCell_heap (setCell_heap (setCell_heap bE_7 _) _) _)
      have oI_8 := Lib.hid (oI_7.out.kp hk8 (by omega) (fun i e => by omega))
      have oV_8 := Lib.hid (oV_7.out.kp hk8 (by omega) (fun i e => by omega))
      have K8 : One br w (((w7.setCell ⟨bo, 5, none⟩ (.int .i64 kV)).setCell ⟨bo, 6, none⟩ (.int .i64 vV)).setCell ⟨bo, 7, none⟩ (.slice aV lV.length tV)) := one_on K7 hk8 (by omega)
      have r8 := r7.kp hk8
      clear cP0 cP1 cP2 lP cE0 cE1 cE2 cE3 cE4 cE5 cE6 cE7 cE8 cE9 cE10 fE lE
      clear bP_7 bR_7 bE_7 oI_7 oV_7 K7 r7 hk8
      generalize (((w7.setCell ⟨bo, 5, none⟩ (.int .i64 kV)).setCell ⟨bo, 6, none⟩ (.int .i64 vV)).setCell ⟨bo, 7, none⟩ (.slice aV lV.length tV)) = w8 at *
      obtain ⟨cE0, cE1, cE2, cE3, cE4, cE5, cE6, cE7⟩ := cells8 bE_8
      have cE8 := cell_of_heap bE_8 8
      have cE9 := cell_of_heap bE_8 9
      have cE10 := cell_of_heap bE_8 10
      have lE := heap_lt bE_8
      obtain ⟨cR0, cR1, cR2, cR3, cR4, cR5, cR6, cR7⟩ := cells8 bR_8
      have cR8 := cell_of_heap bR_8 8
      have cR9 := cell_of_heap bR_8 9
      have cR10 := cell_of_heap bR_8 10
      have fR := frozen_of_heap bR_8
      have lR := heap_lt bR_8
      go_wp2
      have hkz := setMany_kp (w.heap.size + 1) [.int .i64 2, .int .i64 t, .int .i64 kI, .int .i64 vI, .slice aI lI.length tI, .int .i64 kV, .int .i64 vV, .slice aV lV.length tV, .int .i64 0, .slice none 0 0, .slice none 0 0] w8 0
      have zs := setMany_size (w.heap.size + 1) [.int .i64 2, .int .i64 t, .int .i64 kI, .int .i64 vI, .slice aI lI.length tI, .int .i64 kV, .int .i64 vV, .slice aV lV.length tV, .int .i64 0, .slice none 0 0, .slice none 0 0] w8 0
      have hR := setMany_row [.int .i64 2, .int .i64 t, .int .i64 kI, .int .i64 vI, .slice aI lI.length tI, .int .i64 kV, .int .i64 vV, .slice aV lV.length tV, .int .i64 0, .slice none 0 0, .slice none 0 0] bR_8 rfl
      have uI := (oI_8.out.kp hkz (by omega) (fun i e => .inl (by omega))).mono (lo' := w.heap.size) (hi' := (setMany w8 (w.heap.size + 1) 0 [.int .i64 2, .int .i64 t, .int .i64 kI, .int .i64 vI, .slice aI lI.length tI, .int .i64 kV, .int .i64 vV, .slice aV lV.length tV, .int .i64 0, .slice none 0 0, .slice none 0 0]).heap.size) (by omega) (by omega)
      have uV := (oV_8.out.kp hkz (by omega) (fun i e => .inl (by omega))).mono (lo' := w.heap.size) (hi' := (setMany w8 (w.heap.size + 1) 0 [.int .i64 2, .int .i64 t, .int .i64 kI, .int .i64 vI, .slice aI lI.length tI, .int .i64 kV, .int .i64 vV, .slice aV lV.length tV, .int .i64 0, .slice none 0 0, .slice none 0 0]).heap.size) (by omega) (by omega)
      exact bodyPost_ret (results_cell_row rfl _ _ _ _ _ _ _ rfl hR Tryd.underlying92 rfl (by kernel_rfl)) rfl ⟨⟨2, t, kI, vI, .slice aI lI.length tI, kV, vV, .slice aV lV.length tV, 0, .slice none 0 0, .slice none 0 0⟩, .node 2 t (.node kI vI lI) (.node kV vV lV) 0 [] [], qV, rfl, one_on K8 hkz (by omega), r8.keep hkz (fun i e => by omega), by omega, ⟨rfl, rfl, rfl, rfl, uI, rfl, rfl, uV, rfl, .nil _ _, .nil _ _⟩, by simp only [St.size, Ex.kids, St.sizes]; omega⟩
  · by_cases hz1 : 1 < z
    · obtain ⟨cP0, cP1, cP2⟩ := cells3 bP_2
      have lP := heap_lt bP_2
      obtain ⟨cE0, cE1, cE2, cE3, cE4, cE5, cE6, cE7⟩ := cells8 bE_2
      have cE8 := cell_of_heap bE_2 8
      have cE9 := cell_of_heap bE_2 9
      have cE10 := cell_of_heap bE_2 10
      have fE := frozen_of_heap bE_2
      have lE := heap_lt bE_2
      go_wp2_with fail
      refine (l2Small a1 a2 a3 nv d1 na d2 nb d3 hnv hna w2 br (p + 1) r2 (by omega)).mono ?_
      rintro e w3 ⟨kV, vV, aV, tV, lV, qV, rfl, hn3, r3, hqV, hkV, hsV, bV1, bV2, bV3, bV4⟩
      have z3 := hn3.size
      have bP_3 := hn3.bo bP_2
      have bR_3 := hn3.bo bR_2
      have bE_3 := hn3.bo bE_2
      have K3 := K2.trans hn3
      clear cP0 cP1 cP2 lP cE0 cE1 cE2 cE3 cE4 cE5 cE6 cE7 cE8 cE9 cE10 fE lE
      clear bP_2 bR_2 bE_2 K2 r2 hn3
      have oV_3 := Lib.hid hkV
      clear hkV
      obtain ⟨cP0, cP1, cP2⟩ := cells3 bP_3
      have lP := heap_lt bP_3
      obtain ⟨cE0, cE1, cE2, cE3, cE4, cE5, cE6, cE7⟩ := cells8 bE_3
      have cE8 := cell_of_heap bE_3 8
      have cE9 := cell_of_heap bE_3 9
      have cE10 := cell_of_heap bE_3 10
      have fE := frozen_of_heap bE_3
      have lE := heap_lt bE_3
      go_upto_region 13 with fail
      have hk4 : Kp (fun k => k = bo) w3 (((w3.setCell ⟨bo, 5, none⟩ (.int .i64 kV)).setCell ⟨bo, 6, none⟩ (.int .i64 vV)).setCell ⟨bo, 7, none⟩ (.slice aV lV.length tV)) := (Kp.setCell (Kp.setCell (Kp.setCell (Kp.refl (fun k => k = bo) _) (.inl rfl) _) (.inl rfl) _) (.inl rfl) _)
      have z4 := hk4.size
      have bP_4 := hk4.bo bP_3
      have bR_4 := hk4.bo bR_3
      have bE_4 : (((w3.setCell ⟨bo, 5, none⟩ (.int .i64 kV)).setCell ⟨bo, 6, none⟩ (.int .i64 vV)).setCell ⟨bo, 7, none⟩ (.slice aV lV.length tV)).heap[bo]? = some (.cells #[.int .i64 3, .int .i64 0, .int .i64 0, .int .i64 0, .slice none 0 0, .int .i64 kV, .int .i64 vV, .slice aV lV.length tV, .int .i64 0, .slice none 0 0, .slice none 0 0] 92) := (setCell_heap (setCell_heap (setCell_heap bE_3 _) _) _)
      have oV_4 := Lib.hid (oV_3.out.kp hk4 (by omega) (fun i e => by omega))
      have K4 : One br w (((w3.setCell ⟨bo, 5, none⟩ (.int .i64 kV)).setCell ⟨bo, 6, none⟩ (.int .i64 vV)).setCell ⟨bo, 7, none⟩ (.slice aV lV.length tV)) := one_on K3 hk4 (by omega)
      have r4 := r3.kp hk4
      clear cP0 cP1 cP2 lP cE0 cE1 cE2 cE3 cE4 cE5 cE6 cE7 cE8 cE9 cE10 fE lE
      clear bP_3 bR_3 bE_3 oV_3 K3 r3 hk4
      generalize (((w3.setCell ⟨bo, 5, none⟩ (.int .i64 kV)).setCell ⟨bo, 6, none⟩ (.int .i64 vV)).setCell ⟨bo, 7, none⟩ (.slice aV lV.length tV)) = w4 at *
      obtain ⟨cP0, cP1, cP2⟩ := cells3 bP_4
      have lP := heap_lt bP_4
      have hsub : IntKind.i64.wrap (z - 1) = z - 1 := IntWalk.i64_in _ (by omega)
      refine wp_region_tail (k := 9) (S := fun w' => w'.cell? ⟨w.heap.size, 0, none⟩ = some (.slice a1 nv d1) ∧ w'.cell? ⟨w.heap.size, 1, none⟩ = some (.slice a2 na d2) ∧ w'.cell? ⟨w.heap.size, 2, none⟩ = some (.slice a3 nb d3)) (by kernel_rfl) ?_ (fun hHeld => ?_)
      · exact ⟨cP0, cP1, cP2⟩
      have hn5 : New w4 w4.drew := (Kp.refl _ _).drew
      generalize w4.drew = w5 at *
      have z5 := hn5.size
      have bP_5 := hn5.bk bP_4
      have bR_5 := hn5.bk bR_4
      have bE_5 := hn5.bk bE_4
      have oV_5 := Lib.hid (oV_4.out.new (by omega) hn5)
      have K5 := K4.nw hn5
      have r5 := r4.nw hn5
      clear cP0 cP1 cP2 lP
      clear bP_4 bR_4 bE_4 oV_4 K4 r4 hn5
      obtain ⟨cP0, cP1, cP2⟩ := cells3 bP_5
      have lP := heap_lt bP_5
      refine AnyK.tw 0 rfl ?_
      try simp only [AP]
      refine AnyK.tk 1 rfl ?_
      try simp only [AP]
      refine AnyK.tw 2 rfl ?_
      try simp only [AP]
      refine AnyK.tw 3 rfl ?_
      try simp only [AP]
      refine AnyK.tw 4 rfl ?_
      try simp only [AP]
      refine AnyK.step (i := 5) (by kernel_rfl) rfl (fun K hK => ?_)
      go_simp
      have hn6 : New w5 (w5.alloc (.cells #[.int .i64 1, .int .i64 2, .int .i64 1, .int .i64 0] 3)) := (Kp.refl _ _).alloc _
      have bN_6 := alloc_heap w5 (.cells #[.int .i64 1, .int .i64 2, .int .i64 1, .int .i64 0] 3)
      have yN : w5.heap.size < (w5.alloc (.cells #[.int .i64 1, .int .i64 2, .int .i64 1, .int .i64 0] 3)).heap.size := lt_alloc _ _
      generalize w5.alloc (.cells #[.int .i64 1, .int .i64 2, .int .i64 1, .int .i64 0] 3) = w6 at *
      have z6 := hn6.size
      have bP_6 := hn6.bk bP_5
      have bR_6 := hn6.bk bR_5
      have bE_6 := hn6.bk bE_5
      have oV_6 := Lib.hid (oV_5.out.new (by omega) hn6)
      have K6 := K5.nw hn6
      have r6 := r5.nw hn6
      clear cP0 cP1 cP2 lP
      clear bP_5 bR_5 bE_5 oV_5 K5 r5 hn6
      obtain ⟨cP0, cP1, cP2⟩ := cells3 bP_6
      have lP := heap_lt bP_6
      refine hK.out _ _ ?_ (fun hHeld2 => ?_)
      · exact ⟨cP0, cP1, cP2⟩
      clear hK K hHeld
      have hHeld := hHeld2
      clear hHeld2
      try simp only [AP]
      refine AnyK.step (i := 6) (by kernel_rfl) rfl (fun K hK => ?_)
      go_simp
      have hNc := Lib.hid (fun i : Nat => cell_of_heap bN_6 i)
      refine (num w6 br (qV) w5.heap.size 4 _ (fun x => 0 ≤ x ∧ x ≤ 2) r6 (by omega) (by omega) (by omega) (by omega) ?_).mono ?_
      · intro i hi
        have hi2 := hNc.out i
        match i, hi with
        | 0, _ => exact ⟨_, by decide, hi2⟩
        | 1, _ => exact ⟨_, by decide, hi2⟩
        | 2, _ => exact ⟨_, by decide, hi2⟩
        | 3, _ => exact ⟨_, by decide, hi2⟩
      rintro e w7 ⟨yB, rfl, ⟨yB1, yB2⟩, hn7, r7⟩
      clear hNc
      clear bN_6
      have z7 := hn7.size
      have bP_7 := hn7.bo bP_6
      have bR_7 := hn7.bo bR_6
      have bE_7 := hn7.bo bE_6
      have oV_7 := Lib.hid (oV_6.out.kp hn7 (by omega) (fun i e => .inl (by omega)))
      have K7 := K6.trans hn7
      clear cP0 cP1 cP2 lP
      clear bP_6 bR_6 bE_6 oV_6 K6 r6 hn7
      obtain ⟨nB, rfl⟩ : ∃ nn : Nat, yB = nn := ⟨yB.toNat, by omega⟩
      obtain ⟨cP0, cP1, cP2⟩ := cells3 bP_7
      have lP := heap_lt bP_7
      refine hK.out _ _ ?_ (fun hHeld2 => ?_)
      · exact ⟨cP0, cP1, cP2⟩
      clear hK K hHeld
      have hHeld := hHeld2
      clear hHeld2
      try simp only [AP]
      refine AnyK.step (i := 7) (by kernel_rfl) rfl (fun K hK => ?_)
      go_simp
      refine (hBh.out hz1 w7 br (qV + 1) nB (by omega) r7 (by omega)).mono ?_
      rintro e w8 ⟨aB, tB, lB, qB, rfl, hn8, r8, hqB, hkB, hsB⟩
      have z8 := hn8.size
      have bP_8 := hn8.bo bP_7
      have bR_8 := hn8.bo bR_7
      have bE_8 := hn8.bo bE_7
      have oV_8 := Lib.hid (oV_7.out.kp hn8 (by omega) (fun i e => .inl (by omega)))
      have K8 := K7.trans hn8
      clear cP0 cP1 cP2 lP
      clear bP_7 bR_7 bE_7 oV_7 K7 r7 hn8
      have oB_8 := Lib.hid hkB
      clear hkB
      obtain ⟨cP0, cP1, cP2⟩ := cells3 bP_8
      have lP := heap_lt bP_8
      refine hK.out _ _ ?_ (fun hHeld2 => ?_)
      · exact ⟨cP0, cP1, cP2⟩
      clear hK K hHeld
      have hHeld := hHeld2
      clear hHeld2
      try simp only [AP]
      refine AnyK.tw 8 rfl ?_
      try simp only [AP]
      refine AnyK.last (by kernel_rfl) ?_
      simp only [List.drop_succ_cons, List.drop_zero]
      clear hHeld
      clear cP0 cP1 cP2 lP
      obtain ⟨cP0, cP1, cP2⟩ := cells3 bP_8
      have lP := heap_lt bP_8
      obtain ⟨cE0, cE1, cE2, cE3, cE4, cE5, cE6, cE7⟩ := cells8 bE_8
      have cE8 := cell_of_heap bE_8 8
      have cE9 := cell_of_heap bE_8 9
      have cE10 := cell_of_heap bE_8 10
      have fE := frozen_of_heap bE_8
      have lE := heap_lt bE_8
      go_upto_region 14 with fail
      have hk9 : Kp (fun k => k = bo) w8 (w8.setCell ⟨bo, 9, none⟩ (.slice aB lB.length tB)) := (Kp.setCell (Kp.refl (fun k => k = bo) _) (.inl rfl) _)
      have z9 := hk9.size
      have bP_9 := hk9.bo bP_8
      have bR_9 := hk9.bo bR_8
      have bE_9 : (w8.setCell ⟨bo, 9, none⟩ (.slice aB lB.length tB)).heap[bo]? = some (.cells #[.int .i64 3, .int .i64 0, .int .i64 0, .int .i64 0, .slice none 0 0, .int .i64 kV, .int .i64 vV, .slice aV lV.length tV, .int .i64 0, .slice aB lB.length tB, .slice none 0 0] 92) := (setCell_heap bE_8 _)
      have oV_9 := Lib.hid (oV_8.out.kp hk9 (by omega) (fun i e => by omega))
      have oB_9 := Lib.hid (oB_8.out.kp hk9 (by omega) (fun i e => by omega))
      have K9 : One br w (w8.setCell ⟨bo, 9, none⟩ (.slice aB lB.length tB)) := one_on K8 hk9 (by omega)
      have r9 := r8.kp hk9
      clear cP0 cP1 cP2 lP cE0 cE1 cE2 cE3 cE4 cE5 cE6 cE7 cE8 cE9 cE10 fE lE
      clear bP_8 bR_8 bE_8 oV_8 oB_8 K8 r8 hk9
      generalize (w8.setCell ⟨bo, 9, none⟩ (.slice aB lB.length tB)) = w9 at *
      clear hsub
      obtain ⟨cP0, cP1, cP2⟩ := cells3 bP_9
      have lP := heap_lt bP_9
      have hsub : IntKind.i64.wrap (z - 1) = z - 1 := IntWalk.i64_in _ (by omega)
      refine wp_region_tail (k := 9) (S := fun w' => w'.cell? ⟨w.heap.size, 0, none⟩ = some (.slice a1 nv d1) ∧ w'.cell? ⟨w.heap.size, 1, none⟩ = some (.slice a2 na d2) ∧ w'.cell? ⟨w.heap.size, 2, none⟩ = some (.slice a3 nb d3)) (by kernel_rfl) ?_ (fun hHeld => ?_)
      · exact ⟨cP0, cP1, cP2⟩
      have hn10 : New w9 w9.drew := (Kp.refl _ _).drew
      generalize w9.drew = w10 at *
      have z10 := hn10.size
      have bP_10 := hn10.bk bP_9
      have bR_10 := hn10.bk bR_9
      have bE_10 := hn10.bk bE_9
      have oV_10 := Lib.hid (oV_9.out.new (by omega) hn10)
      have oB_10 := Lib.hid (oB_9.out.new (by omega) hn10)
      have K10 := K9.nw hn10
      have r10 := r9.nw hn10
      clear cP0 cP1 cP2 lP
      clear bP_9 bR_9 bE_9 oV_9 oB_9 K9 r9 hn10
      obtain ⟨cP0, cP1, cP2⟩ := cells3 bP_10
      have lP := heap_lt bP_10
      refine AnyK.tw 0 rfl ?_
      try simp only [AP]
      refine AnyK.tk 1 rfl ?_
      try simp only [AP]
      refine AnyK.tw 2 rfl ?_
      try simp only [AP]
      refine AnyK.tw 3 rfl ?_
      try simp only [AP]
      refine AnyK.tw 4 rfl ?_
      try simp only [AP]
      refine AnyK.step (i := 5) (by kernel_rfl) rfl (fun K hK => ?_)
      go_simp
      have hn11 : New w10 (w10.alloc (.cells #[.int .i64 0, .int .i64 1, .int .i64 0, .int .i64 2] 3)) := (Kp.refl _ _).alloc _
      have bN_11 := alloc_heap w10 (.cells #[.int .i64 0, .int .i64 1, .int .i64 0, .int .i64 2] 3)
      have yN : w10.heap.size < (w10.alloc (.cells #[.int .i64 0, .int .i64 1, .int .i64 0, .int .i64 2] 3)).heap.size := lt_alloc _ _
      generalize w10.alloc (.cells #[.int .i64 0, .int .i64 1, .int .i64 0, .int .i64 2] 3) = w11 at *
      have z11 := hn11.size
      have bP_11 := hn11.bk bP_10
      have bR_11 := hn11.bk bR_10
      have bE_11 := hn11.bk bE_10
      have oV_11 := Lib.hid (oV_10.out.new (by omega) hn11)
      have oB_11 := Lib.hid (oB_10.out.new (by omega) hn11)
      have K11 := K10.nw hn11
      have r11 := r10.nw hn11
      clear cP0 cP1 cP2 lP
      clear bP_10 bR_10 bE_10 oV_10 oB_10 K10 r10 hn11
      obtain ⟨cP0, cP1, cP2⟩ := cells3 bP_11
      have lP := heap_lt bP_11
      refine hK.out _ _ ?_ (fun hHeld2 => ?_)
      · exact ⟨cP0, cP1, cP2⟩
      clear hK K hHeld
      have hHeld := hHeld2
      clear hHeld2
      try simp only [AP]
      refine AnyK.step (i := 6) (by kernel_rfl) rfl (fun K hK => ?_)
      go_simp
      have hNc := Lib.hid (fun i : Nat => cell_of_heap bN_11 i)
      refine (num w11 br (qB) w10.heap.size 4 _ (fun x => 0 ≤ x ∧ x ≤ 2) r11 (by omega) (by omega) (by omega) (by omega) ?_).mono ?_
      · intro i hi
        have hi2 := hNc.out i
        match i, hi with
        | 0, _ => exact ⟨_, by decide, hi2⟩
        | 1, _ => exact ⟨_, by decide, hi2⟩
        | 2, _ => exact ⟨_, by decide, hi2⟩
        | 3, _ => exact ⟨_, by decide, hi2⟩
      rintro e w12 ⟨yL, rfl, ⟨yL1, yL2⟩, hn12, r12⟩
      clear hNc
      clear bN_11
      have z12 := hn12.size
      have bP_12 := hn12.bo bP_11
      have bR_12 := hn12.bo bR_11
      have bE_12 := hn12.bo bE_11
      have oV_12 := Lib.hid (oV_11.out.kp hn12 (by omega) (fun i e => .inl (by omega)))
      have oB_12 := Lib.hid (oB_11.out.kp hn12 (by omega) (fun i e => .inl (by omega)))
      have K12 := K11.trans hn12
      clear cP0 cP1 cP2 lP
      clear bP_11 bR_11 bE_11 oV_11 oB_11 K11 r11 hn12
      obtain ⟨nL, rfl⟩ : ∃ nn : Nat, yL = nn := ⟨yL.toNat, by omega⟩
      obtain ⟨cP0, cP1, cP2⟩ := cells3 bP_12
      have lP := heap_lt bP_12
      refine hK.out _ _ ?_ (fun hHeld2 => ?_)
      · exact ⟨cP0, cP1, cP2⟩
      clear hK K hHeld
      have hHeld := hHeld2
      clear hHeld2
      try simp only [AP]
      refine AnyK.step (i := 7) (by kernel_rfl) rfl (fun K hK => ?_)
      go_simp
      refine (hBh.out hz1 w12 br (qB + 1) nL (by omega) r12 (by omega)).mono ?_
      rintro e w13 ⟨aL, tL, lL, qL, rfl, hn13, r13, hqL, hkL, hsL⟩
      have z13 := hn13.size
      have bP_13 := hn13.bo bP_12
      have bR_13 := hn13.bo bR_12
      have bE_13 := hn13.bo bE_12
      have oV_13 := Lib.hid (oV_12.out.kp hn13 (by omega) (fun i e => .inl (by omega)))
      have oB_13 := Lib.hid (oB_12.out.kp hn13 (by omega) (fun i e => .inl (by omega)))
      have K13 := K12.trans hn13
      clear cP0 cP1 cP2 lP
      clear bP_12 bR_12 bE_12 oV_12 oB_12 K12 r12 hn13
      have oL_13 := Lib.hid hkL
      clear hkL
      obtain ⟨cP0, cP1, cP2⟩ := cells3 bP_13
      have lP := heap_lt bP_13
      refine hK.out _ _ ?_ (fun hHeld2 => ?_)
      · exact ⟨cP0, cP1, cP2⟩
      clear hK K hHeld
      have hHeld := hHeld2
      clear hHeld2
      try simp only [AP]
      refine AnyK.tw 8 rfl ?_
      try simp only [AP]
      refine AnyK.last (by kernel_rfl) ?_
      simp only [List.drop_succ_cons, List.drop_zero]
      clear hHeld
      clear cP0 cP1 cP2 lP
      obtain ⟨cP0, cP1, cP2⟩ := cells3 bP_13
      have lP := heap_lt bP_13
      obtain ⟨cE0, cE1, cE2, cE3, cE4, cE5, cE6, cE7⟩ := cells8 bE_13
      have cE8 := cell_of_heap bE_13 8
      have cE9 := cell_of_heap bE_13 9
      have cE10 := cell_of_heap bE_13 10
      have fE := frozen_of_heap bE_13
      have lE := heap_lt bE_13
      go_upto_region 18 with fail
      have hk14 : Kp (fun k => k = bo) w13 (w13.setCell ⟨bo, 10, none⟩ (.slice aL lL.length tL)) := (Kp.setCell (Kp.refl (fun k => k = bo) _) (.inl rfl) _)
      have z14 := hk14.size
      have bP_14 := hk14.bo bP_13
      have bR_14 := hk14.bo bR_13
      have bE_14 : (w13.setCell ⟨bo, 10, none⟩ (.slice aL lL.length tL)).heap[bo]? = some (.cells #[.int .i64 3, .int .i64 0, .int .i64 0, .int .i64 0, .slice none 0 0, .int .i64 kV, .int .i64 vV, .slice aV lV.length tV, .int .i64 0, .slice aB lB.length tB, .slice aL lL.length tL] 92) := (setCell_heap bE_13 _)
      have oV_14 := Lib.hid (oV_13.out.kp hk14 (by omega) (fun i e => by omega))
      have oB_14 := Lib.hid (oB_13.out.kp hk14 (by omega) (fun i e => by omega))
      have oL_14 := Lib.hid (oL_13.out.kp hk14 (by omega) (fun i e => by omega))
      have K14 : One br w (w13.setCell ⟨bo, 10, none⟩ (.slice aL lL.length tL)) := one_on K13 hk14 (by omega)
      have r14 := r13.kp hk14
      clear cP0 cP1 cP2 lP cE0 cE1 cE2 cE3 cE4 cE5 cE6 cE7 cE8 cE9 cE10 fE lE
      clear bP_13 bR_13 bE_13 oV_13 oB_13 oL_13 K13 r13 hk14
      generalize (w13.setCell ⟨bo, 10, none⟩ (.slice aL lL.length tL)) = w14 at *
      clear hsub
      obtain ⟨cE0, cE1, cE2, cE3, cE4, cE5, cE6, cE7⟩ := cells8 bE_14
      have cE8 := cell_of_heap bE_14 8
      have cE9 := cell_of_heap bE_14 9
      have cE10 := cell_of_heap bE_14 10
      have lE := heap_lt bE_14
      obtain ⟨cR0, cR1, cR2, cR3, cR4, cR5, cR6, cR7⟩ := cells8 bR_14
      have cR8 := cell_of_heap bR_14 8
      have cR9 := cell_of_heap bR_14 9
      have cR10 := cell_of_heap bR_14 10
      have fR := frozen_of_heap bR_14
      have lR := heap_lt bR_14
      go_wp2
      have hkz := setMany_kp (w.heap.size + 1) [.int .i64 3, .int .i64 0, .int .i64 0, .int .i64 0, .slice none 0 0, .int .i64 kV, .int .i64 vV, .slice aV lV.length tV, .int .i64 0, .slice aB lB.length tB, .slice aL lL.length tL] w14 0
      have zs := setMany_size (w.heap.size + 1) [.int .i64 3, .int .i64 0, .int .i64 0, .int .i64 0, .slice none 0 0, .int .i64 kV, .int .i64 vV, .slice aV lV.length tV, .int .i64 0, .slice aB lB.length tB, .slice aL lL.length tL] w14 0
      have hR := setMany_row [.int .i64 3, .int .i64 0, .int .i64 0, .int .i64 0, .slice none 0 0, .int .i64 kV, .int .i64 vV, .slice aV lV.length tV, .int .i64 0, .slice aB lB.length tB, .slice aL lL.length tL] bR_14 rfl
      have uV := (oV_14.out.kp hkz (by omega) (fun i e => .inl (by omega))).mono (lo' := w.heap.size) (hi' := (setMany w14 (w.heap.size + 1) 0 [.int .i64 3, .int .i64 0, .int .i64 0, .int .i64 0, .slice none 0 0, .int .i64 kV, .int .i64 vV, .slice aV lV.length tV, .int .i64 0, .slice aB lB.length tB, .slice aL lL.length tL]).heap.size) (by omega) (by omega)
      have uB := (oB_14.out.kp hkz (by omega) (fun i e => .inl (by omega))).mono (lo' := w.heap.size) (hi' := (setMany w14 (w.heap.size + 1) 0 [.int .i64 3, .int .i64 0, .int .i64 0, .int .i64 0, .slice none 0 0, .int .i64 kV, .int .i64 vV, .slice aV lV.length tV, .int .i64 0, .slice aB lB.length tB, .slice aL lL.length tL]).heap.size) (by omega) (by omega)
      have uL := (oL_14.out.kp hkz (by omega) (fun i e => .inl (by omega))).mono (lo' := w.heap.size) (hi' := (setMany w14 (w.heap.size + 1) 0 [.int .i64 3, .int .i64 0, .int .i64 0, .int .i64 0, .slice none 0 0, .int .i64 kV, .int .i64 vV, .slice aV lV.length tV, .int .i64 0, .slice aB lB.length tB, .slice aL lL.length tL]).heap.size) (by omega) (by omega)
      exact bodyPost_ret (results_cell_row rfl _ _ _ _ _ _ _ rfl hR Tryd.underlying92 rfl (by kernel_rfl)) rfl ⟨⟨3, 0, 0, 0, .slice none 0 0, kV, vV, .slice aV lV.length tV, 0, .slice aB lB.length tB, .slice aL lL.length tL⟩, .node 3 0 (.node 0 0 []) (.node kV vV lV) 0 lB lL, qL, rfl, one_on K14 hkz (by omega), r14.keep hkz (fun i e => by omega), by omega, ⟨rfl, rfl, rfl, rfl, .nil _ _, rfl, rfl, uV, rfl, uB, uL⟩, by simp only [St.size, Ex.kids, Ex.sizes]; omega⟩
    · obtain ⟨cP0, cP1, cP2⟩ := cells3 bP_2
      have lP := heap_lt bP_2
      obtain ⟨cE0, cE1, cE2, cE3, cE4, cE5, cE6, cE7⟩ := cells8 bE_2
      have cE8 := cell_of_heap bE_2 8
      have cE9 := cell_of_heap bE_2 9
      have cE10 := cell_of_heap bE_2 10
      have fE := frozen_of_heap bE_2
      have lE := heap_lt bE_2
      go_wp2_with fail
      have hk3 : Kp (fun k => k = bo) w2 (w2.setCell ⟨bo, 0, none⟩ (.int .i64 1)) := (Kp.setCell (Kp.refl (fun k => k = bo) _) (.inl rfl) _)
      have z3 := hk3.size
      have bP_3 := hk3.bo bP_2
      have bR_3 := hk3.bo bR_2
      have bE_3 : (w2.setCell ⟨bo, 0, none⟩ (.int .i64 1)).heap[bo]? = some (.cells #[.int .i64 1, .int .i64 0, .int .i64 0, .int .i64 0, .slice none 0 0, .int .i64 0, .int .i64 0, .slice none 0 0, .int .i64 0, .slice none 0 0, .slice none 0 0] 92) := (setCell_heap bE_2 _)
      have K3 : One br w (w2.setCell ⟨bo, 0, none⟩ (.int .i64 1)) := one_on K2 hk3 (by omega)
      have r3 := r2.kp hk3
      clear cP0 cP1 cP2 lP cE0 cE1 cE2 cE3 cE4 cE5 cE6 cE7 cE8 cE9 cE10 fE lE
      clear bP_2 bR_2 bE_2 K2 r2 hk3
      generalize (w2.setCell ⟨bo, 0, none⟩ (.int .i64 1)) = w3 at *
      refine (pick w3 br (p + 1) _ r3 (by omega)).mono ?_
      rintro e w4 ⟨t, rfl, t0, t1, t2, hn4, r4⟩
      have z4 := hn4.size
      have bP_4 := hn4.bo bP_3
      have bR_4 := hn4.bo bR_3
      have bE_4 := hn4.bo bE_3
      have K4 := K3.trans hn4
      clear bP_3 bR_3 bE_3 K3 r3 hn4
      obtain ⟨cP0, cP1, cP2⟩ := cells3 bP_4
      have lP := heap_lt bP_4
      obtain ⟨cE0, cE1, cE2, cE3, cE4, cE5, cE6, cE7⟩ := cells8 bE_4
      have cE8 := cell_of_heap bE_4 8
      have cE9 := cell_of_heap bE_4 9
      have cE10 := cell_of_heap bE_4 10
      have fE := frozen_of_heap bE_4
      have lE := heap_lt bE_4
      go_wp2_with fail
      have hk5 : Kp (fun k => k = bo) w4 (w4.setCell ⟨bo, 1, none⟩ (.int .i64 t)) := (Kp.setCell (Kp.refl (fun k => k = bo) _) (.inl rfl) _)
      have z5 := hk5.size
      have bP_5 := hk5.bo bP_4
      have bR_5 := hk5.bo bR_4
      have bE_5 : (w4.setCell ⟨bo, 1, none⟩ (.int .i64 t)).heap[bo]? = some (.cells #[.int .i64 1, .int .i64 t, .int .i64 0, .int .i64 0, .slice none 0 0, .int .i64 0, .int .i64 0, .slice none 0 0, .int .i64 0, .slice none 0 0, .slice none 0 0] 92) := (setCell_heap bE_4 _)
      have K5 : One br w (w4.setCell ⟨bo, 1, none⟩ (.int .i64 t)) := one_on K4 hk5 (by omega)
      have r5 := r4.kp hk5
      clear cP0 cP1 cP2 lP cE0 cE1 cE2 cE3 cE4 cE5 cE6 cE7 cE8 cE9 cE10 fE lE
      clear bP_4 bR_4 bE_4 K4 r4 hk5
      generalize (w4.setCell ⟨bo, 1, none⟩ (.int .i64 t)) = w5 at *
      refine (l2Small a1 a2 a3 nv d1 na d2 nb d3 hnv hna w5 br (p + 1 + 1) r5 (by omega)).mono ?_
      rintro e w6 ⟨kV, vV, aV, tV, lV, qV, rfl, hn6, r6, hqV, hkV, hsV, bV1, bV2, bV3, bV4⟩
      have z6 := hn6.size
      have bP_6 := hn6.bo bP_5
      have bR_6 := hn6.bo bR_5
      have bE_6 := hn6.bo bE_5
      have K6 := K5.trans hn6
      clear bP_5 bR_5 bE_5 K5 r5 hn6
      have oV_6 := Lib.hid hkV
      clear hkV
      obtain ⟨cP0, cP1, cP2⟩ := cells3 bP_6
      have lP := heap_lt bP_6
      obtain ⟨cE0, cE1, cE2, cE3, cE4, cE5, cE6, cE7⟩ := cells8 bE_6
      have cE8 := cell_of_heap bE_6 8
      have cE9 := cell_of_heap bE_6 9
      have cE10 := cell_of_heap bE_6 10
      have fE := frozen_of_heap bE_6
      have lE := heap_lt bE_6
      go_upto_region 18 with fail
      have hk7 : Kp (fun k => k = bo) w6 (((w6.setCell ⟨bo, 5, none⟩ (.int .i64 kV)).setCell ⟨bo, 6, none⟩ (.int .i64 vV)).setCell ⟨bo, 7, none⟩ (.slice aV lV.length tV)) := (Kp.setCell (Kp.setCell (Kp.setCell (Kp.refl (fun k => k = bo) _) (.inl rfl) _) (.inl rfl) _) (.inl rfl) _)
      have z7 := hk7.size
      have bP_7 := hk7.bo bP_6
      have bR_7 := hk7.bo bR_6
      have bE_7 : (((w6.setCell ⟨bo, 5, none⟩ (.int .i64 kV)).setCell ⟨bo, 6, none⟩ (.int .i64 vV)).setCell ⟨bo, 7, none⟩ (.slice aV lV.length tV)).heap[bo]? = some (.cells #[.int .i64 1, .int .i64 t, .int .i64 0, .int .i64 0, .slice none 0 0, .int .i64 kV, .int .i64 vV, .slice aV lV.length tV, .int .i64 0, .slice none 0 0, .slice none 0 0] 92) := (setCell_heap (setCell_heap (setCell_heap bE_6 _) _) _)
      have oV_7 := Lib.hid (oV_6.out.kp hk7 (by omega) (fun i e => by omega))
      have K7 : One br w (((w6.setCell ⟨bo, 5, none⟩ (.int .i64 kV)).setCell ⟨bo, 6, none⟩ (.int .i64 vV)).setCell ⟨bo, 7, none⟩ (.slice aV lV.length tV)) := one_on K6 hk7 (by omega)
      have r7 := r6.kp hk7
      clear cP0 cP1 cP2 lP cE0 cE1 cE2 cE3 cE4 cE5 cE6 cE7 cE8 cE9 cE10 fE lE
      clear bP_6 bR_6 bE_6 oV_6 K6 r6 hk7
      generalize (((w6.setCell ⟨bo, 5, none⟩ (.int .i64 kV)).setCell ⟨bo, 6, none⟩ (.int .i64 vV)).setCell ⟨bo, 7, none⟩ (.slice aV lV.length tV)) = w7 at *
      obtain ⟨cE0, cE1, cE2, cE3, cE4, cE5, cE6, cE7⟩ := cells8 bE_7
      have cE8 := cell_of_heap bE_7 8
      have cE9 := cell_of_heap bE_7 9
      have cE10 := cell_of_heap bE_7 10
      have lE := heap_lt bE_7
      obtain ⟨cR0, cR1, cR2, cR3, cR4, cR5, cR6, cR7⟩ := cells8 bR_7
      have cR8 := cell_of_heap bR_7 8
      have cR9 := cell_of_heap bR_7 9
      have cR10 := cell_of_heap bR_7 10
      have fR := frozen_of_heap bR_7
      have lR := heap_lt bR_7
      go_wp2
      have hkz := setMany_kp (w.heap.size + 1) [.int .i64 1, .int .i64 t, .int .i64 0, .int .i64 0, .slice none 0 0, .int .i64 kV, .int .i64 vV, .slice aV lV.length tV, .int .i64 0, .slice none 0 0, .slice none 0 0] w7 0
      have zs := setMany_size (w.heap.size + 1) [.int .i64 1, .int .i64 t, .int .i64 0, .int .i64 0, .slice none 0 0, .int .i64 kV, .int .i64 vV, .slice aV lV.length tV, .int .i64 0, .slice none 0 0, .slice none 0 0] w7 0
      have hR := setMany_row [.int .i64 1, .int .i64 t, .int .i64 0, .int .i64 0, .slice none 0 0, .int .i64 kV, .int .i64 vV, .slice aV lV.length tV, .int .i64 0, .slice none 0 0, .slice none 0 0] bR_7 rfl
      have uV := (oV_7.out.kp hkz (by omega) (fun i e => .inl (by omega))).mono (lo' := w.heap.size) (hi' := (setMany w7 (w.heap.size + 1) 0 [.int .i64 1, .int .i64 t, .int .i64 0, .int .i64 0, .slice none 0 0, .int .i64 kV, .int .i64 vV, .slice aV lV.length tV, .int .i64 0, .slice none 0 0, .slice none 0 0]).heap.size) (by omega) (by omega)
      exact bodyPost_ret (results_cell_row rfl _ _ _ _ _ _ _ rfl hR Tryd.underlying92 rfl (by kernel_rfl)) rfl ⟨⟨1, t, 0, 0, .slice none 0 0, kV, vV, .slice aV lV.length tV, 0, .slice none 0 0, .slice none 0 0⟩, .node 1 t (.node 0 0 []) (.node kV vV lV) 0 [] [], qV, rfl, one_on K7 hkz (by omega), r7.keep hkz (fun i e => by omega), by omega, ⟨rfl, rfl, rfl, rfl, .nil _ _, rfl, rfl, uV, rfl, .nil _ _, .nil _ _⟩, by simp only [St.size, Ex.kids, Ex.sizes, St.sizes]; omega⟩
  · by_cases hz1 : 1 < z
    · obtain ⟨cP0, cP1, cP2⟩ := cells3 bP_2
      have lP := heap_lt bP_2
      obtain ⟨cE0, cE1, cE2, cE3, cE4, cE5, cE6, cE7⟩ := cells8 bE_2
      have cE8 := cell_of_heap bE_2 8
      have cE9 := cell_of_heap bE_2 9
      have cE10 := cell_of_heap bE_2 10
      have fE := frozen_of_heap bE_2
      have lE := heap_lt bE_2
      go_wp2_with fail
      refine (num _ br (p + 1) _ 3 _ (fun x => 1 ≤ x ∧ x ≤ 3) (r2.keep (S := fun _ => False) ((Kp.refl _ _).alloc _) (fun _ f => f.elim)) (by omega) (by omega) (by omega) (by omega) ?_).mono ?_
      · intro i hi
        match i, hi with
        | 0, _ => exact ⟨_, by decide, World.cell?_alloc_new _ _ _ _⟩
        | 1, _ => exact ⟨_, by decide, World.cell?_alloc_new _ _ _ _⟩
        | 2, _ => exact ⟨_, by decide, World.cell?_alloc_new _ _ _ _⟩
      rintro e w3 ⟨y, rfl, ⟨y1, y2⟩, k1, r3⟩
      have hn3 : One br w2 w3 := ((Kp.refl (fun k => k = br) w2).alloc _).trans k1
      clear k1
      have z3 := hn3.size
      have bP_3 := hn3.bo bP_2
      have bR_3 := hn3.bo bR_2
      have bE_3 := hn3.bo bE_2
      have K3 := K2.trans hn3
      clear cP0 cP1 cP2 lP cE0 cE1 cE2 cE3 cE4 cE5 cE6 cE7 cE8 cE9 cE10 fE lE
      clear bP_2 bR_2 bE_2 K2 r2 hn3
      obtain ⟨cP0, cP1, cP2⟩ := cells3 bP_3
      have lP := heap_lt bP_3
      obtain ⟨cE0, cE1, cE2, cE3, cE4, cE5, cE6, cE7⟩ := cells8 bE_3
      have cE8 := cell_of_heap bE_3 8
      have cE9 := cell_of_heap bE_3 9
      have cE10 := cell_of_heap bE_3 10
      have fE := frozen_of_heap bE_3
      have lE := heap_lt bE_3
      go_upto_region 17 with fail
      have hk4 : Kp (fun k => k = bo) w3 (w3.setCell ⟨bo, 8, none⟩ (.int .i64 y)) := (Kp.setCell (Kp.refl (fun k => k = bo) _) (.inl rfl) _)
      have z4 := hk4.size
      have bP_4 := hk4.bo bP_3
      have bR_4 := hk4.bo bR_3
      have bE_4 : (w3.setCell ⟨bo, 8, none⟩ (.int .i64 y)).heap[bo]? = some (.cells #[.int .i64 4, .int .i64 0, .int .i64 0, .int .i64 0, .slice none 0 0, .int .i64 0, .int .i64 0, .slice none 0 0, .int .i64 y, .slice none 0 0, .slice none 0 0] 92) := (setCell_heap bE_3 _)
      have K4 : One br w (w3.setCell ⟨bo, 8, none⟩ (.int .i64 y)) := one_on K3 hk4 (by omega)
      have r4 := r3.kp hk4
      clear cP0 cP1 cP2 lP cE0 cE1 cE2 cE3 cE4 cE5 cE6 cE7 cE8 cE9 cE10 fE lE
      clear bP_3 bR_3 bE_3 K3 r3 hk4
      generalize (w3.setCell ⟨bo, 8, none⟩ (.int .i64 y)) = w4 at *
      obtain ⟨cP0, cP1, cP2⟩ := cells3 bP_4
      have lP := heap_lt bP_4
      have hsub : IntKind.i64.wrap (z - 1) = z - 1 := IntWalk.i64_in _ (by omega)
      refine wp_region_tail (k := 9) (S := fun w' => w'.cell? ⟨w.heap.size, 0, none⟩ = some (.slice a1 nv d1) ∧ w'.cell? ⟨w.heap.size, 1, none⟩ = some (.slice a2 na d2) ∧ w'.cell? ⟨w.heap.size, 2, none⟩ = some (.slice a3 nb d3)) (by kernel_rfl) ?_ (fun hHeld => ?_)
      · exact ⟨cP0, cP1, cP2⟩
      have hn5 : New w4 w4.drew := (Kp.refl _ _).drew
      generalize w4.drew = w5 at *
      have z5 := hn5.size
      have bP_5 := hn5.bk bP_4
      have bR_5 := hn5.bk bR_4
      have bE_5 := hn5.bk bE_4
      have K5 := K4.nw hn5
      have r5 := r4.nw hn5
      clear cP0 cP1 cP2 lP
      clear bP_4 bR_4 bE_4 K4 r4 hn5
      obtain ⟨cP0, cP1, cP2⟩ := cells3 bP_5
      have lP := heap_lt bP_5
      refine AnyK.tw 0 rfl ?_
      try simp only [AP]
      refine AnyK.tk 1 rfl ?_
      try simp only [AP]
      refine AnyK.tw 2 rfl ?_
      try simp only [AP]
      refine AnyK.tw 3 rfl ?_
      try simp only [AP]
      refine AnyK.tw 4 rfl ?_
      try simp only [AP]
      refine AnyK.step (i := 5) (by kernel_rfl) rfl (fun K hK => ?_)
      go_simp
      have hn6 : New w5 (w5.alloc (.cells #[.int .i64 1, .int .i64 2, .int .i64 1] 3)) := (Kp.refl _ _).alloc _
      have bN_6 := alloc_heap w5 (.cells #[.int .i64 1, .int .i64 2, .int .i64 1] 3)
      have yN : w5.heap.size < (w5.alloc (.cells #[.int .i64 1, .int .i64 2, .int .i64 1] 3)).heap.size := lt_alloc _ _
      generalize w5.alloc (.cells #[.int .i64 1, .int .i64 2, .int .i64 1] 3) = w6 at *
      have z6 := hn6.size
      have bP_6 := hn6.bk bP_5
      have bR_6 := hn6.bk bR_5
      have bE_6 := hn6.bk bE_5
      have K6 := K5.nw hn6
      have r6 := r5.nw hn6
      clear cP0 cP1 cP2 lP
      clear bP_5 bR_5 bE_5 K5 r5 hn6
      obtain ⟨cP0, cP1, cP2⟩ := cells3 bP_6
      have lP := heap_lt bP_6
      refine hK.out _ _ ?_ (fun hHeld2 => ?_)
      · exact ⟨cP0, cP1, cP2⟩
      clear hK K hHeld
      have hHeld := hHeld2
      clear hHeld2
      try simp only [AP]
      refine AnyK.step (i := 6) (by kernel_rfl) rfl (fun K hK => ?_)
      go_simp
      have hNc := Lib.hid (fun i : Nat => cell_of_heap bN_6 i)
      refine (num w6 br (p + 1 + 1) w5.heap.size 3 _ (fun x => 0 ≤ x ∧ x ≤ 2) r6 (by omega) (by omega) (by omega) (by omega) ?_).mono ?_
      · intro i hi
        have hi2 := hNc.out i
        match i, hi with
        | 0, _ => exact ⟨_, by decide, hi2⟩
        | 1, _ => exact ⟨_, by decide, hi2⟩
        | 2, _ => exact ⟨_, by decide, hi2⟩
      rintro e w7 ⟨yB, rfl, ⟨yB1, yB2⟩, hn7, r7⟩
      clear hNc
      clear bN_6
      have z7 := hn7.size
      have bP_7 := hn7.bo bP_6
      have bR_7 := hn7.bo bR_6
      have bE_7 := hn7.bo bE_6
      have K7 := K6.trans hn7
      clear cP0 cP1 cP2 lP
      clear bP_6 bR_6 bE_6 K6 r6 hn7
      obtain ⟨nB, rfl⟩ : ∃ nn : Nat, yB = nn := ⟨yB.toNat, by omega⟩
      obtain ⟨cP0, cP1, cP2⟩ := cells3 bP_7
      have lP := heap_lt bP_7
      refine hK.out _ _ ?_ (fun hHeld2 => ?_)
      · exact ⟨cP0, cP1, cP2⟩
      clear hK K hHeld
      have hHeld := hHeld2
      clear hHeld2
      try simp only [AP]
      refine AnyK.step (i := 7) (by kernel_rfl) rfl (fun K hK => ?_)
      go_simp
      refine (hBh.out hz1 w7 br (p + 1 + 1 + 1) nB (by omega) r7 (by omega)).mono ?_
      rintro e w8 ⟨aB, tB, lB, qB, rfl, hn8, r8, hqB, hkB, hsB⟩
      have z8 := hn8.size
      have bP_8 := hn8.bo bP_7
      have bR_8 := hn8.bo bR_7
      have bE_8 := hn8.bo bE_7
      have K8 := K7.trans hn8
      clear cP0 cP1 cP2 lP
      clear bP_7 bR_7 bE_7 K7 r7 hn8
      have oB_8 := Lib.hid hkB
      clear hkB
      obtain ⟨cP0, cP1, cP2⟩ := cells3 bP_8
      have lP := heap_lt bP_8
      refine hK.out _ _ ?_ (fun hHeld2 => ?_)
      · exact ⟨cP0, cP1, cP2⟩
      clear hK K hHeld
      have hHeld := hHeld2
      clear hHeld2
      try simp only [AP]
      refine AnyK.tw 8 rfl ?_
      try simp only [AP]
      refine AnyK.last (by kernel_rfl) ?_
      simp only [List.drop_succ_cons, List.drop_zero]
      clear hHeld
      clear cP0 cP1 cP2 lP
      obtain ⟨cP0, cP1, cP2⟩ := cells3 bP_8
      have lP := heap_lt bP_8
      obtain ⟨cE0, cE1, cE2, cE3, cE4, cE5, cE6, cE7⟩ := cells8 bE_8
      have cE8 := cell_of_heap bE_8 8
      have cE9 := cell_of_heap bE_8 9
      have cE10 := cell_of_heap bE_8 10
      have fE := frozen_of_heap bE_8
      have lE := heap_lt bE_8
      go_upto_region 18 with fail
      have hk9 : Kp (fun k => k = bo) w8 (w8.setCell ⟨bo, 9, none⟩ (.slice aB lB.length tB)) := (Kp.setCell (Kp.refl (fun k => k = bo) _) (.inl rfl) _)
      have z9 := hk9.size
      have bP_9 := hk9.bo bP_8
      have bR_9 := hk9.bo bR_8
      have bE_9 : (w8.setCell ⟨bo, 9, none⟩ (.slice aB lB.length tB)).heap[bo]? = some (.cells #[.int .i64 4, .int .i64 0, .int .i64 0, .int .i64 0, .slice none 0 0, .int .i64 0, .int .i64 0, .slice none 0 0, .int .i64 y, .slice aB lB.length tB, .slice none 0 0] 92) := (setCell_heap bE_8 _)
      have oB_9 := Lib.hid (oB_8.out.kp hk9 (by omega) (fun i e => by omega))
      have K9 : One br w (w8.setCell ⟨bo, 9, none⟩ (.slice aB lB.length tB)) := one_on K8 hk9 (by omega)
      have r9 := r8.kp hk9
      clear cP0 cP1 cP2 lP cE0 cE1 cE2 cE3 cE4 cE5 cE6 cE7 cE8 cE9 cE10 fE lE
      clear bP_8 bR_8 bE_8 oB_8 K8 r8 hk9
      generalize (w8.setCell ⟨bo, 9, none⟩ (.slice aB lB.length tB)) = w9 at *
      clear hsub
      obtain ⟨cE0, cE1, cE2, cE3, cE4, cE5, cE6, cE7⟩ := cells8 bE_9
      have cE8 := cell_of_heap bE_9 8
      have cE9 := cell_of_heap bE_9 9
      have cE10 := cell_of_heap bE_9 10
      have lE := heap_lt bE_9
      obtain ⟨cR0, cR1, cR2, cR3, cR4, cR5, cR6, cR7⟩ := cells8 bR_9
      have cR8 := cell_of_heap bR_9 8
      have cR9 := cell_of_heap bR_9 9
      have cR10 := cell_of_heap bR_9 10
      have fR := frozen_of_heap bR_9
      have lR := heap_lt bR_9
      go_wp2
      have hkz := setMany_kp (w.heap.size + 1) [.int .i64 4, .int .i64 0, .int .i64 0, .int .i64 0, .slice none 0 0, .int .i64 0, .int .i64 0, .slice none 0 0, .int .i64 y, .slice aB lB.length tB, .slice none 0 0] w9 0
      have zs := setMany_size (w.heap.size + 1) [.int .i64 4, .int .i64 0, .int .i64 0, .int .i64 0, .slice none 0 0, .int .i64 0, .int .i64 0, .slice none 0 0, .int .i64 y, .slice aB lB.length tB, .slice none 0 0] w9 0
      have hR := setMany_row [.int .i64 4, .int .i64 0, .int .i64 0, .int .i64 0, .slice none 0 0, .int .i64 0, .int .i64 0, .slice none 0 0, .int .i64 y, .slice aB lB.length tB, .slice none 0 0] bR_9 rfl
      have uB := (oB_9.out.kp hkz (by omega) (fun i e => .inl (by omega))).mono (lo' := w.heap.size) (hi' := (setMany w9 (w.heap.size + 1) 0 [.int .i64 4, .int .i64 0, .int .i64 0, .int .i64 0, .slice none 0 0, .int .i64 0, .int .i64 0, .slice none 0 0, .int .i64 y, .slice aB lB.length tB, .slice none 0 0]).heap.size) (by omega) (by omega)
      exact bodyPost_ret (results_cell_row rfl _ _ _ _ _ _ _ rfl hR Tryd.underlying92 rfl (by kernel_rfl)) rfl ⟨⟨4, 0, 0, 0, .slice none 0 0, 0, 0, .slice none 0 0, y, .slice aB lB.length tB, .slice none 0 0⟩, .node 4 0 (.node 0 0 []) (.node 0 0 []) y lB [], qB, rfl, one_on K9 hkz (by omega), r9.keep hkz (fun i e => by omega), by omega, ⟨rfl, rfl, rfl, rfl, .nil _ _, rfl, rfl, .nil _ _, rfl, uB, .nil _ _⟩, by simp only [St.size, Ex.kids, Ex.sizes, St.sizes]; omega⟩
    · obtain ⟨cP0, cP1, cP2⟩ := cells3 bP_2
      have lP := heap_lt bP_2
      obtain ⟨cE0, cE1, cE2, cE3, cE4, cE5, cE6, cE7⟩ := cells8 bE_2
      have cE8 := cell_of_heap bE_2 8
      have cE9 := cell_of_heap bE_2 9
      have cE10 := cell_of_heap bE_2 10
      have fE := frozen_of_heap bE_2
      have lE := heap_lt bE_2
      go_wp2_with fail
      have hk3 : Kp (fun k => k = bo) w2 (w2.setCell ⟨bo, 0, none⟩ (.int .i64 1)) := (Kp.setCell (Kp.refl (fun k => k = bo) _) (.inl rfl) _)
      have z3 := hk3.size
      have bP_3 := hk3.bo bP_2
      have bR_3 := hk3.bo bR_2
      have bE_3 : (w2.setCell ⟨bo, 0, none⟩ (.int .i64 1)).heap[bo]? = some (.cells #[.int .i64 1, .int .i64 0, .int .i64 0, .int .i64 0, .slice none 0 0, .int .i64 0, .int .i64 0, .slice none 0 0, .int .i64 0, .slice none 0 0, .slice none 0 0] 92) := (setCell_heap bE_2 _)
      have K3 : One br w (w2.setCell ⟨bo, 0, none⟩ (.int .i64 1)) := one_on K2 hk3 (by omega)
      have r3 := r2.kp hk3
      clear cP0 cP1 cP2 lP cE0 cE1 cE2 cE3 cE4 cE5 cE6 cE7 cE8 cE9 cE10 fE lE
      clear bP_2 bR_2 bE_2 K2 r2 hk3
      generalize (w2.setCell ⟨bo, 0, none⟩ (.int .i64 1)) = w3 at *
      refine (pick w3 br (p + 1) _ r3 (by omega)).mono ?_
      rintro e w4 ⟨t, rfl, t0, t1, t2, hn4, r4⟩
      have z4 := hn4.size
      have bP_4 := hn4.bo bP_3
      have bR_4 := hn4.bo bR_3
      have bE_4 := hn4.bo bE_3
      have K4 := K3.trans hn4
      clear bP_3 bR_3 bE_3 K3 r3 hn4
      obtain ⟨cP0, cP1, cP2⟩ := cells3 bP_4
      have lP := heap_lt bP_4
      obtain ⟨cE0, cE1, cE2, cE3, cE4, cE5, cE6, cE7⟩ := cells8 bE_4
      have cE8 := cell_of_heap bE_4 8
      have cE9 := cell_of_heap bE_4 9
      have cE10 := cell_of_heap bE_4 10
      have fE := frozen_of_heap bE_4
      have lE := heap_lt bE_4
      go_wp2_with fail
      have hk5 : Kp (fun k => k = bo) w4 (w4.setCell ⟨bo, 1, none⟩ (.int .i64 t)) := (Kp.setCell (Kp.refl (fun k => k = bo) _) (.inl rfl) _)
      have z5 := hk5.size
      have bP_5 := hk5.bo bP_4
      have bR_5 := hk5.bo bR_4
      have bE_5 : (w4.setCell ⟨bo, 1, none⟩ (.int .i64 t)).heap[bo]? = some (.cells #[.int .i64 1, .int .i64 t, .int .i64 0, .int .i64 0, .slice none 0 0, .int .i64 0, .int .i64 0, .slice none 0 0, .int .i64 0, .slice none 0 0, .slice none 0 0] 92) := (setCell_heap bE_4 _)
      have K5 : One br w (w4.setCell ⟨bo, 1, none⟩ (.int .i64 t)) := one_on K4 hk5 (by omega)
      have r5 := r4.kp hk5
      clear cP0 cP1 cP2 lP cE0 cE1 cE2 cE3 cE4 cE5 cE6 cE7 cE8 cE9 cE10 fE lE
      clear bP_4 bR_4 bE_4 K4 r4 hk5
      generalize (w4.setCell ⟨bo, 1, none⟩ (.int .i64 t)) = w5 at *
      refine (l2Small a1 a2 a3 nv d1 na d2 nb d3 hnv hna w5 br (p + 1 + 1) r5 (by omega)).mono ?_
      rintro e w6 ⟨kV, vV, aV, tV, lV, qV, rfl, hn6, r6, hqV, hkV, hsV, bV1, bV2, bV3, bV4⟩
      have z6 := hn6.size
      have bP_6 := hn6.bo bP_5
      have bR_6 := hn6.bo bR_5
      have bE_6 := hn6.bo bE_5
      have K6 := K5.trans hn6
      clear bP_5 bR_5 bE_5 K5 r5 hn6
      have oV_6 := Lib.hid hkV
      clear hkV
      obtain ⟨cP0, cP1, cP2⟩ := cells3 bP_6
      have lP := heap_lt bP_6
      obtain ⟨cE0, cE1, cE2, cE3, cE4, cE5, cE6, cE7⟩ := cells8 bE_6
      have cE8 := cell_of_heap bE_6 8
      have cE9 := cell_of_heap bE_6 9
      have cE10 := cell_of_heap bE_6 10
      have fE := frozen_of_heap bE_6
      have lE := heap_lt bE_6
      go_upto_region 18 with fail
      have hk7 : Kp (fun k => k = bo) w6 (((w6.setCell ⟨bo, 5, none⟩ (.int .i64 kV)).setCell ⟨bo, 6, none⟩ (.int .i64 vV)).setCell ⟨bo, 7, none⟩ (.slice aV lV.length tV)) := (Kp.setCell (Kp.setCell (Kp.setCell (Kp.refl (fun k => k = bo) _) (.inl rfl) _) (.inl rfl) _) (.inl rfl) _)
      have z7 := hk7.size
      have bP_7 := hk7.bo bP_6
      have bR_7 := hk7.bo bR_6
      have bE_7 : (((w6.setCell ⟨bo, 5, none⟩ (.int .i64 kV)).setCell ⟨bo, 6, none⟩ (.int .i64 vV)).setCell ⟨bo, 7, none⟩ (.slice aV lV.length tV)).heap[bo]? = some (.cells #[.int .i64 1, .int .i64 t, .int .i64 0, .int .i64 0, .slice none 0 0, .int .i64 kV, .int .i64 vV, .slice aV lV.length tV, .int .i64 0, .slice none 0 0, .slice none 0 0] 92) := (setCell_heap (setCell_heap (setCell_heap bE_6 _) _) _)
      have oV_7 := Lib.hid (oV_6.out.kp hk7 (by omega) (fun i e => by omega))
      have K7 : One br w (((w6.setCell ⟨bo, 5, none⟩ (.int .i64 kV)).setCell ⟨bo, 6, none⟩ (.int .i64 vV)).setCell ⟨bo, 7, none⟩ (.slice aV lV.length tV)) := one_on K6 hk7 (by omega)
      have r7 := r6.kp hk7
      clear cP0 cP1 cP2 lP cE0 cE1 cE2 cE3 cE4 cE5 cE6 cE7 cE8 cE9 cE10 fE lE
      clear bP_6 bR_6 bE_6 oV_6 K6 r6 hk7
      generalize (((w6.setCell ⟨bo, 5, none⟩ (.int .i64 kV)).setCell ⟨bo, 6, none⟩ (.int .i64 vV)).setCell ⟨bo, 7, none⟩ (.slice aV lV.length tV)) = w7 at *
      obtain ⟨cE0, cE1, cE2, cE3, cE4, cE5, cE6, cE7⟩ := cells8 bE_7
      have cE8 := cell_of_heap bE_7 8
      have cE9 := cell_of_heap bE_7 9
      have cE10 := cell_of_heap bE_7 10
      have lE := heap_lt bE_7
      obtain ⟨cR0, cR1, cR2, cR3, cR4, cR5, cR6, cR7⟩ := cells8 bR_7
      have cR8 := cell_of_heap bR_7 8
      have cR9 := cell_of_heap bR_7 9
      have cR10 := cell_of_heap bR_7 10
      have fR := frozen_of_heap bR_7
      have lR := heap_lt bR_7
      go_wp2
      have hkz := setMany_kp (w.heap.size + 1) [.int .i64 1, .int .i64 t, .int .i64 0, .int .i64 0, .slice none 0 0, .int .i64 kV, .int .i64 vV, .slice aV lV.length tV, .int .i64 0, .slice none 0 0, .slice none 0 0] w7 0
      have zs := setMany_size (w.heap.size + 1) [.int .i64 1, .int .i64 t, .int .i64 0, .int .i64 0, .slice none 0 0, .int .i64 kV, .int .i64 vV, .slice aV lV.length tV, .int .i64 0, .slice none 0 0, .slice none 0 0] w7 0
      have hR := setMany_row [.int .i64 1, .int .i64 t, .int .i64 0, .int .i64 0, .slice none 0 0, .int .i64 kV, .int .i64 vV, .slice aV lV.length tV, .int .i64 0, .slice none 0 0, .slice none 0 0] bR_7 rfl
      have uV := (oV_7.out.kp hkz (by omega) (fun i e => .inl (by omega))).mono (lo' := w.heap.size) (hi' := (setMany w7 (w.heap.size + 1) 0 [.int .i64 1, .int .i64 t, .int .i64 0, .int .i64 0, .slice none 0 0, .int .i64 kV, .int .i64 vV, .slice aV lV.length tV, .int .i64 0, .slice none 0 0, .slice none 0 0]).heap.size) (by omega) (by omega)
      exact bodyPost_ret (results_cell_row rfl _ _ _ _ _ _ _ rfl hR Tryd.underlying92 rfl (by kernel_rfl)) rfl ⟨⟨1, t, 0, 0, .slice none 0 0, kV, vV, .slice aV lV.length tV, 0, .slice none 0 0, .slice none 0 0⟩, .node 1 t (.node 0 0 []) (.node kV vV lV) 0 [] [], qV, rfl, one_on K7 hkz (by omega), r7.keep hkz (fun i e => by omega), by omega, ⟨rfl, rfl, rfl, rfl, .nil _ _, rfl, rfl, uV, rfl, .nil _ _, .nil _ _⟩, by simp only [St.size, Ex.kids, Ex.sizes, St.sizes]; omega⟩
  · obtain ⟨cP0, cP1, cP2⟩ := cells3 bP_2
    have lP := heap_lt bP_2
    obtain ⟨cE0, cE1, cE2, cE3, cE4, cE5, cE6, cE7⟩ := cells8 bE_2
    have cE8 := cell_of_heap bE_2 8
    have cE9 := cell_of_heap bE_2 9
    have cE10 := cell_of_heap bE_2 10
    have fE := frozen_of_heap bE_2
    have lE := heap_lt bE_2
    go_wp2_with fail
    refine (pick w2 br (p + 1) _ r2 (by omega)).mono ?_
    rintro e w3 ⟨t, rfl, t0, t1, t2, hn3, r3⟩
    have z3 := hn3.size
    have bP_3 := hn3.bo bP_2
    have bR_3 := hn3.bo bR_2
    have bE_3 := hn3.bo bE_2
    have K3 := K2.trans hn3
    clear cP0 cP1 cP2 lP cE0 cE1 cE2 cE3 cE4 cE5 cE6 cE7 cE8 cE9 cE10 fE lE
    clear bP_2 bR_2 bE_2 K2 r2 hn3
    obtain ⟨cP0, cP1, cP2⟩ := cells3 bP_3
    have lP := heap_lt bP_3
    obtain ⟨cE0, cE1, cE2, cE3, cE4, cE5, cE6, cE7⟩ := cells8 bE_3
    have cE8 := cell_of_heap bE_3 8
    have cE9 := cell_of_heap bE_3 9
    have cE10 := cell_of_heap bE_3 10
    have fE := frozen_of_heap bE_3
    have lE := heap_lt bE_3
    go_wp2_with fail
    have hk4 : Kp (fun k => k = bo) w3 (w3.setCell ⟨bo, 1, none⟩ (.int .i64 t)) := (Kp.setCell (Kp.refl (fun k => k = bo) _) (.inl rfl) _)
    have z4 := hk4.size
    have bP_4 := hk4.bo bP_3
    have bR_4 := hk4.bo bR_3
    have bE_4 : (w3.setCell ⟨bo, 1, none⟩ (.int .i64 t)).heap[bo]? = some (.cells #[.int .i64 5, .int .i64 t, .int .i64 0, .int .i64 0, .slice none 0 0, .int .i64 0, .int .i64 0, .slice none 0 0, .int .i64 0, .slice none 0 0, .slice none 0 0] 92) := (setCell_heap bE_3 _)
    have K4 : One br w (w3.setCell ⟨bo, 1, none⟩ (.int .i64 t)) := one_on K3 hk4 (by omega)
    have r4 := r3.kp hk4
    clear cP0 cP1 cP2 lP cE0 cE1 cE2 cE3 cE4 cE5 cE6 cE7 cE8 cE9 cE10 fE lE
    clear bP_3 bR_3 bE_3 K3 r3 hk4
    generalize (w3.setCell ⟨bo, 1, none⟩ (.int .i64 t)) = w4 at *
    refine (l2Small a1 a2 a3 nv d1 na d2 nb d3 hnv hna w4 br (p + 1 + 1) r4 (by omega)).mono ?_
    rintro e w5 ⟨kV, vV, aV, tV, lV, qV, rfl, hn5, r5, hqV, hkV, hsV, bV1, bV2, bV3, bV4⟩
    have z5 := hn5.size
    have bP_5 := hn5.bo bP_4
    have bR_5 := hn5.bo bR_4
    have bE_5 := hn5.bo bE_4
    have K5 := K4.trans hn5
    clear bP_4 bR_4 bE_4 K4 r4 hn5
    have oV_5 := Lib.hid hkV
    clear hkV
    obtain ⟨cP0, cP1, cP2⟩ := cells3 bP_5
    have lP := heap_lt bP_5
    obtain ⟨cE0, cE1, cE2, cE3, cE4, cE5, cE6, cE7⟩ := cells8 bE_5
    have cE8 := cell_of_heap bE_5 8
    have cE9 := cell_of_heap bE_5 9
    have cE10 := cell_of_heap bE_5 10
    have fE := frozen_of_heap bE_5
    have lE := heap_lt bE_5
    go_upto_region 18 with fail
    have hk6 : Kp (fun k => k = bo) w5 (((w5.setCell ⟨bo, 5, none⟩ (.int .i64 kV)).setCell ⟨bo, 6, none⟩ (.int .i64 vV)).setCell ⟨bo, 7, none⟩ (.slice aV lV.length tV)) := (Kp.setCell (Kp.setCell (Kp.setCell (Kp.refl (fun k => k = bo) _) (.inl rfl) _) (.inl rfl) _) (.inl rfl) _)
    have z6 := hk6.size
    have bP_6 := hk6.bo bP_5
    have bR_6 := hk6.bo bR_5
    have bE_6 : (((w5.setCell ⟨bo, 5, none⟩ (.int .i64 kV)).setCell ⟨bo, 6, none⟩ (.int .i64 vV)).setCell ⟨bo, 7, none⟩ (.slice aV lV.length tV)).heap[bo]? = some (.cells #[.int .i64 5, .int .i64 t, .int .i64 0, .int .i64 0, .slice none 0 0, .int .i64 kV, .int .i64 vV, .slice aV lV.length tV, .int .i64 0, .slice none 0 0, .slice none 0 0] 92) := (setCell_heap (setCell_heap (setCell_heap bE_5 _) _) _)
    have oV_6 := Lib.hid (oV_5.out.kp hk6 (by omega) (fun i e => by omega))
    have K6 : One br w (((w5.setCell ⟨bo, 5, none⟩ (.int .i64 kV)).setCell ⟨bo, 6, none⟩ (.int .i64 vV)).setCell ⟨bo, 7, none⟩ (.slice aV lV.length tV)) := one_on K5 hk6 (by omega)
    have r6 := r5.kp hk6
    clear cP0 cP1 cP2 lP cE0 cE1 cE2 cE3 cE4 cE5 cE6 cE7 cE8 cE9 cE10 fE lE
    clear bP_5 bR_5 bE_5 oV_5 K5 r5 hk6
    generalize (((w5.setCell ⟨bo, 5, none⟩ (.int .i64 kV)).setCell ⟨bo, 6, none⟩ (.int .i64 vV)).setCell ⟨bo, 7, none⟩ (.slice aV lV.length tV)) = w6 at *
    obtain ⟨cE0, cE1, cE2, cE3, cE4, cE5, cE6, cE7⟩ := cells8 bE_6
    have cE8 := cell_of_heap bE_6 8
    have cE9 := cell_of_heap bE_6 9
    have cE10 := cell_of_heap bE_6 10
    have lE := heap_lt bE_6
    obtain ⟨cR0, cR1, cR2, cR3, cR4, cR5, cR6, cR7⟩ := cells8 bR_6
    have cR8 := cell_of_heap bR_6 8
    have cR9 := cell_of_heap bR_6 9
    have cR10 := cell_of_heap bR_6 10
    have fR := frozen_of_heap bR_6
    have lR := heap_lt bR_6
    go_wp2
    have hkz := setMany_kp (w.heap.size + 1) [.int .i64 5, .int .i64 t, .int .i64 0, .int .i64 0, .slice none 0 0, .int .i64 kV, .int .i64 vV, .slice aV lV.length tV, .int .i64 0, .slice none 0 0, .slice none 0 0] w6 0
    have zs := setMany_size (w.heap.size + 1) [.int .i64 5, .int .i64 t, .int .i64 0, .int .i64 0, .slice none 0 0, .int .i64 kV, .int .i64 vV, .slice aV lV.length tV, .int .i64 0, .slice none 0 0, .slice none 0 0] w6 0
    have hR := setMany_row [.int .i64 5, .int .i64 t, .int .i64 0, .int .i64 0, .slice none 0 0, .int .i64 kV, .int .i64 vV, .slice aV lV.length tV, .int .i64 0, .slice none 0 0, .slice none 0 0] bR_6 rfl
    have uV := (oV_6.out.kp hkz (by omega) (fun i e => .inl (by omega))).mono (lo' := w.heap.size) (hi' := (setMany w6 (w.heap.size + 1) 0 [.int .i64 5, .int .i64 t, .int .i64 0, .int .i64 0, .slice none 0 0, .int .i64 kV, .int .i64 vV, .slice aV lV.length tV, .int .i64 0, .slice none 0 0, .slice none 0 0]).heap.size) (by omega) (by omega)
    exact bodyPost_ret (results_cell_row rfl _ _ _ _ _ _ _ rfl hR Tryd.underlying92 rfl (by kernel_rfl)) rfl ⟨⟨5, t, 0, 0, .slice none 0 0, kV, vV, .slice aV lV.length tV, 0, .slice none 0 0, .slice none 0 0⟩, .node 5 t (.node 0 0 []) (.node kV vV lV) 0 [] [], qV, rfl, one_on K6 hkz (by omega), r6.keep hkz (fun i e => by omega), by omega, ⟨rfl, rfl, rfl, rfl, .nil _ _, rfl, rfl, uV, rfl, .nil _ _, .nil _ _⟩, by simp only [St.size, Ex.kids, Ex.sizes, St.sizes]; omega⟩
end Go.Proofs.YtckikiaockkmbaaDoor.DrawS
