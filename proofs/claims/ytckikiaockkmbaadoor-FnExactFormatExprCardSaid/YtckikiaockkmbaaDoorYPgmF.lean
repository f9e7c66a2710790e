/- szProgram, toProgram, eqProgram of laws. Condition: at most 2^20 nodes. -/
import Derived.Test.YtckikiaockkmbaaDoorYP2
import Derived.Test.YtckikiaockkmbaaDoorYSzS
import Derived.Test.YtckikiaockkmbaaDoorYToS
import Derived.Test.YtckikiaockkmbaaDoorYEqS
import Derived.Test.YtckikiaockkmbaaDoorYP1
namespace Go.Proofs.YtckikiaockkmbaaDoor.PgmF
open Go.RowKit Kit
set_option linter.unusedVariables false
set_option maxHeartbeats 1000000 in
theorem szProgram (w : World) (lo hi : Nat) (ta tb tc : Value) (xa xb : List Int) (x : List St) (sa : IntsR w lo hi ta xa) (sb : IntsR w lo hi tb xb) (s : StsR w lo hi tc x) (left : Int) (h0 : 0 ≤ left) (hm : left ≤ 1048576) (h1 : hi ≤ w.heap.size) :
    Calls Tryd.prog 11 #[.agg #[ta, tb, tc], .int .i64 left] w fun e w' => e = .returned (.int .i64 (szOf left (xa.length + (xb.length + St.sizes x)))) ∧ New w w' := by
  obtain ⟨a0, c0, rfl, m0⟩ := sa.len
  obtain ⟨a1, c1, rfl, m1⟩ := sb.len
  go_enter Tryd.func11, Tryd.ntmps11
  go_wp2_with fail
  have N0 : New w (w.alloc (.cells #[.slice a0 xa.length c0, .slice a1 xb.length c1, tc] 32)) := ((Kp.refl _ _).alloc _)
  have bA_0 : (w.alloc (.cells #[.slice a0 xa.length c0, .slice a1 xb.length c1, tc] 32)).heap[w.heap.size]? = some (.cells #[.slice a0 xa.length c0, .slice a1 xb.length c1, tc] 32) := alloc_heap _ _
  have z0 : w.heap.size < (w.alloc (.cells #[.slice a0 xa.length c0, .slice a1 xb.length c1, tc] 32)).heap.size := by simp
  generalize (w.alloc (.cells #[.slice a0 xa.length c0, .slice a1 xb.length c1, tc] 32)) = w0 at *
  refine (newSame (LawF.szIntS _ _ _ _ (left) m0 (by omega) (by omega))).mono ?_
  rintro e w1 ⟨rfl, hn1⟩
  have z1 := hn1.size
  have N1 : New w w1 := N0.trans hn1
  have bA_1 := heap_new hn1 bA_0
  clear bA_0 hn1
  obtain ⟨bA_1_c0, bA_1_c1, bA_1_c2⟩ := cells3 bA_1
  by_cases p0 : ((xa.length : Nat) : Int) ≤ left
  rotate_left
  · rw [szOf_lo (by omega)]
    go_wp2
    go_ret
    exact ⟨retI (by rw [szOf_lo (by omega)]), N1⟩
  rw [szOf_hi (by omega)]
  go_wp2_with fail
  refine (newSame (LawF.szIntS _ _ _ _ (left - (xa.length : Nat)) m1 (by omega) (by omega))).mono ?_
  rintro e w2 ⟨rfl, hn2⟩
  have z2 := hn2.size
  have N2 : New w w2 := N1.trans hn2
  have bA_2 := heap_new hn2 bA_1
  clear bA_1_c0 bA_1_c1 bA_1_c2
  clear bA_1 hn2
  obtain ⟨bA_2_c0, bA_2_c1, bA_2_c2⟩ := cells3 bA_2
  by_cases p1 : ((xb.length : Nat) : Int) ≤ left - (xa.length : Nat)
  rotate_left
  · rw [szOf_lo (by omega)]
    go_wp2
    go_ret
    exact ⟨retI (by rw [szOf_lo (by omega)]), N2⟩
  rw [szOf_hi (by omega)]
  go_wp2_with fail
  refine (SzS.szStmtS _ lo hi _ _ (left - (xa.length : Nat) - (xb.length : Nat)) (s.new h1 N2) (by omega) (by omega) (by omega)).mono ?_
  rintro e w3 ⟨rfl, hn3⟩
  have z3 := hn3.size
  have N3 : New w w3 := N2.trans hn3
  have bA_3 := heap_new hn3 bA_2
  clear bA_2_c0 bA_2_c1 bA_2_c2
  clear bA_2 hn3
  obtain ⟨bA_3_c0, bA_3_c1, bA_3_c2⟩ := cells3 bA_3
  by_cases p2 : ((St.sizes x : Nat) : Int) ≤ left - (xa.length : Nat) - (xb.length : Nat)
  rotate_left
  · rw [szOf_lo (by omega)]
    go_wp2
    go_ret
    exact ⟨retI (by rw [szOf_lo (by omega)]), N3⟩
  rw [szOf_hi (by omega)]
  go_wp2
  go_ret
  exact ⟨retI (by rw [szOf_hi (by omega)]; omega), N3⟩
set_option maxHeartbeats 1000000 in
theorem toProgram (w : World) (lo hi : Nat) (ta tb tc : Value) (xa xb : List Int) (x : List St) (sa : IntsR w lo hi ta xa) (sb : IntsR w lo hi tb xb) (s : StsR w lo hi tc x) (h1 : hi ≤ w.heap.size) (m0 : xa.length ≤ 1048576) (m1 : xb.length ≤ 1048576) (m2 : St.sizes x ≤ 1048576) :
    Calls Tryd.prog 14 #[.agg #[ta, tb, tc]] w fun e w' => ∃ va vb vc, e = .returned (.agg #[va, vb, vc]) ∧ New w w' ∧ IntsR w' w.heap.size w'.heap.size va xa ∧ IntsR w' w.heap.size w'.heap.size vb xb ∧ StsR w' w.heap.size w'.heap.size vc x := by
  go_enter Tryd.func14, Tryd.ntmps14
  go_wp2_with fail
  have N0 : New w (((w.alloc (.cells #[ta, tb, tc] 32)).alloc (.cells #[.slice none 0 0, .slice none 0 0, .slice none 0 0] 41)).alloc (.cells #[.slice none 0 0, .slice none 0 0, .slice none 0 0] 41)) := ((((Kp.refl _ _).alloc _).alloc _).alloc _)
  have bA_0 : (((w.alloc (.cells #[ta, tb, tc] 32)).alloc (.cells #[.slice none 0 0, .slice none 0 0, .slice none 0 0] 41)).alloc (.cells #[.slice none 0 0, .slice none 0 0, .slice none 0 0] 41)).heap[w.heap.size]? = some (.cells #[ta, tb, tc] 32) := heap_old (heap_old (alloc_heap _ _))
  have bR_0 : (((w.alloc (.cells #[ta, tb, tc] 32)).alloc (.cells #[.slice none 0 0, .slice none 0 0, .slice none 0 0] 41)).alloc (.cells #[.slice none 0 0, .slice none 0 0, .slice none 0 0] 41)).heap[w.heap.size + 1]? = some (.cells #[.slice none 0 0, .slice none 0 0, .slice none 0 0] 41) := heap_old (heap_at (by simp))
  have bO_0 : (((w.alloc (.cells #[ta, tb, tc] 32)).alloc (.cells #[.slice none 0 0, .slice none 0 0, .slice none 0 0] 41)).alloc (.cells #[.slice none 0 0, .slice none 0 0, .slice none 0 0] 41)).heap[w.heap.size + 1 + 1]? = some (.cells #[.slice none 0 0, .slice none 0 0, .slice none 0 0] 41) := heap_at (by simp)
  have z0 : w.heap.size + 1 + 1 < (((w.alloc (.cells #[ta, tb, tc] 32)).alloc (.cells #[.slice none 0 0, .slice none 0 0, .slice none 0 0] 41)).alloc (.cells #[.slice none 0 0, .slice none 0 0, .slice none 0 0] 41)).heap.size := by simp
  generalize (((w.alloc (.cells #[ta, tb, tc] 32)).alloc (.cells #[.slice none 0 0, .slice none 0 0, .slice none 0 0] 41)).alloc (.cells #[.slice none 0 0, .slice none 0 0, .slice none 0 0] 41)) = w0 at *
  refine (LawF.toIntS _ _ _ _ _ (sa.new h1 N0) (by omega) m0).mono ?_
  rintro e w1 ⟨ua, rfl, hn1, oa⟩
  have z1 := hn1.size
  have N1 : New w w1 := N0.trans hn1
  have bA_1 := heap_new hn1 bA_0
  have bR_1 := heap_new hn1 bR_0
  have bO_1 := heap_new hn1 bO_0
  clear bA_0 bR_0 bO_0 hn1
  replace oa := oa.reads
  obtain ⟨aa, ca, rfl, _⟩ := oa.len
  have oa_1 := oa
  clear oa
  have bA_1_c1 := cell_of_heap bA_1 1
  have bO_1_c0 := cell_of_heap bO_1 0
  have bO_1_f := frozen_of_heap bO_1
  go_wp2_with fail
  have hk2 : One (w.heap.size + 1 + 1) w1 (w1.setCell ⟨w.heap.size + 1 + 1, 0, none⟩ (.slice aa xa.length ca)) := (Kp.setCell (Kp.refl (fun k => k = w.heap.size + 1 + 1) _) (.inl rfl) _)
  have z2 := hk2.size
  have N2 : New w (w1.setCell ⟨w.heap.size + 1 + 1, 0, none⟩ (.slice aa xa.length ca)) := New.one N1 hk2 (by omega)
  have bA_2 : (w1.setCell ⟨w.heap.size + 1 + 1, 0, none⟩ (.slice aa xa.length ca)).heap[w.heap.size]? = some (.cells #[ta, tb, tc] 32) := (heap_set bA_1 (by omega) _)
  have bR_2 : (w1.setCell ⟨w.heap.size + 1 + 1, 0, none⟩ (.slice aa xa.length ca)).heap[w.heap.size + 1]? = some (.cells #[.slice none 0 0, .slice none 0 0, .slice none 0 0] 41) := (heap_set bR_1 (by omega) _)
  have bO_2 : (w1.setCell ⟨w.heap.size + 1 + 1, 0, none⟩ (.slice aa xa.length ca)).heap[w.heap.size + 1 + 1]? = some (.cells #[.slice aa xa.length ca, .slice none 0 0, .slice none 0 0] 41) := (setCell_heap bO_1 _)
  have oa_2 := oa_1.kp hk2 (by omega) (fun k e => .inl (by omega))
  clear bA_1_c1 bO_1_c0 bO_1_f
  clear bA_1 bR_1 bO_1 oa_1 hk2
  generalize (w1.setCell ⟨w.heap.size + 1 + 1, 0, none⟩ (.slice aa xa.length ca)) = w2 at *
  refine (LawF.toIntS _ _ _ _ _ (sb.new h1 N2) (by omega) m1).mono ?_
  rintro e w3 ⟨ub, rfl, hn3, ob⟩
  have z3 := hn3.size
  have N3 : New w w3 := N2.trans hn3
  have bA_3 := heap_new hn3 bA_2
  have bR_3 := heap_new hn3 bR_2
  have bO_3 := heap_new hn3 bO_2
  have oa_3 := oa_2.new (by omega) hn3
  clear bA_2 bR_2 bO_2 oa_2 hn3
  replace ob := ob.reads
  obtain ⟨ab, cb, rfl, _⟩ := ob.len
  have ob_3 := ob
  clear ob
  have bA_3_c2 := cell_of_heap bA_3 2
  have bO_3_c1 := cell_of_heap bO_3 1
  have bO_3_f := frozen_of_heap bO_3
  go_wp2_with fail
  have hk4 : One (w.heap.size + 1 + 1) w3 (w3.setCell ⟨w.heap.size + 1 + 1, 1, none⟩ (.slice ab xb.length cb)) := (Kp.setCell (Kp.refl (fun k => k = w.heap.size + 1 + 1) _) (.inl rfl) _)
  have z4 := hk4.size
  have N4 : New w (w3.setCell ⟨w.heap.size + 1 + 1, 1, none⟩ (.slice ab xb.length cb)) := New.one N3 hk4 (by omega)
  have bA_4 : (w3.setCell ⟨w.heap.size + 1 + 1, 1, none⟩ (.slice ab xb.length cb)).heap[w.heap.size]? = some (.cells #[ta, tb, tc] 32) := (heap_set bA_3 (by omega) _)
  have bR_4 : (w3.setCell ⟨w.heap.size + 1 + 1, 1, none⟩ (.slice ab xb.length cb)).heap[w.heap.size + 1]? = some (.cells #[.slice none 0 0, .slice none 0 0, .slice none 0 0] 41) := (heap_set bR_3 (by omega) _)
  have bO_4 : (w3.setCell ⟨w.heap.size + 1 + 1, 1, none⟩ (.slice ab xb.length cb)).heap[w.heap.size + 1 + 1]? = some (.cells #[.slice aa xa.length ca, .slice ab xb.length cb, .slice none 0 0] 41) := (setCell_heap bO_3 _)
  have oa_4 := oa_3.kp hk4 (by omega) (fun k e => .inl (by omega))
  have ob_4 := ob_3.kp hk4 (by omega) (fun k e => .inl (by omega))
  clear bA_3_c2 bO_3_c1 bO_3_f
  clear bA_3 bR_3 bO_3 oa_3 ob_3 hk4
  generalize (w3.setCell ⟨w.heap.size + 1 + 1, 1, none⟩ (.slice ab xb.length cb)) = w4 at *
  refine (ToS.toStmtS _ lo hi _ _ m2 (s.new h1 N4) (by omega)).mono ?_
  rintro e w5 ⟨uc, rfl, hn5, oc⟩
  have z5 := hn5.size
  have N5 : New w w5 := N4.trans hn5
  have bA_5 := heap_new hn5 bA_4
  have bR_5 := heap_new hn5 bR_4
  have bO_5 := heap_new hn5 bO_4
  have oa_5 := oa_4.new (by omega) hn5
  have ob_5 := ob_4.new (by omega) hn5
  clear bA_4 bR_4 bO_4 oa_4 ob_4 hn5
  obtain ⟨ac, cc, rfl, _⟩ := oc.len
  have oc_5 := oc
  clear oc
  obtain ⟨bO_5_c0, bO_5_c1, bO_5_c2⟩ := cells3 bO_5
  have bO_5_f := frozen_of_heap bO_5
  obtain ⟨bR_5_c0, bR_5_c1, bR_5_c2⟩ := cells3 bR_5
  have bR_5_f := frozen_of_heap bR_5
  go_wp2_with fail
  have hky : One (w.heap.size + 1 + 1) w5 (w5.setCell ⟨w.heap.size + 1 + 1, 2, none⟩ (.slice ac x.length cc)) := (Kp.setCell (Kp.refl (fun k => k = w.heap.size + 1 + 1) _) (.inl rfl) _)
  have zy := hky.size
  have NY : New w (w5.setCell ⟨w.heap.size + 1 + 1, 2, none⟩ (.slice ac x.length cc)) := New.one N5 hky (by omega)
  have hRy : (w5.setCell ⟨w.heap.size + 1 + 1, 2, none⟩ (.slice ac x.length cc)).heap[w.heap.size + 1]? = some (.cells #[.slice none 0 0, .slice none 0 0, .slice none 0 0] 41) := (heap_set bR_5 (by omega) _)
  have ya := oa_5.kp hky (by omega) (fun k e => .inl (by omega))
  have yb := ob_5.kp hky (by omega) (fun k e => .inl (by omega))
  have yc := oc_5.kp hky (by omega) (fun k e => .inl (by omega))
  clear hky
  generalize (w5.setCell ⟨w.heap.size + 1 + 1, 2, none⟩ (.slice ac x.length cc)) = wy at *
  have hkz := setMany_kp (w.heap.size + 1) [.slice aa xa.length ca, .slice ab xb.length cb, .slice ac x.length cc] wy 0
  have zz := setMany_size (w.heap.size + 1) [.slice aa xa.length ca, .slice ab xb.length cb, .slice ac x.length cc] wy 0
  have NZ := New.one NY hkz (by omega)
  have hR := setMany_row [.slice aa xa.length ca, .slice ab xb.length cb, .slice ac x.length cc] hRy rfl
  have ra := (ya.kp hkz (by omega) (fun k e => .inl (by omega))).mono (lo' := w.heap.size) (hi' := (setMany wy (w.heap.size + 1) 0 [.slice aa xa.length ca, .slice ab xb.length cb, .slice ac x.length cc]).heap.size) (by omega) (by omega)
  have rb := (yb.kp hkz (by omega) (fun k e => .inl (by omega))).mono (lo' := w.heap.size) (hi' := (setMany wy (w.heap.size + 1) 0 [.slice aa xa.length ca, .slice ab xb.length cb, .slice ac x.length cc]).heap.size) (by omega) (by omega)
  have rc := (yc.kp hkz (by omega) (fun k e => .inl (by omega))).mono (lo' := w.heap.size) (hi' := (setMany wy (w.heap.size + 1) 0 [.slice aa xa.length ca, .slice ab xb.length cb, .slice ac x.length cc]).heap.size) (by omega) (by omega)
  refine bodyPost_ret (results_cell_row rfl _ _ _ _ _ _ _ rfl hR Tryd.underlying41 rfl (by kernel_rfl)) rfl ⟨_, _, _, rfl, NZ, ra, rb, rc⟩
set_option maxHeartbeats 1000000 in
theorem eqProgram (w : World) (lo hi lo' hi' : Nat) (ta tb tc : Value) (xa xb : List Int) (x : List St) (sa : IntsR w lo hi ta xa) (sb : IntsR w lo hi tb xb) (s : StsR w lo hi tc x) (ua ub uc : Value) (ya yb : List Int) (y : List St) (ra : IntsR w lo' hi' ua ya) (rb : IntsR w lo' hi' ub yb) (r : StsR w lo' hi' uc y) (h1 : hi ≤ w.heap.size) (h2 : hi' ≤ w.heap.size) :
    Calls Tryd.prog 17 #[.agg #[ta, tb, tc], .agg #[ua, ub, uc]] w fun e w' => e = .returned (.bool (decide (xa = ya) && (decide (xb = yb) && St.sames x y))) ∧ New w w' := by
  go_enter Tryd.func17, Tryd.ntmps17
  go_wp2_with fail
  have N0 : New w ((w.alloc (.cells #[ta, tb, tc] 41)).alloc (.cells #[ua, ub, uc] 41)) := (((Kp.refl _ _).alloc _).alloc _)
  have bA_0 : ((w.alloc (.cells #[ta, tb, tc] 41)).alloc (.cells #[ua, ub, uc] 41)).heap[w.heap.size]? = some (.cells #[ta, tb, tc] 41) := heap_old (alloc_heap _ _)
  have bB_0 : ((w.alloc (.cells #[ta, tb, tc] 41)).alloc (.cells #[ua, ub, uc] 41)).heap[w.heap.size + 1]? = some (.cells #[ua, ub, uc] 41) := heap_at (by simp)
  have z0 : w.heap.size + 1 < ((w.alloc (.cells #[ta, tb, tc] 41)).alloc (.cells #[ua, ub, uc] 41)).heap.size := by simp
  generalize ((w.alloc (.cells #[ta, tb, tc] 41)).alloc (.cells #[ua, ub, uc] 41)) = w0 at *
  refine (newOf (LawF.eqIntS _ _ _ _ _ _ _ _ _ (sa.new h1 N0) (ra.new h2 N0))).mono ?_
  rintro e w1 ⟨rfl, hn1⟩
  have z1 := hn1.size
  have N1 : New w w1 := N0.trans hn1
  have bA_1 := heap_new hn1 bA_0
  have bB_1 := heap_new hn1 bB_0
  clear bA_0 bB_0 hn1
  obtain ⟨b0, e0⟩ : ∃ b, decide (xa = ya) = b := ⟨_, rfl⟩
  rw [e0]
  have E0 := Lib.hid e0
  clear e0
  obtain ⟨bA_1_c0, bA_1_c1, bA_1_c2⟩ := cells3 bA_1
  obtain ⟨bB_1_c0, bB_1_c1, bB_1_c2⟩ := cells3 bB_1
  cases b0
  · go_wp2
    go_ret
    exact ⟨retB (by rw [E0.out]; rfl), N1⟩
  go_wp2_with fail
  refine (newOf (LawF.eqIntS _ _ _ _ _ _ _ _ _ (sb.new h1 N1) (rb.new h2 N1))).mono ?_
  rintro e w2 ⟨rfl, hn2⟩
  have z2 := hn2.size
  have N2 : New w w2 := N1.trans hn2
  have bA_2 := heap_new hn2 bA_1
  have bB_2 := heap_new hn2 bB_1
  clear bA_1_c0 bA_1_c1 bA_1_c2 bB_1_c0 bB_1_c1 bB_1_c2
  clear bA_1 bB_1 hn2
  obtain ⟨b1, e1⟩ : ∃ b, decide (xb = yb) = b := ⟨_, rfl⟩
  rw [e1]
  have E1 := Lib.hid e1
  clear e1
  obtain ⟨bA_2_c0, bA_2_c1, bA_2_c2⟩ := cells3 bA_2
  obtain ⟨bB_2_c0, bB_2_c1, bB_2_c2⟩ := cells3 bB_2
  cases b1
  · go_wp2
    go_ret
    exact ⟨retB (by rw [E0.out, E1.out]; rfl), N2⟩
  go_wp2_with fail
  refine (EqS.eqStmtS _ _ _ _ _ _ _ _ _ (s.new h1 N2) (r.new h2 N2) (by omega) (by omega)).mono ?_
  rintro e w3 ⟨rfl, hn3⟩
  have z3 := hn3.size
  have N3 : New w w3 := N2.trans hn3
  have bA_3 := heap_new hn3 bA_2
  have bB_3 := heap_new hn3 bB_2
  clear bA_2_c0 bA_2_c1 bA_2_c2 bB_2_c0 bB_2_c1 bB_2_c2
  clear bA_2 bB_2 hn3
  obtain ⟨b2, e2⟩ : ∃ b, St.sames x y = b := ⟨_, rfl⟩
  rw [e2]
  have E2 := Lib.hid e2
  clear e2
  obtain ⟨bA_3_c0, bA_3_c1, bA_3_c2⟩ := cells3 bA_3
  obtain ⟨bB_3_c0, bB_3_c1, bB_3_c2⟩ := cells3 bB_3
  cases b2
  · go_wp2
    go_ret
    exact ⟨retB (by rw [E0.out, E1.out, E2.out]; rfl), N3⟩
  go_wp2
  go_ret
  exact ⟨retB (by rw [E0.out, E1.out, E2.out]; rfl), N3⟩
theorem eqProgram1 {w : World} {lo hi lo' hi' : Nat} {ta tb tc ua ub uc : Value} {xa xb : List Int} {x : List St} (sa : IntsR w lo hi ta xa) (sb : IntsR w lo hi tb xb) (s : StsR w lo hi tc x) (ra : IntsR w lo' hi' ua xa) (rb : IntsR w lo' hi' ub xb) (r : StsR w lo' hi' uc x) (h1 : hi ≤ w.heap.size) (h2 : hi' ≤ w.heap.size) :
    Calls Tryd.prog 17 #[.agg #[ta, tb, tc], .agg #[ua, ub, uc]] w fun e w' => e = .returned (.bool true) ∧ New w w' :=
  (eqProgram w lo hi lo' hi' ta tb tc xa xb x sa sb s ua ub uc xa xb x ra rb r h1 h2).mono fun e w' ⟨h, k⟩ => ⟨by rw [h]; simp [St.sames_refl], k⟩
end Go.Proofs.YtckikiaockkmbaaDoor.PgmF
