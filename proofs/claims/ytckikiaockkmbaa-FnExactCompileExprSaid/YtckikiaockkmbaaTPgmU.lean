/- toProgram of laws: a copy that may be written. Condition: bounds on the lengths. -/
import Derived.Test.YtckikiaockkmbaaTP2
import Derived.Test.YtckikiaockkmbaaTToSU
import Derived.Test.YtckikiaockkmbaaTP1
namespace Go.Proofs.Ytckikiaockkmbaa.PgmU
open Go.RowKit Kit
set_option linter.unusedVariables false
set_option maxHeartbeats 1000000 in
theorem toProgram (w : World) (lo hi : Nat) (ta tb tc : Value) (xa xb : List Int) (x : List St) (sa : IntsR w lo hi ta xa) (sb : IntsR w lo hi tb xb) (s : StsR w lo hi tc x) (h1 : hi ≤ w.heap.size) (m0 : xa.length ≤ 1048576) (m1 : xb.length ≤ 1048576) (m2 : St.sizes x ≤ 1048576) :
    Calls Try.prog 28 #[.agg #[ta, tb, tc]] w fun e w' => ∃ va vb vc, e = .returned (.agg #[va, vb, vc]) ∧ New w w' ∧ OwnF 1 encI w' w.heap.size 3 va xa ∧ OwnF 1 encI w' w.heap.size 3 vb xb ∧ StsU w' w.heap.size w'.heap.size vc x ∧ ∀ b, va.ownBlock = some b → vb.ownBlock ≠ some b := by
  go_enter Try.func28, Try.ntmps28
  go_wp2_with fail
  have N0 : New w (((w.alloc (.cells #[ta, tb, tc] 46)).alloc (.cells #[.slice none 0 0, .slice none 0 0, .slice none 0 0] 37)).alloc (.cells #[.slice none 0 0, .slice none 0 0, .slice none 0 0] 37)) := ((((Kp.refl _ _).alloc _).alloc _).alloc _)
  have bA_0 : (((w.alloc (.cells #[ta, tb, tc] 46)).alloc (.cells #[.slice none 0 0, .slice none 0 0, .slice none 0 0] 37)).alloc (.cells #[.slice none 0 0, .slice none 0 0, .slice none 0 0] 37)).heap[w.heap.size]? = some (.cells #[ta, tb, tc] 46) := heap_old (heap_old (alloc_heap _ _))
  have bR_0 : (((w.alloc (.cells #[ta, tb, tc] 46)).alloc (.cells #[.slice none 0 0, .slice none 0 0, .slice none 0 0] 37)).alloc (.cells #[.slice none 0 0, .slice none 0 0, .slice none 0 0] 37)).heap[w.heap.size + 1]? = some (.cells #[.slice none 0 0, .slice none 0 0, .slice none 0 0] 37) := heap_old (heap_at (by simp))
  have bO_0 : (((w.alloc (.cells #[ta, tb, tc] 46)).alloc (.cells #[.slice none 0 0, .slice none 0 0, .slice none 0 0] 37)).alloc (.cells #[.slice none 0 0, .slice none 0 0, .slice none 0 0] 37)).heap[w.heap.size + 1 + 1]? = some (.cells #[.slice none 0 0, .slice none 0 0, .slice none 0 0] 37) := heap_at (by simp)
  have z0 : w.heap.size + 1 + 1 < (((w.alloc (.cells #[ta, tb, tc] 46)).alloc (.cells #[.slice none 0 0, .slice none 0 0, .slice none 0 0] 37)).alloc (.cells #[.slice none 0 0, .slice none 0 0, .slice none 0 0] 37)).heap.size := by simp
  generalize (((w.alloc (.cells #[ta, tb, tc] 46)).alloc (.cells #[.slice none 0 0, .slice none 0 0, .slice none 0 0] 37)).alloc (.cells #[.slice none 0 0, .slice none 0 0, .slice none 0 0] 37)) = w0 at *
  refine (LawF.toIntS _ _ _ _ _ (sa.new h1 N0) (by omega) m0).mono ?_
  rintro e w1 ⟨ua, rfl, hn1, oa⟩
  have z1 := hn1.size
  have N1 : New w w1 := N0.trans hn1
  have bA_1 := heap_new hn1 bA_0
  have bR_1 := heap_new hn1 bR_0
  have bO_1 := heap_new hn1 bO_0
  clear bA_0 bR_0 bO_0 hn1
  obtain ⟨aa, ca, rfl, _⟩ := oa.reads.len
  have hla := Lib.hid fun b hb => (oa.lt b hb).2
  have oa_1 := oa
  clear oa
  have bA_1_c1 := cell_of_heap bA_1 1
  have bO_1_c0 := cell_of_heap bO_1 0
  have bO_1_f := frozen_of_heap bO_1
  go_wp2_with fail
  have hk2 : One (w.heap.size + 1 + 1) w1 (w1.setCell ⟨w.heap.size + 1 + 1, 0, none⟩ (.slice aa xa.length ca)) := (Kp.setCell (Kp.refl (fun k => k = w.heap.size + 1 + 1) _) (.inl rfl) _)
  have z2 := hk2.size
  have N2 : New w (w1.setCell ⟨w.heap.size + 1 + 1, 0, none⟩ (.slice aa xa.length ca)) := New.one N1 hk2 (by omega)
  have bA_2 : (w1.setCell ⟨w.heap.size + 1 + 1, 0, none⟩ (.slice aa xa.length ca)).heap[w.heap.size]? = some (.cells #[ta, tb, tc] 46) := (heap_set bA_1 (by omega) _)
  have bR_2 : (w1.setCell ⟨w.heap.size + 1 + 1, 0, none⟩ (.slice aa xa.length ca)).heap[w.heap.size + 1]? = some (.cells #[.slice none 0 0, .slice none 0 0, .slice none 0 0] 37) := (heap_set bR_1 (by omega) _)
  have bO_2 : (w1.setCell ⟨w.heap.size + 1 + 1, 0, none⟩ (.slice aa xa.length ca)).heap[w.heap.size + 1 + 1]? = some (.cells #[.slice aa xa.length ca, .slice none 0 0, .slice none 0 0] 37) := (setCell_heap bO_1 _)
  have oa_2 := oa_1.kp hk2 (fun b hb e => by have := oa_1.lt b hb; omega)
  clear bA_1_c1 bO_1_c0 bO_1_f
  clear bA_1 bR_1 bO_1 oa_1 hk2
  generalize (w1.setCell ⟨w.heap.size + 1 + 1, 0, none⟩ (.slice aa xa.length ca)) = w2 at *
  refine (LawF.toIntS _ _ _ _ _ (sb.new h1 N2) (by omega) m1).mono ?_
  rintro e w3 ⟨ub, rfl, hn3, ob⟩
  have z3 := hn3.size
  have N3 : New w w3 := N2.trans hn3
  have bA_3 := heap_new hn3 bA_2
  have bR_3 := heap_new hn3 bR_2
  have bO_3 := heap_new hn3 bO_2
  have oa_3 := oa_2.new hn3
  clear bA_2 bR_2 bO_2 oa_2 hn3
  obtain ⟨ab, cb, rfl, _⟩ := ob.reads.len
  have hlb := Lib.hid fun b hb => (ob.lt b hb).1
  have ob_3 := ob
  clear ob
  have bA_3_c2 := cell_of_heap bA_3 2
  have bO_3_c1 := cell_of_heap bO_3 1
  have bO_3_f := frozen_of_heap bO_3
  go_wp2_with fail
  have hk4 : One (w.heap.size + 1 + 1) w3 (w3.setCell ⟨w.heap.size + 1 + 1, 1, none⟩ (.slice ab xb.length cb)) := (Kp.setCell (Kp.refl (fun k => k = w.heap.size + 1 + 1) _) (.inl rfl) _)
  have z4 := hk4.size
  have N4 : New w (w3.setCell ⟨w.heap.size + 1 + 1, 1, none⟩ (.slice ab xb.length cb)) := New.one N3 hk4 (by omega)
  have bA_4 : (w3.setCell ⟨w.heap.size + 1 + 1, 1, none⟩ (.slice ab xb.length cb)).heap[w.heap.size]? = some (.cells #[ta, tb, tc] 46) := (heap_set bA_3 (by omega) _)
  have bR_4 : (w3.setCell ⟨w.heap.size + 1 + 1, 1, none⟩ (.slice ab xb.length cb)).heap[w.heap.size + 1]? = some (.cells #[.slice none 0 0, .slice none 0 0, .slice none 0 0] 37) := (heap_set bR_3 (by omega) _)
  have bO_4 : (w3.setCell ⟨w.heap.size + 1 + 1, 1, none⟩ (.slice ab xb.length cb)).heap[w.heap.size + 1 + 1]? = some (.cells #[.slice aa xa.length ca, .slice ab xb.length cb, .slice none 0 0] 37) := (setCell_heap bO_3 _)
  have oa_4 := oa_3.kp hk4 (fun b hb e => by have := oa_3.lt b hb; omega)
  have ob_4 := ob_3.kp hk4 (fun b hb e => by have := ob_3.lt b hb; omega)
  clear bA_3_c2 bO_3_c1 bO_3_f
  clear bA_3 bR_3 bO_3 oa_3 ob_3 hk4
  generalize (w3.setCell ⟨w.heap.size + 1 + 1, 1, none⟩ (.slice ab xb.length cb)) = w4 at *
  refine (ToSU.toStmtS _ lo hi _ _ m2 (s.new h1 N4) (by omega)).mono ?_
  rintro e w5 ⟨uc, rfl, hn5, oc⟩
  have z5 := hn5.size
  have N5 : New w w5 := N4.trans hn5
  have bA_5 := heap_new hn5 bA_4
  have bR_5 := heap_new hn5 bR_4
  have bO_5 := heap_new hn5 bO_4
  have oa_5 := oa_4.new hn5
  have ob_5 := ob_4.new hn5
  clear bA_4 bR_4 bO_4 oa_4 ob_4 hn5
  obtain ⟨ac, cc, rfl, _⟩ := oc.len
  have oc_5 := oc
  clear oc
  obtain ⟨bO_5_c0, bO_5_c1, bO_5_c2⟩ := cells3 bO_5
  have bO_5_f := frozen_of_heap bO_5
  obtain ⟨bR_5_c0, bR_5_c1, bR_5_c2⟩ := cells3 bR_5
  have bR_5_f := frozen_of_heap bR_5
  go_wp2_with fail
  have hky : One (w.heap.size + 1 + 1) w5 (w5.setCell ⟨w.heap.size + 1 + 1, 2, none⟩ (.slice ac x.length cc)) := (Kp.setCell (Kp.refl (fun k => k = w.heap.size + 1 + 1) _) (.inl rfl) _)
  have zy := hky.size
  have NY : New w (w5.setCell ⟨w.heap.size + 1 + 1, 2, none⟩ (.slice ac x.length cc)) := New.one N5 hky (by omega)
  have hRy : (w5.setCell ⟨w.heap.size + 1 + 1, 2, none⟩ (.slice ac x.length cc)).heap[w.heap.size + 1]? = some (.cells #[.slice none 0 0, .slice none 0 0, .slice none 0 0] 37) := (heap_set bR_5 (by omega) _)
  have ya := oa_5.kp hky (fun b hb e => by have := oa_5.lt b hb; omega)
  have yb := ob_5.kp hky (fun b hb e => by have := ob_5.lt b hb; omega)
  have yc := oc_5.kp hky (by omega) (fun k e => .inl (by omega))
  clear hky
  generalize (w5.setCell ⟨w.heap.size + 1 + 1, 2, none⟩ (.slice ac x.length cc)) = wy at *
  have hkz := setMany_kp (w.heap.size + 1) [.slice aa xa.length ca, .slice ab xb.length cb, .slice ac x.length cc] wy 0
  have zz := setMany_size (w.heap.size + 1) [.slice aa xa.length ca, .slice ab xb.length cb, .slice ac x.length cc] wy 0
  have NZ := New.one NY hkz (by omega)
  have hR := setMany_row [.slice aa xa.length ca, .slice ab xb.length cb, .slice ac x.length cc] hRy rfl
  have ra := (ya.kp hkz (fun b hb e => by have := ya.lt b hb; omega)).mono (base' := w.heap.size) (by omega)
  have rb := (yb.kp hkz (fun b hb e => by have := yb.lt b hb; omega)).mono (base' := w.heap.size) (by omega)
  have rc := (yc.kp hkz (by omega) (fun k e => .inl (by omega))).mono (lo' := w.heap.size) (hi' := (setMany wy (w.heap.size + 1) 0 [.slice aa xa.length ca, .slice ab xb.length cb, .slice ac x.length cc]).heap.size) (by omega) (by omega)
  refine bodyPost_ret (results_cell_row rfl _ _ _ _ _ _ _ rfl hR Try.underlying37 rfl (by kernel_rfl)) rfl ⟨_, _, _, rfl, NZ, ra, rb, rc, fun b h1 h2 => by have h3 := hla.out b h1; have h4 := hlb.out b h2; omega⟩
end Go.Proofs.Ytckikiaockkmbaa.PgmU
