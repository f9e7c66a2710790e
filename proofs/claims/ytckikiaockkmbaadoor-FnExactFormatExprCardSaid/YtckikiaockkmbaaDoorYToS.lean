/- toStmt, toStmtS of laws. Condition: at most 2^20 nodes. -/
import Derived.Test.YtckikiaockkmbaaDoorYP4
import Derived.Test.YtckikiaockkmbaaDoorYToE
import Derived.Test.YtckikiaockkmbaaDoorYP2
import Derived.Test.YtckikiaockkmbaaDoorYP1
namespace Go.Proofs.YtckikiaockkmbaaDoor.ToS
open Go.RowKit Kit
set_option linter.unusedVariables false
theorem info : (Tryd.prog.info? 92).map (fun i => (i.zero, i.size, i.bytes)) = some (some (.agg #[.int .i64 0, .int .i64 0, .int .i64 0, .int .i64 0, .slice none 0 0, .int .i64 0, .int .i64 0, .slice none 0 0, .int .i64 0, .slice none 0 0, .slice none 0 0]), 11, 152) := by kernel_rfl
def Does (n : Nat) : Prop := ∀ (w : World) (lo hi : Nat) (s : Value) (l : List St), St.sizes l < n → St.sizes l ≤ 1048576 → StsR w lo hi s l → hi ≤ w.heap.size →
  Calls Tryd.prog 32 #[s] w fun e w' => ∃ v, e = .returned v ∧ New w w' ∧ StsR w' w.heap.size w'.heap.size v l
set_option maxHeartbeats 4000000 in
theorem toStmt_step (n : Nat) (H : Does n) (w : World) (lo hi : Nat) (k t ik iv vk vv c : Int) (si sv sb se : Value) (li lv : List Ex) (lb le : List St) (q1 : St.sizes lb < n) (q2 : St.sizes le < n) (hm : (Ex.sizes li + Ex.sizes lv + St.sizes lb + St.sizes le) ≤ 1048576) (ri : KidsR w lo hi si li) (rv : KidsR w lo hi sv lv) (rb : StsR w lo hi sb lb) (re : StsR w lo hi se le) (h1 : hi ≤ w.heap.size) :
    Calls Tryd.prog 51 #[.agg #[.int .i64 k, .int .i64 t, .int .i64 ik, .int .i64 iv, si, .int .i64 vk, .int .i64 vv, sv, .int .i64 c, sb, se]] w fun e w' => ∃ xi xv xb xe, e = .returned (.agg #[.int .i64 k, .int .i64 t, .int .i64 ik, .int .i64 iv, xi, .int .i64 vk, .int .i64 vv, xv, .int .i64 c, xb, xe]) ∧ New w w' ∧
      KidsR w' w.heap.size w'.heap.size xi li ∧ KidsR w' w.heap.size w'.heap.size xv lv ∧ StsR w' w.heap.size w'.heap.size xb lb ∧ StsR w' w.heap.size w'.heap.size xe le := by
  have HH := Lib.hid H; clear H
  go_enter Tryd.func51, Tryd.ntmps51
  go_wp2_with fail
  have N0 : New w (((w.alloc (.cells #[.int .i64 k, .int .i64 t, .int .i64 ik, .int .i64 iv, si, .int .i64 vk, .int .i64 vv, sv, .int .i64 c, sb, se] 89)).alloc (.cells #[.int .i64 0, .int .i64 0, .int .i64 0, .int .i64 0, .slice none 0 0, .int .i64 0, .int .i64 0, .slice none 0 0, .int .i64 0, .slice none 0 0, .slice none 0 0] 92)).alloc (.cells #[.int .i64 k, .int .i64 t, .int .i64 0, .int .i64 0, .slice none 0 0, .int .i64 0, .int .i64 0, .slice none 0 0, .int .i64 0, .slice none 0 0, .slice none 0 0] 92)) := ((((Kp.refl _ _).alloc _).alloc _).alloc _)
  have bA_0 : (((w.alloc (.cells #[.int .i64 k, .int .i64 t, .int .i64 ik, .int .i64 iv, si, .int .i64 vk, .int .i64 vv, sv, .int .i64 c, sb, se] 89)).alloc (.cells #[.int .i64 0, .int .i64 0, .int .i64 0, .int .i64 0, .slice none 0 0, .int .i64 0, .int .i64 0, .slice none 0 0, .int .i64 0, .slice none 0 0, .slice none 0 0] 92)).alloc (.cells #[.int .i64 k, .int .i64 t, .int .i64 0, .int .i64 0, .slice none 0 0, .int .i64 0, .int .i64 0, .slice none 0 0, .int .i64 0, .slice none 0 0, .slice none 0 0] 92)).heap[w.heap.size]? = some (.cells #[.int .i64 k, .int .i64 t, .int .i64 ik, .int .i64 iv, si, .int .i64 vk, .int .i64 vv, sv, .int .i64 c, sb, se] 89) := heap_old (heap_old (alloc_heap _ _))
  have bR_0 : (((w.alloc (.cells #[.int .i64 k, .int .i64 t, .int .i64 ik, .int .i64 iv, si, .int .i64 vk, .int .i64 vv, sv, .int .i64 c, sb, se] 89)).alloc (.cells #[.int .i64 0, .int .i64 0, .int .i64 0, .int .i64 0, .slice none 0 0, .int .i64 0, .int .i64 0, .slice none 0 0, .int .i64 0, .slice none 0 0, .slice none 0 0] 92)).alloc (.cells #[.int .i64 k, .int .i64 t, .int .i64 0, .int .i64 0, .slice none 0 0, .int .i64 0, .int .i64 0, .slice none 0 0, .int .i64 0, .slice none 0 0, .slice none 0 0] 92)).heap[w.heap.size + 1]? = some (.cells #[.int .i64 0, .int .i64 0, .int .i64 0, .int .i64 0, .slice none 0 0, .int .i64 0, .int .i64 0, .slice none 0 0, .int .i64 0, .slice none 0 0, .slice none 0 0] 92) := heap_old (heap_at (by simp))
  have bO_0 : (((w.alloc (.cells #[.int .i64 k, .int .i64 t, .int .i64 ik, .int .i64 iv, si, .int .i64 vk, .int .i64 vv, sv, .int .i64 c, sb, se] 89)).alloc (.cells #[.int .i64 0, .int .i64 0, .int .i64 0, .int .i64 0, .slice none 0 0, .int .i64 0, .int .i64 0, .slice none 0 0, .int .i64 0, .slice none 0 0, .slice none 0 0] 92)).alloc (.cells #[.int .i64 k, .int .i64 t, .int .i64 0, .int .i64 0, .slice none 0 0, .int .i64 0, .int .i64 0, .slice none 0 0, .int .i64 0, .slice none 0 0, .slice none 0 0] 92)).heap[w.heap.size + 1 + 1]? = some (.cells #[.int .i64 k, .int .i64 t, .int .i64 0, .int .i64 0, .slice none 0 0, .int .i64 0, .int .i64 0, .slice none 0 0, .int .i64 0, .slice none 0 0, .slice none 0 0] 92) := heap_at (by simp)
  have z0 : w.heap.size + 1 + 1 < (((w.alloc (.cells #[.int .i64 k, .int .i64 t, .int .i64 ik, .int .i64 iv, si, .int .i64 vk, .int .i64 vv, sv, .int .i64 c, sb, se] 89)).alloc (.cells #[.int .i64 0, .int .i64 0, .int .i64 0, .int .i64 0, .slice none 0 0, .int .i64 0, .int .i64 0, .slice none 0 0, .int .i64 0, .slice none 0 0, .slice none 0 0] 92)).alloc (.cells #[.int .i64 k, .int .i64 t, .int .i64 0, .int .i64 0, .slice none 0 0, .int .i64 0, .int .i64 0, .slice none 0 0, .int .i64 0, .slice none 0 0, .slice none 0 0] 92)).heap.size := by simp
  generalize (((w.alloc (.cells #[.int .i64 k, .int .i64 t, .int .i64 ik, .int .i64 iv, si, .int .i64 vk, .int .i64 vv, sv, .int .i64 c, sb, se] 89)).alloc (.cells #[.int .i64 0, .int .i64 0, .int .i64 0, .int .i64 0, .slice none 0 0, .int .i64 0, .int .i64 0, .slice none 0 0, .int .i64 0, .slice none 0 0, .slice none 0 0] 92)).alloc (.cells #[.int .i64 k, .int .i64 t, .int .i64 0, .int .i64 0, .slice none 0 0, .int .i64 0, .int .i64 0, .slice none 0 0, .int .i64 0, .slice none 0 0, .slice none 0 0] 92)) = w0 at *
  refine (ToE.toExpr _ lo hi _ _ _ _ (by omega) (ri.new h1 N0) (by omega)).mono ?_
  rintro e w1 ⟨ui, rfl, hn1, oi⟩
  have z1 := hn1.size
  have N1 : New w w1 := N0.trans hn1
  have bA_1 := heap_new hn1 bA_0
  have bR_1 := heap_new hn1 bR_0
  have bO_1 := heap_new hn1 bO_0
  clear bA_0 bR_0 bO_0 hn1
  obtain ⟨ai, ci, rfl, _⟩ := oi.len
  have oi_1 := oi
  clear oi
  have bA_1_c5 := cell_of_heap bA_1 5
  have bA_1_c6 := cell_of_heap bA_1 6
  have bA_1_c7 := cell_of_heap bA_1 7
  have bO_1_c2 := cell_of_heap bO_1 2
  have bO_1_c3 := cell_of_heap bO_1 3
  have bO_1_c4 := cell_of_heap bO_1 4
  have bO_1_f := frozen_of_heap bO_1
  go_wp2_with fail
  have hk2 : One (w.heap.size + 1 + 1) w1 (((w1.setCell ⟨w.heap.size + 1 + 1, 2, none⟩ (.int .i64 ik)).setCell ⟨w.heap.size + 1 + 1, 3, none⟩ (.int .i64 iv)).setCell ⟨w.heap.size + 1 + 1, 4, none⟩ (.slice ai li.length ci)) := (Kp.setCell (Kp.setCell (Kp.setCell (Kp.refl (fun k => k = w.heap.size + 1 + 1) _) (.inl rfl) _) (.inl rfl) _) (.inl rfl) _)
  have z2 := hk2.size
  have N2 : New w (((w1.setCell ⟨w.heap.size + 1 + 1, 2, none⟩ (.int .i64 ik)).setCell ⟨w.heap.size + 1 + 1, 3, none⟩ (.int .i64 iv)).setCell ⟨w.heap.size + 1 + 1, 4, none⟩ (.slice ai li.length ci)) := New.one N1 hk2 (by omega)
  have bA_2 : (((w1.setCell ⟨w.heap.size + 1 + 1, 2, none⟩ (.int .i64 ik)).setCell ⟨w.heap.size + 1 + 1, 3, none⟩ (.int .i64 iv)).setCell ⟨w.heap.size + 1 + 1, 4, none⟩ (.slice ai li.length ci)).heap[w.heap.size]? = some (.cells #[.int .i64 k, .int .i64 t, .int .i64 ik, .int .i64 iv, si, .int .i64 vk, .int .i64 vv, sv, .int .i64 c, sb, se] 89) := (heap_set (heap_set (heap_set bA_1 (by omega) _) (by omega) _) (by omega) _)
  have bR_2 : (((w1.setCell ⟨w.heap.size + 1 + 1, 2, none⟩ (.int .i64 ik)).setCell ⟨w.heap.size + 1 + 1, 3, none⟩ (.int .i64 iv)).setCell ⟨w.heap.size + 1 + 1, 4, none⟩ (.slice ai li.length ci)).heap[w.heap.size + 1]? = some (.cells #[.int .i64 0, .int .i64 0, .int .i64 0, .int .i64 0, .slice none 0 0, .int .i64 0, .int .i64 0, .slice none 0 0, .int .i64 0, .slice none 0 0, .slice none 0 0] 92) := (heap_set (heap_set (heap_set bR_1 (by omega) _) (by omega) _) (by omega) _)
  have bO_2 : (((w1.setCell ⟨w.heap.size + 1 + 1, 2, none⟩ (.int .i64 ik)).setCell ⟨w.heap.size + 1 + 1, 3, none⟩ (.int .i64 iv)).setCell ⟨w.heap.size + 1 + 1, 4, none⟩ (.slice ai li.length ci)).heap[w.heap.size + 1 + 1]? = some (.cells #[.int .i64 k, .int .i64 t, .int .i64 ik, .int .i64 iv, .slice ai li.length ci, .int .i64 0, .int .i64 0, .slice none 0 0, .int .i64 0, .slice none 0 0, .slice none 0 0] 92) := (setCell_heap (setCell_heap (setCell_heap bO_1 _) _) _)
  have oi_2 := oi_1.kp hk2 (by omega) (fun k e => .inl (by omega))
  clear bA_1_c5 bA_1_c6 bA_1_c7 bO_1_c2 bO_1_c3 bO_1_c4 bO_1_f
  clear bA_1 bR_1 bO_1 oi_1 hk2
  generalize (((w1.setCell ⟨w.heap.size + 1 + 1, 2, none⟩ (.int .i64 ik)).setCell ⟨w.heap.size + 1 + 1, 3, none⟩ (.int .i64 iv)).setCell ⟨w.heap.size + 1 + 1, 4, none⟩ (.slice ai li.length ci)) = w2 at *
  refine (ToE.toExpr _ lo hi _ _ _ _ (by omega) (rv.new h1 N2) (by omega)).mono ?_
  rintro e w3 ⟨uv, rfl, hn3, ov⟩
  have z3 := hn3.size
  have N3 : New w w3 := N2.trans hn3
  have bA_3 := heap_new hn3 bA_2
  have bR_3 := heap_new hn3 bR_2
  have bO_3 := heap_new hn3 bO_2
  have oi_3 := oi_2.new (by omega) hn3
  clear bA_2 bR_2 bO_2 oi_2 hn3
  obtain ⟨av, cv, rfl, _⟩ := ov.len
  have ov_3 := ov
  clear ov
  have bA_3_c8 := cell_of_heap bA_3 8
  have bA_3_c9 := cell_of_heap bA_3 9
  have bO_3_c5 := cell_of_heap bO_3 5
  have bO_3_c6 := cell_of_heap bO_3 6
  have bO_3_c7 := cell_of_heap bO_3 7
  have bO_3_c8 := cell_of_heap bO_3 8
  have bO_3_f := frozen_of_heap bO_3
  go_wp2_with fail
  have hk4 : One (w.heap.size + 1 + 1) w3 ((((w3.setCell ⟨w.heap.size + 1 + 1, 5, none⟩ (.int .i64 vk)).setCell ⟨w.heap.size + 1 + 1, 6, none⟩ (.int .i64 vv)).setCell ⟨w.heap.size + 1 + 1, 7, none⟩ (.slice av lv.length cv)).setCell ⟨w.heap.size + 1 + 1, 8, none⟩ (.int .i64 c)) := (Kp.setCell (Kp.setCell (Kp.setCell (Kp.setCell (Kp.refl (fun k => k = w.heap.size + 1 + 1) _) (.inl rfl) _) (.inl rfl) _) (.inl rfl) _) (.inl rfl) _)
  have z4 := hk4.size
  have N4 : New w ((((w3.setCell ⟨w.heap.size + 1 + 1, 5, none⟩ (.int .i64 vk)).setCell ⟨w.heap.size + 1 + 1, 6, none⟩ (.int .i64 vv)).setCell ⟨w.heap.size + 1 + 1, 7, none⟩ (.slice av lv.length cv)).setCell ⟨w.heap.size + 1 + 1, 8, none⟩ (.int .i64 c)) := New.one N3 hk4 (by omega)
  have bA_4 : ((((w3.setCell ⟨w.heap.size + 1 + 1, 5, none⟩ (.int .i64 vk)).setCell ⟨w.heap.size + 1 + 1, 6, none⟩ (.int .i64 vv)).setCell ⟨w.heap.size + 1 + 1, 7, none⟩ (.slice av lv.length cv)).setCell ⟨w.heap.size + 1 + 1, 8, none⟩ (.int .i64 c)).heap[w.heap.size]? = some (.cells #[.int .i64 k, .int .i64 t, .int .i64 ik, .int .i64 iv, si, .int .i64 vk, .int .i64 vv, sv, .int .i64 c, sb, se] 89) := (heap_set (heap_set (heap_set (heap_set bA_3 (by omega) _) (by omega) _) (by omega) _) (by omega) _)
  have bR_4 : ((((w3.setCell ⟨w.heap.size + 1 + 1, 5, none⟩ (.int .i64 vk)).setCell ⟨w.heap.size + 1 + 1, 6, none⟩ (.int .i64 vv)).setCell ⟨w.heap.size + 1 + 1, 7, none⟩ (.slice av lv.length cv)).setCell ⟨w.heap.size + 1 + 1, 8, none⟩ (.int .i64 c)).heap[w.heap.size + 1]? = some (.cells #[.int .i64 0, .int .i64 0, .int .i64 0, .int .i64 0, .slice none 0 0, .int .i64 0, .int .i64 0, .slice none 0 0, .int .i64 0, .slice none 0 0, .slice none 0 0] 92) := (heap_set (heap_set (heap_set (heap_set bR_3 (by omega) _) (by omega) _) (by omega) _) (by omega) _)
  have bO_4 : ((((w3.setCell ⟨w.heap.size + 1 + 1, 5, none⟩ (.int .i64 vk)).setCell ⟨w.heap.size + 1 + 1, 6, none⟩ (.int .i64 vv)).setCell ⟨w.heap.size + 1 + 1, 7, none⟩ (.slice av lv.length cv)).setCell ⟨w.heap.size + 1 + 1, 8, none⟩ (.int .i64 c)).heap[w.heap.size + 1 + 1]? = some (.cells #[.int .i64 k, .int .i64 t, .int .i64 ik, .int .i64 iv, .slice ai li.length ci, .int .i64 vk, .int .i64 vv, .slice av lv.length cv, .int .i64 c, .slice none 0 0, .slice none 0 0] 92) := (setCell_heap (setCell_heap (setCell_heap (setCell_heap bO_3 _) _) _) _)
  have oi_4 := oi_3.kp hk4 (by omega) (fun k e => .inl (by omega))
  have ov_4 := ov_3.kp hk4 (by omega) (fun k e => .inl (by omega))
  clear bA_3_c8 bA_3_c9 bO_3_c5 bO_3_c6 bO_3_c7 bO_3_c8 bO_3_f
  clear bA_3 bR_3 bO_3 oi_3 ov_3 hk4
  generalize ((((w3.setCell ⟨w.heap.size + 1 + 1, 5, none⟩ (.int .i64 vk)).setCell ⟨w.heap.size + 1 + 1, 6, none⟩ (.int .i64 vv)).setCell ⟨w.heap.size + 1 + 1, 7, none⟩ (.slice av lv.length cv)).setCell ⟨w.heap.size + 1 + 1, 8, none⟩ (.int .i64 c)) = w4 at *
  refine (HH.out _ lo hi _ _ q1 (by omega) (rb.new h1 N4) (by omega)).mono ?_
  rintro e w5 ⟨ub, rfl, hn5, ob⟩
  have z5 := hn5.size
  have N5 : New w w5 := N4.trans hn5
  have bA_5 := heap_new hn5 bA_4
  have bR_5 := heap_new hn5 bR_4
  have bO_5 := heap_new hn5 bO_4
  have oi_5 := oi_4.new (by omega) hn5
  have ov_5 := ov_4.new (by omega) hn5
  clear bA_4 bR_4 bO_4 oi_4 ov_4 hn5
  obtain ⟨ab, cb, rfl, _⟩ := ob.len
  have ob_5 := ob
  clear ob
  have bA_5_c10 := cell_of_heap bA_5 10
  have bO_5_c9 := cell_of_heap bO_5 9
  have bO_5_f := frozen_of_heap bO_5
  go_wp2_with fail
  have hk6 : One (w.heap.size + 1 + 1) w5 (w5.setCell ⟨w.heap.size + 1 + 1, 9, none⟩ (.slice ab lb.length cb)) := (Kp.setCell (Kp.refl (fun k => k = w.heap.size + 1 + 1) _) (.inl rfl) _)
  have z6 := hk6.size
  have N6 : New w (w5.setCell ⟨w.heap.size + 1 + 1, 9, none⟩ (.slice ab lb.length cb)) := New.one N5 hk6 (by omega)
  have bA_6 : (w5.setCell ⟨w.heap.size + 1 + 1, 9, none⟩ (.slice ab lb.length cb)).heap[w.heap.size]? = some (.cells #[.int .i64 k, .int .i64 t, .int .i64 ik, .int .i64 iv, si, .int .i64 vk, .int .i64 vv, sv, .int .i64 c, sb, se] 89) := (heap_set bA_5 (by omega) _)
  have bR_6 : (w5.setCell ⟨w.heap.size + 1 + 1, 9, none⟩ (.slice ab lb.length cb)).heap[w.heap.size + 1]? = some (.cells #[.int .i64 0, .int .i64 0, .int .i64 0, .int .i64 0, .slice none 0 0, .int .i64 0, .int .i64 0, .slice none 0 0, .int .i64 0, .slice none 0 0, .slice none 0 0] 92) := (heap_set bR_5 (by omega) _)
  have bO_6 : (w5.setCell ⟨w.heap.size + 1 + 1, 9, none⟩ (.slice ab lb.length cb)).heap[w.heap.size + 1 + 1]? = some (.cells #[.int .i64 k, .int .i64 t, .int .i64 ik, .int .i64 iv, .slice ai li.length ci, .int .i64 vk, .int .i64 vv, .slice av lv.length cv, .int .i64 c, .slice ab lb.length cb, .slice none 0 0] 92) := (setCell_heap bO_5 _)
  have oi_6 := oi_5.kp hk6 (by omega) (fun k e => .inl (by omega))
  have ov_6 := ov_5.kp hk6 (by omega) (fun k e => .inl (by omega))
  have ob_6 := ob_5.kp hk6 (by omega) (fun k e => .inl (by omega))
  clear bA_5_c10 bO_5_c9 bO_5_f
  clear bA_5 bR_5 bO_5 oi_5 ov_5 ob_5 hk6
  generalize (w5.setCell ⟨w.heap.size + 1 + 1, 9, none⟩ (.slice ab lb.length cb)) = w6 at *
  refine (HH.out _ lo hi _ _ q2 (by omega) (re.new h1 N6) (by omega)).mono ?_
  rintro e w7 ⟨ue, rfl, hn7, oe⟩
  have z7 := hn7.size
  have N7 : New w w7 := N6.trans hn7
  have bA_7 := heap_new hn7 bA_6
  have bR_7 := heap_new hn7 bR_6
  have bO_7 := heap_new hn7 bO_6
  have oi_7 := oi_6.new (by omega) hn7
  have ov_7 := ov_6.new (by omega) hn7
  have ob_7 := ob_6.new (by omega) hn7
  clear bA_6 bR_6 bO_6 oi_6 ov_6 ob_6 hn7
  obtain ⟨ae, ce, rfl, _⟩ := oe.len
  have oe_7 := oe
  clear oe
  obtain ⟨bO_7_c0, bO_7_c1, bO_7_c2, bO_7_c3, bO_7_c4, bO_7_c5, bO_7_c6, bO_7_c7⟩ := cells8 bO_7
  have bO_7_c8 := cell_of_heap bO_7 8
  have bO_7_c9 := cell_of_heap bO_7 9
  have bO_7_c10 := cell_of_heap bO_7 10
  have bO_7_f := frozen_of_heap bO_7
  obtain ⟨bR_7_c0, bR_7_c1, bR_7_c2, bR_7_c3, bR_7_c4, bR_7_c5, bR_7_c6, bR_7_c7⟩ := cells8 bR_7
  have bR_7_c8 := cell_of_heap bR_7 8
  have bR_7_c9 := cell_of_heap bR_7 9
  have bR_7_c10 := cell_of_heap bR_7 10
  have bR_7_f := frozen_of_heap bR_7
  clear HH
  go_wp2_with fail
  have hky : One (w.heap.size + 1 + 1) w7 (w7.setCell ⟨w.heap.size + 1 + 1, 10, none⟩ (.slice ae le.length ce)) := (Kp.setCell (Kp.refl (fun k => k = w.heap.size + 1 + 1) _) (.inl rfl) _)
  have zy := hky.size
  have NY : New w (w7.setCell ⟨w.heap.size + 1 + 1, 10, none⟩ (.slice ae le.length ce)) := New.one N7 hky (by omega)
  have hRy : (w7.setCell ⟨w.heap.size + 1 + 1, 10, none⟩ (.slice ae le.length ce)).heap[w.heap.size + 1]? = some (.cells #[.int .i64 0, .int .i64 0, .int .i64 0, .int .i64 0, .slice none 0 0, .int .i64 0, .int .i64 0, .slice none 0 0, .int .i64 0, .slice none 0 0, .slice none 0 0] 92) := (heap_set bR_7 (by omega) _)
  have yi := oi_7.kp hky (by omega) (fun k e => .inl (by omega))
  have yv := ov_7.kp hky (by omega) (fun k e => .inl (by omega))
  have yb := ob_7.kp hky (by omega) (fun k e => .inl (by omega))
  have ye := oe_7.kp hky (by omega) (fun k e => .inl (by omega))
  clear hky
  generalize (w7.setCell ⟨w.heap.size + 1 + 1, 10, none⟩ (.slice ae le.length ce)) = wy at *
  have hkz := setMany_kp (w.heap.size + 1) [.int .i64 k, .int .i64 t, .int .i64 ik, .int .i64 iv, .slice ai li.length ci, .int .i64 vk, .int .i64 vv, .slice av lv.length cv, .int .i64 c, .slice ab lb.length cb, .slice ae le.length ce] wy 0
  have zz := setMany_size (w.heap.size + 1) [.int .i64 k, .int .i64 t, .int .i64 ik, .int .i64 iv, .slice ai li.length ci, .int .i64 vk, .int .i64 vv, .slice av lv.length cv, .int .i64 c, .slice ab lb.length cb, .slice ae le.length ce] wy 0
  have NZ := New.one NY hkz (by omega)
  have hR := setMany_row [.int .i64 k, .int .i64 t, .int .i64 ik, .int .i64 iv, .slice ai li.length ci, .int .i64 vk, .int .i64 vv, .slice av lv.length cv, .int .i64 c, .slice ab lb.length cb, .slice ae le.length ce] hRy rfl
  have ri := (yi.kp hkz (by omega) (fun k e => .inl (by omega))).mono (lo' := w.heap.size) (hi' := (setMany wy (w.heap.size + 1) 0 [.int .i64 k, .int .i64 t, .int .i64 ik, .int .i64 iv, .slice ai li.length ci, .int .i64 vk, .int .i64 vv, .slice av lv.length cv, .int .i64 c, .slice ab lb.length cb, .slice ae le.length ce]).heap.size) (by omega) (by omega)
  have rv := (yv.kp hkz (by omega) (fun k e => .inl (by omega))).mono (lo' := w.heap.size) (hi' := (setMany wy (w.heap.size + 1) 0 [.int .i64 k, .int .i64 t, .int .i64 ik, .int .i64 iv, .slice ai li.length ci, .int .i64 vk, .int .i64 vv, .slice av lv.length cv, .int .i64 c, .slice ab lb.length cb, .slice ae le.length ce]).heap.size) (by omega) (by omega)
  have rb := (yb.kp hkz (by omega) (fun k e => .inl (by omega))).mono (lo' := w.heap.size) (hi' := (setMany wy (w.heap.size + 1) 0 [.int .i64 k, .int .i64 t, .int .i64 ik, .int .i64 iv, .slice ai li.length ci, .int .i64 vk, .int .i64 vv, .slice av lv.length cv, .int .i64 c, .slice ab lb.length cb, .slice ae le.length ce]).heap.size) (by omega) (by omega)
  have re := (ye.kp hkz (by omega) (fun k e => .inl (by omega))).mono (lo' := w.heap.size) (hi' := (setMany wy (w.heap.size + 1) 0 [.int .i64 k, .int .i64 t, .int .i64 ik, .int .i64 iv, .slice ai li.length ci, .int .i64 vk, .int .i64 vv, .slice av lv.length cv, .int .i64 c, .slice ab lb.length cb, .slice ae le.length ce]).heap.size) (by omega) (by omega)
  refine bodyPost_ret (results_cell_row rfl _ _ _ _ _ _ _ rfl hR Tryd.underlying92 rfl (by kernel_rfl)) rfl ⟨_, _, _, _, rfl, NZ, ri, rv, rb, re⟩
set_option maxHeartbeats 2000000 in
theorem toStmtS_step (n : Nat) (H : Does n) (w : World) (lo hi : Nat) (s : Value) (l : List St) (hl : St.sizes l ≤ n) (hm : St.sizes l ≤ 1048576) (hs : StsR w lo hi s l) (h1 : hi ≤ w.heap.size) :
    Calls Tryd.prog 32 #[s] w fun e w' => ∃ v, e = .returned v ∧ New w w' ∧ StsR w' w.heap.size w'.heap.size v l := by
  obtain ⟨a, c, rfl, hl1⟩ := hs.len
  have HH := Lib.hid H; clear H
  have hlen : l.length ≤ 1048576 := by have := St.length_sizes l; omega
  have hmk := run_mk (P := Tryd.prog) _ _ _ _ _ Tryd.underlying39 info l.length (by omega) (by omega)
  go_enter Tryd.func32, Tryd.ntmps32
  go_wp2_with fail
  clear hmk
  have hF0 : FilledS (w.alloc (.cells (mkCells (.agg #[.int .i64 0, .int .i64 0, .int .i64 0, .int .i64 0, .slice none 0 0, .int .i64 0, .int .i64 0, .slice none 0 0, .int .i64 0, .slice none 0 0, .slice none 0 0]) 11 l.length) 92)) w.heap.size 92 l 0 := FilledS.zero _ _ _ _
  have hA : New w (w.alloc (.cells (mkCells (.agg #[.int .i64 0, .int .i64 0, .int .i64 0, .int .i64 0, .slice none 0 0, .int .i64 0, .int .i64 0, .slice none 0 0, .int .i64 0, .slice none 0 0, .slice none 0 0]) 11 l.length) 92)) := (Kp.refl _ _).alloc _
  generalize w.alloc (.cells (mkCells (.agg #[.int .i64 0, .int .i64 0, .int .i64 0, .int .i64 0, .slice none 0 0, .int .i64 0, .int .i64 0, .slice none 0 0, .int .i64 0, .slice none 0 0, .slice none 0 0]) 11 l.length) 92) = wA at *
  go_loopw [4] (fun i wr => ∃ j : Nat, j ≤ l.length ∧ i = .int .i64 j ∧ New w wr ∧ FilledS wr w.heap.size 92 l j) (fun i _ => l.length - (intOf i).toNat)
  case atStart => exact ⟨0, Nat.zero_le _, rfl, hA, hF0⟩
  case round =>
    obtain ⟨j, hj, rfl, hN, hF⟩ := hrel
    clear hA hF0
    by_cases hlt : j < l.length
    · obtain ⟨b, o, vi, vv, vb, ve, rfl, A⟩ := hs.elem j hlt
      have hb2 := A.hhi
      have g0 := (hN.cell (b := b) (by omega) (fun f => f) (o + j * 11)).trans A.c0
      have g1 := (hN.cell (b := b) (by omega) (fun f => f) (o + j * 11 + 1)).trans A.c1
      have g2 := (hN.cell (b := b) (by omega) (fun f => f) (o + j * 11 + 2)).trans A.c2
      have g3 := (hN.cell (b := b) (by omega) (fun f => f) (o + j * 11 + 3)).trans A.c3
      have g4 := (hN.cell (b := b) (by omega) (fun f => f) (o + j * 11 + 4)).trans A.c4
      have g5 := (hN.cell (b := b) (by omega) (fun f => f) (o + j * 11 + 5)).trans A.c5
      have g6 := (hN.cell (b := b) (by omega) (fun f => f) (o + j * 11 + 6)).trans A.c6
      have g7 := (hN.cell (b := b) (by omega) (fun f => f) (o + j * 11 + 7)).trans A.c7
      have g8 := (hN.cell (b := b) (by omega) (fun f => f) (o + j * 11 + 8)).trans A.c8
      have g9 := (hN.cell (b := b) (by omega) (fun f => f) (o + j * 11 + 9)).trans A.c9
      have g10 := (hN.cell (b := b) (by omega) (fun f => f) (o + j * 11 + 10)).trans A.c10
      have k1 := A.ri.new h1 hN
      have k2 := A.rv.new h1 hN
      have k3 := A.rb.new h1 hN
      have k4 := A.re.new h1 hN
      have hp := St.parts_get l j hlt
      clear A hs
      go_wp2_with fail
      refine (toStmt_step n HH.out _ lo hi _ _ _ _ _ _ _ _ _ _ _ _ _ _ _ (by omega) (by omega) (by omega) k1 k2 k3 k4 (by have := hN.size; omega)).mono ?_
      rintro r w1 ⟨xi, xv, xb, xe, rfl, hn, r1, r2, r3, r4⟩
      obtain ⟨ai, ci, rfl, _⟩ := r1.len
      obtain ⟨av, cv, rfl, _⟩ := r2.len
      obtain ⟨ab, cb, rfl, _⟩ := r3.len
      obtain ⟨ae, ce, rfl, _⟩ := r4.len
      have hF1 := hF.new hn
      have hrow := hF.row.lt
      obtain ⟨y0, d0⟩ := hF1.row.cell (j * 11) (by omega)
      obtain ⟨y1, d1⟩ := hF1.row.cell (j * 11 + 1) (by omega)
      obtain ⟨y2, d2⟩ := hF1.row.cell (j * 11 + 2) (by omega)
      obtain ⟨y3, d3⟩ := hF1.row.cell (j * 11 + 3) (by omega)
      obtain ⟨y4, d4⟩ := hF1.row.cell (j * 11 + 4) (by omega)
      obtain ⟨y5, d5⟩ := hF1.row.cell (j * 11 + 5) (by omega)
      obtain ⟨y6, d6⟩ := hF1.row.cell (j * 11 + 6) (by omega)
      obtain ⟨y7, d7⟩ := hF1.row.cell (j * 11 + 7) (by omega)
      obtain ⟨y8, d8⟩ := hF1.row.cell (j * 11 + 8) (by omega)
      obtain ⟨y9, d9⟩ := hF1.row.cell (j * 11 + 9) (by omega)
      obtain ⟨y10, d10⟩ := hF1.row.cell (j * 11 + 10) (by omega)
      have hfr := hF1.row.free
      have hN1 : New w w1 := hN.trans hn
      have s1 := r1.mono (lo' := w.heap.size + 1) (by omega) (Nat.le_refl _)
      have s2 := r2.mono (lo' := w.heap.size + 1) (by omega) (Nat.le_refl _)
      have s3 := r3.mono (lo' := w.heap.size + 1) (by omega) (Nat.le_refl _)
      have s4 := r4.mono (lo' := w.heap.size + 1) (by omega) (Nat.le_refl _)
      clear g0 g1 g2 g3 g4 g5 g6 g7 g8 g9 g10 k1 k2 k3 k4 hF hn hN r1 r2 r3 r4
      go_wp2
      go_roundw
      case rel => exact ⟨j + 1, by omega, by go_num, (Kp.setCell (Kp.setCell (Kp.setCell (Kp.setCell (Kp.setCell (Kp.setCell (Kp.setCell (Kp.setCell (Kp.setCell (Kp.setCell (Kp.setCell hN1 (.inr (Nat.le_refl _)) _) (.inr (Nat.le_refl _)) _) (.inr (Nat.le_refl _)) _) (.inr (Nat.le_refl _)) _) (.inr (Nat.le_refl _)) _) (.inr (Nat.le_refl _)) _) (.inr (Nat.le_refl _)) _) (.inr (Nat.le_refl _)) _) (.inr (Nat.le_refl _)) _) (.inr (Nat.le_refl _)) _) (.inr (Nat.le_refl _)) _), hF1.step hlt s1 s2 s3 s4 rfl rfl rfl rfl rfl rfl rfl rfl rfl rfl rfl⟩
      case measure => simp [intOf]; omega
    · have hge : l.length ≤ j := by omega
      have hF2 : FilledS wr w.heap.size 92 l l.length := by
        have : j = l.length := by omega
        rw [← this]; exact hF
      clear hF
      go_wp2
      go_ret
      exact ⟨_, rfl, hN, hF2.done hl1⟩
theorem does : ∀ n, Does n
  | 0 => fun w lo hi s l hl hm hs h1 => absurd hl (Nat.not_lt_zero _)
  | n + 1 => fun w lo hi s l hl hm hs h1 => toStmtS_step n (does n) w lo hi s l (Nat.le_of_lt_succ hl) hm hs h1
theorem toStmtS (w : World) (lo hi : Nat) (s : Value) (l : List St) (hm : St.sizes l ≤ 1048576) (hs : StsR w lo hi s l) (h1 : hi ≤ w.heap.size) :
    Calls Tryd.prog 32 #[s] w fun e w' => ∃ v, e = .returned v ∧ New w w' ∧ StsR w' w.heap.size w'.heap.size v l :=
  does _ w lo hi s l (Nat.lt_succ_self _) hm hs h1
end Go.Proofs.YtckikiaockkmbaaDoor.ToS
