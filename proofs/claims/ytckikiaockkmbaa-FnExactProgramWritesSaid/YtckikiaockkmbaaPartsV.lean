/- l2None, l2Parts of spec. Condition: at most 2^20 nodes. -/
import Derived.Test.YtckikiaockkmbaaValS
import Derived.Test.YtckikiaockkmbaaMany
import Derived.Test.YtckikiaockkmbaaSzE
import Derived.Test.YtckikiaockkmbaaShort
namespace Go.Proofs.Ytckikiaockkmbaa.PartsV
open Go.RowKit Kit Val
set_option linter.unusedVariables false
set_option maxHeartbeats 1000000 in
theorem l2None {w : World} {lo hi : Nat} (k v : Int) {s : Value} {l : List Ex} (hs : KidsR w lo hi s l) : Calls Try.prog 155 #[.agg #[.int .i64 k, .int .i64 v, s]] w fun e w' => e = .returned (.bool (noneB (.node k v l))) ∧ New w w' := by
  obtain ⟨a2, c2, rfl, hl1⟩ := hs.len
  have U := Lib.hid (show noneB (.node k v l) = (k == 0 && v == 0 && decide (l.length = 0)) from rfl)
  clear hs
  cases h1 : (k == 0)
  · go_enter Try.func155, Try.ntmps155
    go_wp2
    go_ret
    exact ⟨retB (by rw [U.out, h1]; rfl), (Kp.refl _ _).alloc _⟩
  cases h2 : (v == 0)
  · go_enter Try.func155, Try.ntmps155
    go_wp2
    go_ret
    exact ⟨retB (by rw [U.out, h1, h2]; rfl), (Kp.refl _ _).alloc _⟩
  by_cases h3 : l.length = 0
  · have e3 : ((l.length : Int) == 0) = true := by rw [beq_iff_eq]; omega
    have D := Lib.hid (show noneB (.node k v l) = true by rw [U.out, h1, h2]; simp [h3])
    clear h3
    go_enter Try.func155, Try.ntmps155
    go_wp2
    go_ret
    exact ⟨retB D.out.symm, (Kp.refl _ _).alloc _⟩
  · have e3 : ((l.length : Int) == 0) = false := by rw [beq_eq_false_iff_ne]; omega
    have D := Lib.hid (show noneB (.node k v l) = false by rw [U.out, h1, h2]; simp [h3])
    clear h3
    go_enter Try.func155, Try.ntmps155
    go_wp2
    go_ret
    exact ⟨retB D.out.symm, (Kp.refl _ _).alloc _⟩
set_option maxHeartbeats 4000000 in
theorem l2Parts {w : World} {lo hi : Nat} (k t ik iv vk vv c : Int) (si sv sb se : Value) (li lv : List Ex) (lb le : List St) (ri : KidsR w lo hi si li) (rv : KidsR w lo hi sv lv) (rb : StsR w lo hi sb lb) (re : StsR w lo hi se le) (h1 : hi ≤ w.heap.size) :
    Calls Try.prog 132 #[.agg #[.int .i64 k, .int .i64 t, .int .i64 ik, .int .i64 iv, si, .int .i64 vk, .int .i64 vv, sv, .int .i64 c, sb, se]] w fun e w' => e = .returned (.bool (partsB (.node k t (.node ik iv li) (.node vk vv lv) c lb le))) ∧ New w w' := by
  obtain ⟨ai, ci, rfl, _⟩ := ri.len
  obtain ⟨av, cv, rfl, _⟩ := rv.len
  obtain ⟨ab, cb, rfl, mb⟩ := rb.len
  obtain ⟨ae, ce, rfl, me⟩ := re.len
  have RI := Lib.hid ri; have RV := Lib.hid rv
  clear ri rv rb re
  obtain ⟨nn, hnn⟩ : ∃ b, noneB (.node ik iv li) = b := ⟨_, rfl⟩
  obtain ⟨nm, hnm⟩ : ∃ b, noneB (.node vk vv lv) = b := ⟨_, rfl⟩
  have HN := Lib.hid hnn; have HM := Lib.hid hnm
  clear hnn hnm
  by_cases k4 : k = 4
  · subst k4
    have U := Lib.hid (show partsB (.node 4 t (.node ik iv li) (.node vk vv lv) c lb le) = (decide (t = 0) && decide (le.length = 0) && decide (1 ≤ c) && decide (c ≤ 3) && nn && nm) by rw [← HN.out, ← HM.out]; rfl)
    by_cases t0 : t = 0
    rotate_left
    · have t0a : (t != 0) = true := by rw [bne_iff_ne]; exact t0
      have D := Lib.hid (show partsB (.node 4 t (.node ik iv li) (.node vk vv lv) c lb le) = false from (by rw [U.out]; simp [t0]))
      go_enter Try.func132, Try.ntmps132
      go_wp2_with fail
      go_ret
      exact ⟨retB D.out.symm, (Kp.refl _ _).alloc _⟩
    have t0a : (t != 0) = false := by rw [bne_eq_false_iff_eq]; exact t0
    have Qt0 := Lib.hid t0
    clear t0
    by_cases l0 : le.length = 0
    rotate_left
    · have l0a : 0 < le.length := by omega
      have l0c : ((le.length : Int) == 0) = false := by rw [beq_eq_false_iff_ne]; omega
      have D := Lib.hid (show partsB (.node 4 t (.node ik iv li) (.node vk vv lv) c lb le) = false from (by rw [U.out]; simp [l0]))
      go_enter Try.func132, Try.ntmps132
      go_wp2_with fail
      go_ret
      exact ⟨retB D.out.symm, (Kp.refl _ _).alloc _⟩
    have l0a : le.length ≤ 0 := by omega
    have l0b : decide (0 < le.length) = false := by rw [decide_eq_false_iff_not]; omega
    have l0c : ((le.length : Int) == 0) = true := by rw [beq_iff_eq]; omega
    have Ql0 := Lib.hid l0
    clear l0
    by_cases c1 : 1 ≤ c
    rotate_left
    · have c1a : decide (1 ≤ c) = false := by rw [decide_eq_false_iff_not]; exact c1
      have c1b : c < 1 := by omega
      have D := Lib.hid (show partsB (.node 4 t (.node ik iv li) (.node vk vv lv) c lb le) = false from (by rw [U.out]; simp [c1]))
      go_enter Try.func132, Try.ntmps132
      go_wp2_with fail
      go_ret
      exact ⟨retB D.out.symm, (Kp.refl _ _).alloc _⟩
    have c1a : decide (1 ≤ c) = true := by rw [decide_eq_true_eq]; exact c1
    have Qc1 := Lib.hid c1
    clear c1
    by_cases c3 : c ≤ 3
    rotate_left
    · have c3a : decide (c ≤ 3) = false := by rw [decide_eq_false_iff_not]; exact c3
      have c3b : 3 < c := by omega
      have D := Lib.hid (show partsB (.node 4 t (.node ik iv li) (.node vk vv lv) c lb le) = false from (by rw [U.out]; simp [c3]))
      go_enter Try.func132, Try.ntmps132
      go_wp2_with fail
      go_ret
      exact ⟨retB D.out.symm, (Kp.refl _ _).alloc _⟩
    have c3a : decide (c ≤ 3) = true := by rw [decide_eq_true_eq]; exact c3
    have Qc3 := Lib.hid c3
    clear c3
    have E := Lib.hid (show partsB (.node 4 t (.node ik iv li) (.node vk vv lv) c lb le) = (nn && nm) by rw [U.out]; simp [Qt0.out, Ql0.out, Qc1.out, Qc3.out])
    clear U
    cases nn
    · have D := Lib.hid (show partsB (.node 4 t (.node ik iv li) (.node vk vv lv) c lb le) = false from E.out)
      go_enter Try.func132, Try.ntmps132
      go_wp2_with fail
      have N0 : New w (w.alloc (.cells #[.int .i64 4, .int .i64 t, .int .i64 ik, .int .i64 iv, .slice ai li.length ci, .int .i64 vk, .int .i64 vv, .slice av lv.length cv, .int .i64 c, .slice ab lb.length cb, .slice ae le.length ce] 74)) := ((Kp.refl _ _).alloc _)
      have bA_0 : (w.alloc (.cells #[.int .i64 4, .int .i64 t, .int .i64 ik, .int .i64 iv, .slice ai li.length ci, .int .i64 vk, .int .i64 vv, .slice av lv.length cv, .int .i64 c, .slice ab lb.length cb, .slice ae le.length ce] 74)).heap[w.heap.size]? = some (.cells #[.int .i64 4, .int .i64 t, .int .i64 ik, .int .i64 iv, .slice ai li.length ci, .int .i64 vk, .int .i64 vv, .slice av lv.length cv, .int .i64 c, .slice ab lb.length cb, .slice ae le.length ce] 74) := alloc_heap _ _
      have z0 : w.heap.size < (w.alloc (.cells #[.int .i64 4, .int .i64 t, .int .i64 ik, .int .i64 iv, .slice ai li.length ci, .int .i64 vk, .int .i64 vv, .slice av lv.length cv, .int .i64 c, .slice ab lb.length cb, .slice ae le.length ce] 74)).heap.size := by simp
      generalize (w.alloc (.cells #[.int .i64 4, .int .i64 t, .int .i64 ik, .int .i64 iv, .slice ai li.length ci, .int .i64 vk, .int .i64 vv, .slice av lv.length cv, .int .i64 c, .slice ab lb.length cb, .slice ae le.length ce] 74)) = w0 at *
      obtain ⟨bA_0_c0, bA_0_c1, bA_0_c2, bA_0_c3, bA_0_c4, bA_0_c5, bA_0_c6, bA_0_c7⟩ := cells8 bA_0
      have bA_0_c8 := cell_of_heap bA_0 8
      have bA_0_c9 := cell_of_heap bA_0 9
      have bA_0_c10 := cell_of_heap bA_0 10
      refine (l2None _ _ (RI.out.new h1 N0)).mono ?_
      rintro e w1 ⟨rfl, hn1⟩
      have z1 := hn1.size
      have N1 : New w w1 := N0.trans hn1
      have bA_1 := heap_new hn1 bA_0
      clear bA_0_c0 bA_0_c1 bA_0_c2 bA_0_c3 bA_0_c4 bA_0_c5 bA_0_c6 bA_0_c7 bA_0_c8 bA_0_c9 bA_0_c10
      clear bA_0 hn1
      obtain ⟨bA_1_c0, bA_1_c1, bA_1_c2, bA_1_c3, bA_1_c4, bA_1_c5, bA_1_c6, bA_1_c7⟩ := cells8 bA_1
      have bA_1_c8 := cell_of_heap bA_1 8
      have bA_1_c9 := cell_of_heap bA_1 9
      have bA_1_c10 := cell_of_heap bA_1 10
      rw [HN.out]
      go_wp2
      go_ret
      exact ⟨retB D.out.symm, N1⟩
    · have D := Lib.hid (show partsB (.node 4 t (.node ik iv li) (.node vk vv lv) c lb le) = nm from E.out)
      go_enter Try.func132, Try.ntmps132
      go_wp2_with fail
      have N0 : New w (w.alloc (.cells #[.int .i64 4, .int .i64 t, .int .i64 ik, .int .i64 iv, .slice ai li.length ci, .int .i64 vk, .int .i64 vv, .slice av lv.length cv, .int .i64 c, .slice ab lb.length cb, .slice ae le.length ce] 74)) := ((Kp.refl _ _).alloc _)
      have bA_0 : (w.alloc (.cells #[.int .i64 4, .int .i64 t, .int .i64 ik, .int .i64 iv, .slice ai li.length ci, .int .i64 vk, .int .i64 vv, .slice av lv.length cv, .int .i64 c, .slice ab lb.length cb, .slice ae le.length ce] 74)).heap[w.heap.size]? = some (.cells #[.int .i64 4, .int .i64 t, .int .i64 ik, .int .i64 iv, .slice ai li.length ci, .int .i64 vk, .int .i64 vv, .slice av lv.length cv, .int .i64 c, .slice ab lb.length cb, .slice ae le.length ce] 74) := alloc_heap _ _
      have z0 : w.heap.size < (w.alloc (.cells #[.int .i64 4, .int .i64 t, .int .i64 ik, .int .i64 iv, .slice ai li.length ci, .int .i64 vk, .int .i64 vv, .slice av lv.length cv, .int .i64 c, .slice ab lb.length cb, .slice ae le.length ce] 74)).heap.size := by simp
      generalize (w.alloc (.cells #[.int .i64 4, .int .i64 t, .int .i64 ik, .int .i64 iv, .slice ai li.length ci, .int .i64 vk, .int .i64 vv, .slice av lv.length cv, .int .i64 c, .slice ab lb.length cb, .slice ae le.length ce] 74)) = w0 at *
      obtain ⟨bA_0_c0, bA_0_c1, bA_0_c2, bA_0_c3, bA_0_c4, bA_0_c5, bA_0_c6, bA_0_c7⟩ := cells8 bA_0
      have bA_0_c8 := cell_of_heap bA_0 8
      have bA_0_c9 := cell_of_heap bA_0 9
      have bA_0_c10 := cell_of_heap bA_0 10
      refine (l2None _ _ (RI.out.new h1 N0)).mono ?_
      rintro e w1 ⟨rfl, hn1⟩
      have z1 := hn1.size
      have N1 : New w w1 := N0.trans hn1
      have bA_1 := heap_new hn1 bA_0
      clear bA_0_c0 bA_0_c1 bA_0_c2 bA_0_c3 bA_0_c4 bA_0_c5 bA_0_c6 bA_0_c7 bA_0_c8 bA_0_c9 bA_0_c10
      clear bA_0 hn1
      obtain ⟨bA_1_c0, bA_1_c1, bA_1_c2, bA_1_c3, bA_1_c4, bA_1_c5, bA_1_c6, bA_1_c7⟩ := cells8 bA_1
      have bA_1_c8 := cell_of_heap bA_1 8
      have bA_1_c9 := cell_of_heap bA_1 9
      have bA_1_c10 := cell_of_heap bA_1 10
      rw [HN.out]
      go_wp2_with fail
      refine (l2None _ _ (RV.out.new h1 N1)).mono ?_
      rintro e w2 ⟨rfl, hn2⟩
      have z2 := hn2.size
      have N2 : New w w2 := N1.trans hn2
      have bA_2 := heap_new hn2 bA_1
      clear bA_1_c0 bA_1_c1 bA_1_c2 bA_1_c3 bA_1_c4 bA_1_c5 bA_1_c6 bA_1_c7 bA_1_c8 bA_1_c9 bA_1_c10
      clear bA_1 hn2
      obtain ⟨bA_2_c0, bA_2_c1, bA_2_c2, bA_2_c3, bA_2_c4, bA_2_c5, bA_2_c6, bA_2_c7⟩ := cells8 bA_2
      have bA_2_c8 := cell_of_heap bA_2 8
      have bA_2_c9 := cell_of_heap bA_2 9
      have bA_2_c10 := cell_of_heap bA_2 10
      rw [HM.out]
      go_wp2
      go_ret
      exact ⟨retB D.out.symm, N2⟩
  have k4a : (k == 4) = false := by rw [beq_eq_false_iff_ne]; exact k4
  by_cases k3 : k = 3
  · subst k3
    clear k4
    have U := Lib.hid (show partsB (.node 3 t (.node ik iv li) (.node vk vv lv) c lb le) = (decide (t = 0) && decide (c = 0) && nn) by rw [← HN.out]; rfl)
    by_cases t0 : t = 0
    rotate_left
    · have t0a : (t != 0) = true := by rw [bne_iff_ne]; exact t0
      have D := Lib.hid (show partsB (.node 3 t (.node ik iv li) (.node vk vv lv) c lb le) = false from (by rw [U.out]; simp [t0]))
      go_enter Try.func132, Try.ntmps132
      go_wp2_with fail
      go_ret
      exact ⟨retB D.out.symm, (Kp.refl _ _).alloc _⟩
    have t0a : (t != 0) = false := by rw [bne_eq_false_iff_eq]; exact t0
    have Qt0 := Lib.hid t0
    clear t0
    by_cases c0 : c = 0
    rotate_left
    · have c0a : (c == 0) = false := by rw [beq_eq_false_iff_ne]; exact c0
      have c0n : (c != 0) = true := by rw [bne_iff_ne]; exact c0
      have D := Lib.hid (show partsB (.node 3 t (.node ik iv li) (.node vk vv lv) c lb le) = false from (by rw [U.out]; simp [c0]))
      go_enter Try.func132, Try.ntmps132
      go_wp2_with fail
      go_ret
      exact ⟨retB D.out.symm, (Kp.refl _ _).alloc _⟩
    have c0a : (c == 0) = true := by rw [beq_iff_eq]; exact c0
    have c0n : (c != 0) = false := by rw [bne_eq_false_iff_eq]; exact c0
    have Qc0 := Lib.hid c0
    clear c0
    have E := Lib.hid (show partsB (.node 3 t (.node ik iv li) (.node vk vv lv) c lb le) = nn by rw [U.out]; simp [Qt0.out, Qc0.out])
    clear U
    have D := Lib.hid (show partsB (.node 3 t (.node ik iv li) (.node vk vv lv) c lb le) = nn from E.out)
    go_enter Try.func132, Try.ntmps132
    go_wp2_with fail
    have N0 : New w (w.alloc (.cells #[.int .i64 3, .int .i64 t, .int .i64 ik, .int .i64 iv, .slice ai li.length ci, .int .i64 vk, .int .i64 vv, .slice av lv.length cv, .int .i64 c, .slice ab lb.length cb, .slice ae le.length ce] 74)) := ((Kp.refl _ _).alloc _)
    have bA_0 : (w.alloc (.cells #[.int .i64 3, .int .i64 t, .int .i64 ik, .int .i64 iv, .slice ai li.length ci, .int .i64 vk, .int .i64 vv, .slice av lv.length cv, .int .i64 c, .slice ab lb.length cb, .slice ae le.length ce] 74)).heap[w.heap.size]? = some (.cells #[.int .i64 3, .int .i64 t, .int .i64 ik, .int .i64 iv, .slice ai li.length ci, .int .i64 vk, .int .i64 vv, .slice av lv.length cv, .int .i64 c, .slice ab lb.length cb, .slice ae le.length ce] 74) := alloc_heap _ _
    have z0 : w.heap.size < (w.alloc (.cells #[.int .i64 3, .int .i64 t, .int .i64 ik, .int .i64 iv, .slice ai li.length ci, .int .i64 vk, .int .i64 vv, .slice av lv.length cv, .int .i64 c, .slice ab lb.length cb, .slice ae le.length ce] 74)).heap.size := by simp
    generalize (w.alloc (.cells #[.int .i64 3, .int .i64 t, .int .i64 ik, .int .i64 iv, .slice ai li.length ci, .int .i64 vk, .int .i64 vv, .slice av lv.length cv, .int .i64 c, .slice ab lb.length cb, .slice ae le.length ce] 74)) = w0 at *
    obtain ⟨bA_0_c0, bA_0_c1, bA_0_c2, bA_0_c3, bA_0_c4, bA_0_c5, bA_0_c6, bA_0_c7⟩ := cells8 bA_0
    have bA_0_c8 := cell_of_heap bA_0 8
    have bA_0_c9 := cell_of_heap bA_0 9
    have bA_0_c10 := cell_of_heap bA_0 10
    refine (l2None _ _ (RI.out.new h1 N0)).mono ?_
    rintro e w1 ⟨rfl, hn1⟩
    have z1 := hn1.size
    have N1 : New w w1 := N0.trans hn1
    have bA_1 := heap_new hn1 bA_0
    clear bA_0_c0 bA_0_c1 bA_0_c2 bA_0_c3 bA_0_c4 bA_0_c5 bA_0_c6 bA_0_c7 bA_0_c8 bA_0_c9 bA_0_c10
    clear bA_0 hn1
    obtain ⟨bA_1_c0, bA_1_c1, bA_1_c2, bA_1_c3, bA_1_c4, bA_1_c5, bA_1_c6, bA_1_c7⟩ := cells8 bA_1
    have bA_1_c8 := cell_of_heap bA_1 8
    have bA_1_c9 := cell_of_heap bA_1 9
    have bA_1_c10 := cell_of_heap bA_1 10
    rw [HN.out]
    go_wp2
    go_ret
    exact ⟨retB D.out.symm, N1⟩
  have k3a : (k == 3) = false := by rw [beq_eq_false_iff_ne]; exact k3
  have U := Lib.hid (show partsB (.node k t (.node ik iv li) (.node vk vv lv) c lb le) = (decide (lb.length = 0) && decide (le.length = 0) && decide (c = 0) && (k == 2 || nn)) by rw [← HN.out]; unfold partsB; rw [if_neg (show ¬ (St.node k t (.node ik iv li) (.node vk vv lv) c lb le).kind = 4 from k4), if_neg (show ¬ (St.node k t (.node ik iv li) (.node vk vv lv) c lb le).kind = 3 from k3)]; rfl)
  clear k3 k4
  by_cases b0 : lb.length = 0
  rotate_left
  · have b0a : 0 < lb.length := by omega
    have D := Lib.hid (show partsB (.node k t (.node ik iv li) (.node vk vv lv) c lb le) = false from (by rw [U.out]; simp [b0]))
    go_enter Try.func132, Try.ntmps132
    go_wp2_with fail
    go_ret
    exact ⟨retB D.out.symm, (Kp.refl _ _).alloc _⟩
  have b0a : lb.length ≤ 0 := by omega
  have b0b : decide (0 < lb.length) = false := by rw [decide_eq_false_iff_not]; omega
  have Qb0 := Lib.hid b0
  clear b0
  by_cases l0 : le.length = 0
  rotate_left
  · have l0a : 0 < le.length := by omega
    have l0c : ((le.length : Int) == 0) = false := by rw [beq_eq_false_iff_ne]; omega
    have D := Lib.hid (show partsB (.node k t (.node ik iv li) (.node vk vv lv) c lb le) = false from (by rw [U.out]; simp [l0]))
    go_enter Try.func132, Try.ntmps132
    go_wp2_with fail
    go_ret
    exact ⟨retB D.out.symm, (Kp.refl _ _).alloc _⟩
  have l0a : le.length ≤ 0 := by omega
  have l0b : decide (0 < le.length) = false := by rw [decide_eq_false_iff_not]; omega
  have l0c : ((le.length : Int) == 0) = true := by rw [beq_iff_eq]; omega
  have Ql0 := Lib.hid l0
  clear l0
  by_cases c0 : c = 0
  rotate_left
  · have c0a : (c == 0) = false := by rw [beq_eq_false_iff_ne]; exact c0
    have c0n : (c != 0) = true := by rw [bne_iff_ne]; exact c0
    have D := Lib.hid (show partsB (.node k t (.node ik iv li) (.node vk vv lv) c lb le) = false from (by rw [U.out]; simp [c0]))
    go_enter Try.func132, Try.ntmps132
    go_wp2_with fail
    go_ret
    exact ⟨retB D.out.symm, (Kp.refl _ _).alloc _⟩
  have c0a : (c == 0) = true := by rw [beq_iff_eq]; exact c0
  have c0n : (c != 0) = false := by rw [bne_eq_false_iff_eq]; exact c0
  have Qc0 := Lib.hid c0
  clear c0
  have E := Lib.hid (show partsB (.node k t (.node ik iv li) (.node vk vv lv) c lb le) = (k == 2 || nn) by rw [U.out]; simp [Qb0.out, Ql0.out, Qc0.out])
  clear U
  cases k2 : (k == 2)
  · have D := Lib.hid (show partsB (.node k t (.node ik iv li) (.node vk vv lv) c lb le) = nn from (by rw [E.out, k2]; rfl))
    go_enter Try.func132, Try.ntmps132
    go_wp2_with fail
    have N0 : New w (w.alloc (.cells #[.int .i64 k, .int .i64 t, .int .i64 ik, .int .i64 iv, .slice ai li.length ci, .int .i64 vk, .int .i64 vv, .slice av lv.length cv, .int .i64 c, .slice ab lb.length cb, .slice ae le.length ce] 74)) := ((Kp.refl _ _).alloc _)
    have bA_0 : (w.alloc (.cells #[.int .i64 k, .int .i64 t, .int .i64 ik, .int .i64 iv, .slice ai li.length ci, .int .i64 vk, .int .i64 vv, .slice av lv.length cv, .int .i64 c, .slice ab lb.length cb, .slice ae le.length ce] 74)).heap[w.heap.size]? = some (.cells #[.int .i64 k, .int .i64 t, .int .i64 ik, .int .i64 iv, .slice ai li.length ci, .int .i64 vk, .int .i64 vv, .slice av lv.length cv, .int .i64 c, .slice ab lb.length cb, .slice ae le.length ce] 74) := alloc_heap _ _
    have z0 : w.heap.size < (w.alloc (.cells #[.int .i64 k, .int .i64 t, .int .i64 ik, .int .i64 iv, .slice ai li.length ci, .int .i64 vk, .int .i64 vv, .slice av lv.length cv, .int .i64 c, .slice ab lb.length cb, .slice ae le.length ce] 74)).heap.size := by simp
    generalize (w.alloc (.cells #[.int .i64 k, .int .i64 t, .int .i64 ik, .int .i64 iv, .slice ai li.length ci, .int .i64 vk, .int .i64 vv, .slice av lv.length cv, .int .i64 c, .slice ab lb.length cb, .slice ae le.length ce] 74)) = w0 at *
    obtain ⟨bA_0_c0, bA_0_c1, bA_0_c2, bA_0_c3, bA_0_c4, bA_0_c5, bA_0_c6, bA_0_c7⟩ := cells8 bA_0
    have bA_0_c8 := cell_of_heap bA_0 8
    have bA_0_c9 := cell_of_heap bA_0 9
    have bA_0_c10 := cell_of_heap bA_0 10
    refine (l2None _ _ (RI.out.new h1 N0)).mono ?_
    rintro e w1 ⟨rfl, hn1⟩
    have z1 := hn1.size
    have N1 : New w w1 := N0.trans hn1
    have bA_1 := heap_new hn1 bA_0
    clear bA_0_c0 bA_0_c1 bA_0_c2 bA_0_c3 bA_0_c4 bA_0_c5 bA_0_c6 bA_0_c7 bA_0_c8 bA_0_c9 bA_0_c10
    clear bA_0 hn1
    obtain ⟨bA_1_c0, bA_1_c1, bA_1_c2, bA_1_c3, bA_1_c4, bA_1_c5, bA_1_c6, bA_1_c7⟩ := cells8 bA_1
    have bA_1_c8 := cell_of_heap bA_1 8
    have bA_1_c9 := cell_of_heap bA_1 9
    have bA_1_c10 := cell_of_heap bA_1 10
    rw [HN.out]
    go_wp2
    go_ret
    exact ⟨retB D.out.symm, N1⟩
  · have D := Lib.hid (show partsB (.node k t (.node ik iv li) (.node vk vv lv) c lb le) = true from (by rw [E.out, k2]; rfl))
    go_enter Try.func132, Try.ntmps132
    go_wp2_with fail
    go_ret
    exact ⟨retB D.out.symm, (Kp.refl _ _).alloc _⟩
end Go.Proofs.Ytckikiaockkmbaa.PartsV
