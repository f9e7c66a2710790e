/- CheckFlow of impl. No conditions. -/
import Derived.Test.YtbnhhmgdkiomoaaFlowP
import Derived.Test.YtbnhhmgdkiomoaaEach
import Derived.Test.YtbnhhmgdkiomoaaPgmV
import Derived.Deep.RegionHeld3
import Derived.BigQuiet
import Derived.BigRegion
import Derived.Deep.DeepCutAuto
import Derived.Deep.RegionWith
import Derived.Great.Walk
import Derived.Test.YtbnhhmgdkiomoaaShort
namespace Go.Proofs.Ytbnhhmgdkiomoaa.FlowI
open Go.RowKit Kit Val Each
set_option linter.unusedVariables false
set_option maxHeartbeats 4000000 in
theorem stored {w : World} {lo hi : Nat} {ta tb tc : Value} {xa xb : List Int} {k t ik iv vk vv c x : Int} {si sv sd se : Value} {li lv : List Ex} {lb le : List St} (sa : IntsR w lo hi ta xa) (sb : IntsR w lo hi tb xb) (ri : KidsR w lo hi si li) (rv : KidsR w lo hi sv lv) (rb : StsR w lo hi sd lb) (re : StsR w lo hi se le) (h1 : hi ≤ w.heap.size) (hr : right xa.length xb.length (.node vk vv lv) = true) (hi2 : k = 2 → right xa.length xb.length (.node ik iv li) = true) :
    Calls Try.prog 120 #[.agg #[ta, tb, tc], .agg #[.int .i64 k, .int .i64 t, .int .i64 ik, .int .i64 iv, si, .int .i64 vk, .int .i64 vv, sv, .int .i64 c, sd, se], .int .i64 x] w fun e w' => e = .returned (.int .i64 (storedI xa xb (.node k t (.node ik iv li) (.node vk vv lv) c lb le) x)) ∧ New w w' := by
  obtain ⟨a1, d1, rfl, m1⟩ := sa.len
  obtain ⟨a2, d2, rfl, m2⟩ := sb.len
  obtain ⟨a4, c4, rfl, m4⟩ := ri.len
  obtain ⟨a7, c7, rfl, m7⟩ := rv.len
  obtain ⟨a9, c9, rfl, m9⟩ := rb.len
  obtain ⟨a10, c10, rfl, m10⟩ := re.len
  have hsa := Lib.hid sa
  have hsb := Lib.hid sb
  have hri := Lib.hid ri
  have hrv := Lib.hid rv
  have hrb := Lib.hid rb
  have hre := Lib.hid re
  clear sa sb ri rv rb re
  go_enter Try.func120, Try.ntmps120
  go_wp2_with fail
  have N0 : New w ((w.alloc (.cells #[.slice a1 xa.length d1, .slice a2 xb.length d2, tc] 33)).alloc (.cells #[.int .i64 k, .int .i64 t, .int .i64 ik, .int .i64 iv, .slice a4 li.length c4, .int .i64 vk, .int .i64 vv, .slice a7 lv.length c7, .int .i64 c, .slice a9 lb.length c9, .slice a10 le.length c10] 73)) := (((Kp.refl _ _).alloc _).alloc _)
  have bA_0 : ((w.alloc (.cells #[.slice a1 xa.length d1, .slice a2 xb.length d2, tc] 33)).alloc (.cells #[.int .i64 k, .int .i64 t, .int .i64 ik, .int .i64 iv, .slice a4 li.length c4, .int .i64 vk, .int .i64 vv, .slice a7 lv.length c7, .int .i64 c, .slice a9 lb.length c9, .slice a10 le.length c10] 73)).heap[w.heap.size]? = some (.cells #[.slice a1 xa.length d1, .slice a2 xb.length d2, tc] 33) := heap_old (alloc_heap _ _)
  have bS_0 : ((w.alloc (.cells #[.slice a1 xa.length d1, .slice a2 xb.length d2, tc] 33)).alloc (.cells #[.int .i64 k, .int .i64 t, .int .i64 ik, .int .i64 iv, .slice a4 li.length c4, .int .i64 vk, .int .i64 vv, .slice a7 lv.length c7, .int .i64 c, .slice a9 lb.length c9, .slice a10 le.length c10] 73)).heap[w.heap.size + 1]? = some (.cells #[.int .i64 k, .int .i64 t, .int .i64 ik, .int .i64 iv, .slice a4 li.length c4, .int .i64 vk, .int .i64 vv, .slice a7 lv.length c7, .int .i64 c, .slice a9 lb.length c9, .slice a10 le.length c10] 73) := heap_at (by simp)
  have z0 : w.heap.size + 1 < ((w.alloc (.cells #[.slice a1 xa.length d1, .slice a2 xb.length d2, tc] 33)).alloc (.cells #[.int .i64 k, .int .i64 t, .int .i64 ik, .int .i64 iv, .slice a4 li.length c4, .int .i64 vk, .int .i64 vv, .slice a7 lv.length c7, .int .i64 c, .slice a9 lb.length c9, .slice a10 le.length c10] 73)).heap.size := by simp
  generalize ((w.alloc (.cells #[.slice a1 xa.length d1, .slice a2 xb.length d2, tc] 33)).alloc (.cells #[.int .i64 k, .int .i64 t, .int .i64 ik, .int .i64 iv, .slice a4 li.length c4, .int .i64 vk, .int .i64 vv, .slice a7 lv.length c7, .int .i64 c, .slice a9 lb.length c9, .slice a10 le.length c10] 73)) = w0 at *
  obtain ⟨bA_0_c0, bA_0_c1, bA_0_c2⟩ := cells3 bA_0
  obtain ⟨bS_0_c0, bS_0_c1, bS_0_c2, bS_0_c3, bS_0_c4, bS_0_c5, bS_0_c6, bS_0_c7⟩ := cells8 bS_0
  have bS_0_c8 := cell_of_heap bS_0 8
  have bS_0_c9 := cell_of_heap bS_0 9
  have bS_0_c10 := cell_of_heap bS_0 10
  go_wp2_with fail
  refine (LabE.Impl.label (hsa.out.new h1 N0) (hsb.out.new h1 N0) (hrv.out.new h1 N0) (by omega) (by omega) hr).mono ?_
  rintro e w1 ⟨rfl, hn1⟩
  have z1 := hn1.size
  have N1 : New w w1 := N0.trans hn1
  have bA_1 := heap_new hn1 bA_0
  have bS_1 := heap_new hn1 bS_0
  clear bA_0_c0 bA_0_c1 bA_0_c2 bS_0_c0 bS_0_c1 bS_0_c2 bS_0_c3 bS_0_c4 bS_0_c5 bS_0_c6 bS_0_c7 bS_0_c8 bS_0_c9 bS_0_c10
  clear bA_0 bS_0 hn1
  by_cases k2 : k = 2
  · have hk2 : (k == 2) = true := by simp [k2]
    have D := Lib.hid (show storedI xa xb (.node k t (.node ik iv li) (.node vk vv lv) c lb le) x = bits .or .i64 (bits .or .i64 (lab xa xb (.node vk vv lv)) x) (lab xa xb (.node ik iv li)) by rw [storedI_node, if_pos k2]; rfl)
    have hr2 := hi2 k2
    clear k2
    obtain ⟨bA_1_c0, bA_1_c1, bA_1_c2⟩ := cells3 bA_1
    obtain ⟨bS_1_c0, bS_1_c1, bS_1_c2, bS_1_c3, bS_1_c4, bS_1_c5, bS_1_c6, bS_1_c7⟩ := cells8 bS_1
    have bS_1_c8 := cell_of_heap bS_1 8
    have bS_1_c9 := cell_of_heap bS_1 9
    have bS_1_c10 := cell_of_heap bS_1 10
    go_wp2_with fail
    refine (LabE.Impl.label (hsa.out.new h1 N1) (hsb.out.new h1 N1) (hri.out.new h1 N1) (by omega) (by omega) hr2).mono ?_
    rintro e w2 ⟨rfl, hn2⟩
    have z2 := hn2.size
    have N2 : New w w2 := N1.trans hn2
    have bA_2 := heap_new hn2 bA_1
    have bS_2 := heap_new hn2 bS_1
    clear bA_1_c0 bA_1_c1 bA_1_c2 bS_1_c0 bS_1_c1 bS_1_c2 bS_1_c3 bS_1_c4 bS_1_c5 bS_1_c6 bS_1_c7 bS_1_c8 bS_1_c9 bS_1_c10
    clear bA_1 bS_1 hn2
    obtain ⟨bA_2_c0, bA_2_c1, bA_2_c2⟩ := cells3 bA_2
    obtain ⟨bS_2_c0, bS_2_c1, bS_2_c2, bS_2_c3, bS_2_c4, bS_2_c5, bS_2_c6, bS_2_c7⟩ := cells8 bS_2
    have bS_2_c8 := cell_of_heap bS_2 8
    have bS_2_c9 := cell_of_heap bS_2 9
    have bS_2_c10 := cell_of_heap bS_2 10
    go_wp2
    go_ret
    exact ⟨retI D.out.symm, N2⟩
  · have hk2 : (k == 2) = false := by simp [k2]
    have D := Lib.hid (show storedI xa xb (.node k t (.node ik iv li) (.node vk vv lv) c lb le) x = bits .or .i64 (lab xa xb (.node vk vv lv)) x by rw [storedI_node, if_neg k2]; rfl)
    clear k2
    obtain ⟨bA_1_c0, bA_1_c1, bA_1_c2⟩ := cells3 bA_1
    obtain ⟨bS_1_c0, bS_1_c1, bS_1_c2, bS_1_c3, bS_1_c4, bS_1_c5, bS_1_c6, bS_1_c7⟩ := cells8 bS_1
    have bS_1_c8 := cell_of_heap bS_1 8
    have bS_1_c9 := cell_of_heap bS_1 9
    have bS_1_c10 := cell_of_heap bS_1 10
    go_wp2
    go_ret
    exact ⟨retI D.out.symm, N1⟩
set_option maxHeartbeats 8000000 in
theorem flow1 {w : World} {lo hi : Nat} {ta tb tc : Value} {xa xb : List Int} {d : Nat} {t ik iv vk vv c x : Int} {si sv sd se : Value} {li lv : List Ex} {lb le : List St} (sa : IntsR w lo hi ta xa) (sb : IntsR w lo hi tb xb) (ri : KidsR w lo hi si li) (rv : KidsR w lo hi sv lv) (rb : StsR w lo hi sd lb) (re : StsR w lo hi se le) (h1 : hi ≤ w.heap.size) (hv : stB xa.length xb.length (.node 1 t (.node ik iv li) (.node vk vv lv) c lb le) d = true)  :
    Calls Try.prog 87 #[.agg #[ta, tb, tc], .agg #[.int .i64 1, .int .i64 t, .int .i64 ik, .int .i64 iv, si, .int .i64 vk, .int .i64 vv, sv, .int .i64 c, sd, se], .int .i64 x] w fun e w' => e = .returned (.int .i64 (ownI xa xb (.node 1 t (.node ik iv li) (.node vk vv lv) c lb le) x)) ∧ New w w' := by
  have hval := stB_val hv
  obtain ⟨hq1, hq2, hq3, hq4, hq5, hq6⟩ := hval
  clear hv
  obtain ⟨a1, d1, rfl, m1⟩ := sa.len
  obtain ⟨a2, d2, rfl, m2⟩ := sb.len
  obtain ⟨a4, c4, rfl, m4⟩ := ri.len
  obtain ⟨a7, c7, rfl, m7⟩ := rv.len
  obtain ⟨a9, c9, rfl, m9⟩ := rb.len
  obtain ⟨a10, c10, rfl, m10⟩ := re.len
  have hsa := Lib.hid sa
  have hsb := Lib.hid sb
  have hri := Lib.hid ri
  have hrv := Lib.hid rv
  have hrb := Lib.hid rb
  have hre := Lib.hid re
  clear sa sb ri rv rb re
  obtain ⟨ht0, ht1⟩ : 0 ≤ t ∧ t < (xa.length : Int) := hq3 (.inl rfl)
  obtain ⟨n, rfl⟩ := Int.eq_ofNat_of_zero_le ht0
  have hn : n < xa.length := by omega
  obtain ⟨bx, ox, ex, hb1, hb2, xX_0⟩ := IntsR.at hsa.out n hn
  cases ex
  have hr : right xa.length xb.length (.node vk vv lv) = true := hq1 (show (1 : Int) ≠ 4 by decide)
  have D := Lib.hid (show ownI xa xb (.node 1 (n : Int) (.node ik iv li) (.node vk vv lv) c lb le) x = if Lab.flowsB (storedI xa xb (.node 1 (n : Int) (.node ik iv li) (.node vk vv lv) c lb le) x) xa[n] then 0 else 1 by rw [ownI_node]; simp [hn])
  have hnw : bx < w.heap.size := by omega
  have hX := xX_0
  clear xX_0 ht0 ht1 hq1 hq2 hq3 hq4 hq5 hq6
  generalize xa[n] = y at *
  go_enter Try.func87, Try.ntmps87
  go_wp2_with fail
  have N0 : New w ((w.alloc (.cells #[.slice (some ⟨bx, ox, none⟩) xa.length d1, .slice a2 xb.length d2, tc] 33)).alloc (.cells #[.int .i64 1, .int .i64 (n : Int), .int .i64 ik, .int .i64 iv, .slice a4 li.length c4, .int .i64 vk, .int .i64 vv, .slice a7 lv.length c7, .int .i64 c, .slice a9 lb.length c9, .slice a10 le.length c10] 73)) := (((Kp.refl _ _).alloc _).alloc _)
  have bA_0 : ((w.alloc (.cells #[.slice (some ⟨bx, ox, none⟩) xa.length d1, .slice a2 xb.length d2, tc] 33)).alloc (.cells #[.int .i64 1, .int .i64 (n : Int), .int .i64 ik, .int .i64 iv, .slice a4 li.length c4, .int .i64 vk, .int .i64 vv, .slice a7 lv.length c7, .int .i64 c, .slice a9 lb.length c9, .slice a10 le.length c10] 73)).heap[w.heap.size]? = some (.cells #[.slice (some ⟨bx, ox, none⟩) xa.length d1, .slice a2 xb.length d2, tc] 33) := heap_old (alloc_heap _ _)
  have bS_0 : ((w.alloc (.cells #[.slice (some ⟨bx, ox, none⟩) xa.length d1, .slice a2 xb.length d2, tc] 33)).alloc (.cells #[.int .i64 1, .int .i64 (n : Int), .int .i64 ik, .int .i64 iv, .slice a4 li.length c4, .int .i64 vk, .int .i64 vv, .slice a7 lv.length c7, .int .i64 c, .slice a9 lb.length c9, .slice a10 le.length c10] 73)).heap[w.heap.size + 1]? = some (.cells #[.int .i64 1, .int .i64 (n : Int), .int .i64 ik, .int .i64 iv, .slice a4 li.length c4, .int .i64 vk, .int .i64 vv, .slice a7 lv.length c7, .int .i64 c, .slice a9 lb.length c9, .slice a10 le.length c10] 73) := heap_at (by simp)
  have z0 : w.heap.size + 1 < ((w.alloc (.cells #[.slice (some ⟨bx, ox, none⟩) xa.length d1, .slice a2 xb.length d2, tc] 33)).alloc (.cells #[.int .i64 1, .int .i64 (n : Int), .int .i64 ik, .int .i64 iv, .slice a4 li.length c4, .int .i64 vk, .int .i64 vv, .slice a7 lv.length c7, .int .i64 c, .slice a9 lb.length c9, .slice a10 le.length c10] 73)).heap.size := by simp
  generalize ((w.alloc (.cells #[.slice (some ⟨bx, ox, none⟩) xa.length d1, .slice a2 xb.length d2, tc] 33)).alloc (.cells #[.int .i64 1, .int .i64 (n : Int), .int .i64 ik, .int .i64 iv, .slice a4 li.length c4, .int .i64 vk, .int .i64 vv, .slice a7 lv.length c7, .int .i64 c, .slice a9 lb.length c9, .slice a10 le.length c10] 73)) = w0 at *
  have xX_0 := (N0.cell hnw (fun f => f) _).trans hX
  clear hX
  obtain ⟨bA_0_c0, bA_0_c1, bA_0_c2⟩ := cells3 bA_0
  obtain ⟨bS_0_c0, bS_0_c1, bS_0_c2, bS_0_c3, bS_0_c4, bS_0_c5, bS_0_c6, bS_0_c7⟩ := cells8 bS_0
  have bS_0_c8 := cell_of_heap bS_0 8
  have bS_0_c9 := cell_of_heap bS_0 9
  have bS_0_c10 := cell_of_heap bS_0 10
  go_wp2_with fail
  have hn1 : New w0 w0.drew := (Kp.refl _ _).drew
  have z1 := hn1.size
  have N1 : New w w0.drew := N0.trans hn1
  have bA_1 := heap_new hn1 bA_0
  have bS_1 := heap_new hn1 bS_0
  clear bA_0_c0 bA_0_c1 bA_0_c2 bS_0_c0 bS_0_c1 bS_0_c2 bS_0_c3 bS_0_c4 bS_0_c5 bS_0_c6 bS_0_c7 bS_0_c8 bS_0_c9 bS_0_c10
  have xX_1 := (hn1.cell (cell_lt xX_0) (fun f => f) _).trans xX_0
  clear bA_0 bS_0 hn1
  clear xX_0
  obtain ⟨bA_1_c0, bA_1_c1, bA_1_c2⟩ := cells3 bA_1
  obtain ⟨bS_1_c0, bS_1_c1, bS_1_c2, bS_1_c3, bS_1_c4, bS_1_c5, bS_1_c6, bS_1_c7⟩ := cells8 bS_1
  have bS_1_c8 := cell_of_heap bS_1 8
  have bS_1_c9 := cell_of_heap bS_1 9
  have bS_1_c10 := cell_of_heap bS_1 10
  set_option maxRecDepth 100000 in
  go_region_held3 (fun w' => w'.cell? ⟨w.heap.size, 0, none⟩ = some (.slice (some ⟨bx, ox, none⟩) xa.length d1) ∧ w'.cell? ⟨w.heap.size, 1, none⟩ = some (.slice a2 xb.length d2) ∧ w'.cell? ⟨w.heap.size, 2, none⟩ = some (tc) ∧ w'.cell? ⟨w.heap.size + 1, 0, none⟩ = some (.int .i64 1) ∧ w'.cell? ⟨w.heap.size + 1, 1, none⟩ = some (.int .i64 (n : Int)) ∧ w'.cell? ⟨w.heap.size + 1, 2, none⟩ = some (.int .i64 ik) ∧ w'.cell? ⟨w.heap.size + 1, 3, none⟩ = some (.int .i64 iv) ∧ w'.cell? ⟨w.heap.size + 1, 4, none⟩ = some (.slice a4 li.length c4) ∧ w'.cell? ⟨w.heap.size + 1, 5, none⟩ = some (.int .i64 vk) ∧ w'.cell? ⟨w.heap.size + 1, 6, none⟩ = some (.int .i64 vv) ∧ w'.cell? ⟨w.heap.size + 1, 7, none⟩ = some (.slice a7 lv.length c7) ∧ w'.cell? ⟨w.heap.size + 1, 8, none⟩ = some (.int .i64 c) ∧ w'.cell? ⟨w.heap.size + 1, 9, none⟩ = some (.slice a9 lb.length c9) ∧ w'.cell? ⟨w.heap.size + 1, 10, none⟩ = some (.slice a10 le.length c10) ∧ w'.cell? ⟨bx, ox + n, none⟩ = some (.int .i64 y)) (first | (refine ⟨?_, ?_, ?_, ?_, ?_, ?_, ?_, ?_, ?_, ?_, ?_, ?_, ?_, ?_, ?_⟩ <;> assumption) | go_keep)
    (first
      | (go_at_call 119; refine (newSame (Lab.flows _ _ _)).mono ?_; rintro e w3 ⟨rfl, hn3⟩; have xX_3 := (hn3.cell (cell_lt xX_2) (fun f => f) _).trans xX_2; have z3 : w2.heap.size ≤ w3.heap.size := hn3.size; have N3 : New w w3 := N2.trans hn3; have bA_3 := heap_new hn3 bA_2; have bS_3 := heap_new hn3 bS_2; clear bA_2_c0 bA_2_c1 bA_2_c2 bS_2_c0 bS_2_c1 bS_2_c2 bS_2_c3 bS_2_c4 bS_2_c5 bS_2_c6 bS_2_c7 bS_2_c8 bS_2_c9 bS_2_c10; clear bA_2 bS_2 hn3; clear xX_2; have bA_3_c0 := cell_of_heap bA_3 0; have bA_3_c1 := cell_of_heap bA_3 1; have bA_3_c2 := cell_of_heap bA_3 2; have bS_3_c0 := cell_of_heap bS_3 0; have bS_3_c1 := cell_of_heap bS_3 1; have bS_3_c2 := cell_of_heap bS_3 2; have bS_3_c3 := cell_of_heap bS_3 3; have bS_3_c4 := cell_of_heap bS_3 4; have bS_3_c5 := cell_of_heap bS_3 5; have bS_3_c6 := cell_of_heap bS_3 6; have bS_3_c7 := cell_of_heap bS_3 7; have bS_3_c8 := cell_of_heap bS_3 8; have bS_3_c9 := cell_of_heap bS_3 9; have bS_3_c10 := cell_of_heap bS_3 10)
      | (go_at_call 120; refine (stored (k := 1) (t := (n : Int)) (c := c) (x := x) (hsa.out.new h1 N1) (hsb.out.new h1 N1) (hri.out.new h1 N1) (hrv.out.new h1 N1) (hrb.out.new h1 N1) (hre.out.new h1 N1) (by omega) hr (fun h => absurd h (by decide))).mono ?_; rintro e w2 ⟨rfl, hn2⟩; have xX_2 := (hn2.cell (cell_lt xX_1) (fun f => f) _).trans xX_1; have z2 : w0.drew.heap.size ≤ w2.heap.size := hn2.size; have N2 : New w w2 := N1.trans hn2; have bA_2 := heap_new hn2 bA_1; have bS_2 := heap_new hn2 bS_1; clear bA_1_c0 bA_1_c1 bA_1_c2 bS_1_c0 bS_1_c1 bS_1_c2 bS_1_c3 bS_1_c4 bS_1_c5 bS_1_c6 bS_1_c7 bS_1_c8 bS_1_c9 bS_1_c10; clear bA_1 bS_1 hn2; clear xX_1; have bA_2_c0 := cell_of_heap bA_2 0; have bA_2_c1 := cell_of_heap bA_2 1; have bA_2_c2 := cell_of_heap bA_2 2; have bS_2_c0 := cell_of_heap bS_2 0; have bS_2_c1 := cell_of_heap bS_2 1; have bS_2_c2 := cell_of_heap bS_2 2; have bS_2_c3 := cell_of_heap bS_2 3; have bS_2_c4 := cell_of_heap bS_2 4; have bS_2_c5 := cell_of_heap bS_2 5; have bS_2_c6 := cell_of_heap bS_2 6; have bS_2_c7 := cell_of_heap bS_2 7; have bS_2_c8 := cell_of_heap bS_2 8; have bS_2_c9 := cell_of_heap bS_2 9; have bS_2_c10 := cell_of_heap bS_2 10))
  cases hf : Lab.flowsB (storedI xa xb (.node 1 (n : Int) (.node ik iv li) (.node vk vv lv) c lb le) x) y
  · have D1 := Lib.hid (D.out.trans (by rw [hf]; rfl : _ = (1 : Int)))
    clear hf D
    clear bA_3_c0 bA_3_c1 bA_3_c2 bS_3_c0 bS_3_c1 bS_3_c2 bS_3_c3 bS_3_c4 bS_3_c5 bS_3_c6 bS_3_c7 bS_3_c8 bS_3_c9 bS_3_c10
    obtain ⟨bA_3_c0, bA_3_c1, bA_3_c2⟩ := cells3 bA_3
    obtain ⟨bS_3_c0, bS_3_c1, bS_3_c2, bS_3_c3, bS_3_c4, bS_3_c5, bS_3_c6, bS_3_c7⟩ := cells8 bS_3
    have bS_3_c8 := cell_of_heap bS_3 8
    have bS_3_c9 := cell_of_heap bS_3 9
    have bS_3_c10 := cell_of_heap bS_3 10
    go_wp2
    go_ret
    exact ⟨retI D1.out.symm, N3⟩
  · have D1 := Lib.hid (D.out.trans (by rw [hf]; rfl : _ = (0 : Int)))
    clear hf D
    clear bA_3_c0 bA_3_c1 bA_3_c2 bS_3_c0 bS_3_c1 bS_3_c2 bS_3_c3 bS_3_c4 bS_3_c5 bS_3_c6 bS_3_c7 bS_3_c8 bS_3_c9 bS_3_c10
    obtain ⟨bA_3_c0, bA_3_c1, bA_3_c2⟩ := cells3 bA_3
    obtain ⟨bS_3_c0, bS_3_c1, bS_3_c2, bS_3_c3, bS_3_c4, bS_3_c5, bS_3_c6, bS_3_c7⟩ := cells8 bS_3
    have bS_3_c8 := cell_of_heap bS_3 8
    have bS_3_c9 := cell_of_heap bS_3 9
    have bS_3_c10 := cell_of_heap bS_3 10
    go_wp2_with fail
    go_quiet (fail)
    have hn4 : New w3 (w3.drewN nq) := drewN_kp _ nq (Kp.refl _ _)
    generalize w3.drewN nq = w4 at *
    have xX_4 := (hn4.cell (cell_lt xX_3) (fun f => f) _).trans xX_3
    have z4 := hn4.size
    have N4 : New w w4 := N3.trans hn4
    have bA_4 := heap_new hn4 bA_3
    have bS_4 := heap_new hn4 bS_3
    clear bA_3_c0 bA_3_c1 bA_3_c2 bS_3_c0 bS_3_c1 bS_3_c2 bS_3_c3 bS_3_c4 bS_3_c5 bS_3_c6 bS_3_c7 bS_3_c8 bS_3_c9 bS_3_c10
    clear bA_3 bS_3 hn4
    clear xX_3
    obtain ⟨bA_4_c0, bA_4_c1, bA_4_c2⟩ := cells3 bA_4
    obtain ⟨bS_4_c0, bS_4_c1, bS_4_c2, bS_4_c3, bS_4_c4, bS_4_c5, bS_4_c6, bS_4_c7⟩ := cells8 bS_4
    have bS_4_c8 := cell_of_heap bS_4 8
    have bS_4_c9 := cell_of_heap bS_4 9
    have bS_4_c10 := cell_of_heap bS_4 10
    go_wp2
    go_ret
    exact ⟨retI D1.out.symm, N4⟩
set_option maxHeartbeats 8000000 in
theorem flow2 {w : World} {lo hi : Nat} {ta tb tc : Value} {xa xb : List Int} {d : Nat} {t ik iv vk vv c x : Int} {si sv sd se : Value} {li lv : List Ex} {lb le : List St} (sa : IntsR w lo hi ta xa) (sb : IntsR w lo hi tb xb) (ri : KidsR w lo hi si li) (rv : KidsR w lo hi sv lv) (rb : StsR w lo hi sd lb) (re : StsR w lo hi se le) (h1 : hi ≤ w.heap.size) (hv : stB xa.length xb.length (.node 2 t (.node ik iv li) (.node vk vv lv) c lb le) d = true)  :
    Calls Try.prog 87 #[.agg #[ta, tb, tc], .agg #[.int .i64 2, .int .i64 t, .int .i64 ik, .int .i64 iv, si, .int .i64 vk, .int .i64 vv, sv, .int .i64 c, sd, se], .int .i64 x] w fun e w' => e = .returned (.int .i64 (ownI xa xb (.node 2 t (.node ik iv li) (.node vk vv lv) c lb le) x)) ∧ New w w' := by
  have hval := stB_val hv
  obtain ⟨hq1, hq2, hq3, hq4, hq5, hq6⟩ := hval
  clear hv
  obtain ⟨a1, d1, rfl, m1⟩ := sa.len
  obtain ⟨a2, d2, rfl, m2⟩ := sb.len
  obtain ⟨a4, c4, rfl, m4⟩ := ri.len
  obtain ⟨a7, c7, rfl, m7⟩ := rv.len
  obtain ⟨a9, c9, rfl, m9⟩ := rb.len
  obtain ⟨a10, c10, rfl, m10⟩ := re.len
  have hsa := Lib.hid sa
  have hsb := Lib.hid sb
  have hri := Lib.hid ri
  have hrv := Lib.hid rv
  have hrb := Lib.hid rb
  have hre := Lib.hid re
  clear sa sb ri rv rb re
  obtain ⟨ht0, ht1⟩ : 0 ≤ t ∧ t < (xb.length : Int) := hq4 rfl
  obtain ⟨n, rfl⟩ := Int.eq_ofNat_of_zero_le ht0
  have hn : n < xb.length := by omega
  obtain ⟨bx, ox, ex, hb1, hb2, xX_0⟩ := IntsR.at hsb.out n hn
  cases ex
  have hr : right xa.length xb.length (.node vk vv lv) = true := hq1 (show (2 : Int) ≠ 4 by decide)
  have hi2 : right xa.length xb.length (.node ik iv li) = true := (hq2 rfl).1
  have D := Lib.hid (show ownI xa xb (.node 2 (n : Int) (.node ik iv li) (.node vk vv lv) c lb le) x = if Lab.flowsB (storedI xa xb (.node 2 (n : Int) (.node ik iv li) (.node vk vv lv) c lb le) x) xb[n] then 0 else 1 by rw [ownI_node]; simp [hn])
  have hnw : bx < w.heap.size := by omega
  have hX := xX_0
  clear xX_0 ht0 ht1 hq1 hq2 hq3 hq4 hq5 hq6
  generalize xb[n] = y at *
  go_enter Try.func87, Try.ntmps87
  go_wp2_with fail
  have N0 : New w ((w.alloc (.cells #[.slice a1 xa.length d1, .slice (some ⟨bx, ox, none⟩) xb.length d2, tc] 33)).alloc (.cells #[.int .i64 2, .int .i64 (n : Int), .int .i64 ik, .int .i64 iv, .slice a4 li.length c4, .int .i64 vk, .int .i64 vv, .slice a7 lv.length c7, .int .i64 c, .slice a9 lb.length c9, .slice a10 le.length c10] 73)) := (((Kp.refl _ _).alloc _).alloc _)
  have bA_0 : ((w.alloc (.cells #[.slice a1 xa.length d1, .slice (some ⟨bx, ox, none⟩) xb.length d2, tc] 33)).alloc (.cells #[.int .i64 2, .int .i64 (n : Int), .int .i64 ik, .int .i64 iv, .slice a4 li.length c4, .int .i64 vk, .int .i64 vv, .slice a7 lv.length c7, .int .i64 c, .slice a9 lb.length c9, .slice a10 le.length c10] 73)).heap[w.heap.size]? = some (.cells #[.slice a1 xa.length d1, .slice (some ⟨bx, ox, none⟩) xb.length d2, tc] 33) := heap_old (alloc_heap _ _)
  have bS_0 : ((w.alloc (.cells #[.slice a1 xa.length d1, .slice (some ⟨bx, ox, none⟩) xb.length d2, tc] 33)).alloc (.cells #[.int .i64 2, .int .i64 (n : Int), .int .i64 ik, .int .i64 iv, .slice a4 li.length c4, .int .i64 vk, .int .i64 vv, .slice a7 lv.length c7, .int .i64 c, .slice a9 lb.length c9, .slice a10 le.length c10] 73)).heap[w.heap.size + 1]? = some (.cells #[.int .i64 2, .int .i64 (n : Int), .int .i64 ik, .int .i64 iv, .slice a4 li.length c4, .int .i64 vk, .int .i64 vv, .slice a7 lv.length c7, .int .i64 c, .slice a9 lb.length c9, .slice a10 le.length c10] 73) := heap_at (by simp)
  have z0 : w.heap.size + 1 < ((w.alloc (.cells #[.slice a1 xa.length d1, .slice (some ⟨bx, ox, none⟩) xb.length d2, tc] 33)).alloc (.cells #[.int .i64 2, .int .i64 (n : Int), .int .i64 ik, .int .i64 iv, .slice a4 li.length c4, .int .i64 vk, .int .i64 vv, .slice a7 lv.length c7, .int .i64 c, .slice a9 lb.length c9, .slice a10 le.length c10] 73)).heap.size := by simp
  generalize ((w.alloc (.cells #[.slice a1 xa.length d1, .slice (some ⟨bx, ox, none⟩) xb.length d2, tc] 33)).alloc (.cells #[.int .i64 2, .int .i64 (n : Int), .int .i64 ik, .int .i64 iv, .slice a4 li.length c4, .int .i64 vk, .int .i64 vv, .slice a7 lv.length c7, .int .i64 c, .slice a9 lb.length c9, .slice a10 le.length c10] 73)) = w0 at *
  have xX_0 := (N0.cell hnw (fun f => f) _).trans hX
  clear hX
  obtain ⟨bA_0_c0, bA_0_c1, bA_0_c2⟩ := cells3 bA_0
  obtain ⟨bS_0_c0, bS_0_c1, bS_0_c2, bS_0_c3, bS_0_c4, bS_0_c5, bS_0_c6, bS_0_c7⟩ := cells8 bS_0
  have bS_0_c8 := cell_of_heap bS_0 8
  have bS_0_c9 := cell_of_heap bS_0 9
  have bS_0_c10 := cell_of_heap bS_0 10
  go_wp2_with fail
  go_quiet (fail)
  have hn1 : New w0 (w0.drewN nq) := drewN_kp _ nq (Kp.refl _ _)
  generalize w0.drewN nq = w1 at *
  have xX_1 := (hn1.cell (cell_lt xX_0) (fun f => f) _).trans xX_0
  have z1 := hn1.size
  have N1 : New w w1 := N0.trans hn1
  have bA_1 := heap_new hn1 bA_0
  have bS_1 := heap_new hn1 bS_0
  clear bA_0_c0 bA_0_c1 bA_0_c2 bS_0_c0 bS_0_c1 bS_0_c2 bS_0_c3 bS_0_c4 bS_0_c5 bS_0_c6 bS_0_c7 bS_0_c8 bS_0_c9 bS_0_c10
  clear bA_0 bS_0 hn1
  clear xX_0
  obtain ⟨bA_1_c0, bA_1_c1, bA_1_c2⟩ := cells3 bA_1
  obtain ⟨bS_1_c0, bS_1_c1, bS_1_c2, bS_1_c3, bS_1_c4, bS_1_c5, bS_1_c6, bS_1_c7⟩ := cells8 bS_1
  have bS_1_c8 := cell_of_heap bS_1 8
  have bS_1_c9 := cell_of_heap bS_1 9
  have bS_1_c10 := cell_of_heap bS_1 10
  go_wp2_with fail
  have hn2 : New w1 w1.drew := (Kp.refl _ _).drew
  have z2 := hn2.size
  have N2 : New w w1.drew := N1.trans hn2
  have bA_2 := heap_new hn2 bA_1
  have bS_2 := heap_new hn2 bS_1
  clear bA_1_c0 bA_1_c1 bA_1_c2 bS_1_c0 bS_1_c1 bS_1_c2 bS_1_c3 bS_1_c4 bS_1_c5 bS_1_c6 bS_1_c7 bS_1_c8 bS_1_c9 bS_1_c10
  have xX_2 := (hn2.cell (cell_lt xX_1) (fun f => f) _).trans xX_1
  clear bA_1 bS_1 hn2
  clear xX_1
  obtain ⟨bA_2_c0, bA_2_c1, bA_2_c2⟩ := cells3 bA_2
  obtain ⟨bS_2_c0, bS_2_c1, bS_2_c2, bS_2_c3, bS_2_c4, bS_2_c5, bS_2_c6, bS_2_c7⟩ := cells8 bS_2
  have bS_2_c8 := cell_of_heap bS_2 8
  have bS_2_c9 := cell_of_heap bS_2 9
  have bS_2_c10 := cell_of_heap bS_2 10
  set_option maxRecDepth 100000 in
  go_region_held3 (fun w' => w'.cell? ⟨w.heap.size, 0, none⟩ = some (.slice a1 xa.length d1) ∧ w'.cell? ⟨w.heap.size, 1, none⟩ = some (.slice (some ⟨bx, ox, none⟩) xb.length d2) ∧ w'.cell? ⟨w.heap.size, 2, none⟩ = some (tc) ∧ w'.cell? ⟨w.heap.size + 1, 0, none⟩ = some (.int .i64 2) ∧ w'.cell? ⟨w.heap.size + 1, 1, none⟩ = some (.int .i64 (n : Int)) ∧ w'.cell? ⟨w.heap.size + 1, 2, none⟩ = some (.int .i64 ik) ∧ w'.cell? ⟨w.heap.size + 1, 3, none⟩ = some (.int .i64 iv) ∧ w'.cell? ⟨w.heap.size + 1, 4, none⟩ = some (.slice a4 li.length c4) ∧ w'.cell? ⟨w.heap.size + 1, 5, none⟩ = some (.int .i64 vk) ∧ w'.cell? ⟨w.heap.size + 1, 6, none⟩ = some (.int .i64 vv) ∧ w'.cell? ⟨w.heap.size + 1, 7, none⟩ = some (.slice a7 lv.length c7) ∧ w'.cell? ⟨w.heap.size + 1, 8, none⟩ = some (.int .i64 c) ∧ w'.cell? ⟨w.heap.size + 1, 9, none⟩ = some (.slice a9 lb.length c9) ∧ w'.cell? ⟨w.heap.size + 1, 10, none⟩ = some (.slice a10 le.length c10) ∧ w'.cell? ⟨bx, ox + n, none⟩ = some (.int .i64 y)) (first | (refine ⟨?_, ?_, ?_, ?_, ?_, ?_, ?_, ?_, ?_, ?_, ?_, ?_, ?_, ?_, ?_⟩ <;> assumption) | go_keep)
    (first
      | (go_at_call 119; refine (newSame (Lab.flows _ _ _)).mono ?_; rintro e w4 ⟨rfl, hn4⟩; have xX_4 := (hn4.cell (cell_lt xX_3) (fun f => f) _).trans xX_3; have z4 : w3.heap.size ≤ w4.heap.size := hn4.size; have N4 : New w w4 := N3.trans hn4; have bA_4 := heap_new hn4 bA_3; have bS_4 := heap_new hn4 bS_3; clear bA_3_c0 bA_3_c1 bA_3_c2 bS_3_c0 bS_3_c1 bS_3_c2 bS_3_c3 bS_3_c4 bS_3_c5 bS_3_c6 bS_3_c7 bS_3_c8 bS_3_c9 bS_3_c10; clear bA_3 bS_3 hn4; clear xX_3; have bA_4_c0 := cell_of_heap bA_4 0; have bA_4_c1 := cell_of_heap bA_4 1; have bA_4_c2 := cell_of_heap bA_4 2; have bS_4_c0 := cell_of_heap bS_4 0; have bS_4_c1 := cell_of_heap bS_4 1; have bS_4_c2 := cell_of_heap bS_4 2; have bS_4_c3 := cell_of_heap bS_4 3; have bS_4_c4 := cell_of_heap bS_4 4; have bS_4_c5 := cell_of_heap bS_4 5; have bS_4_c6 := cell_of_heap bS_4 6; have bS_4_c7 := cell_of_heap bS_4 7; have bS_4_c8 := cell_of_heap bS_4 8; have bS_4_c9 := cell_of_heap bS_4 9; have bS_4_c10 := cell_of_heap bS_4 10)
      | (go_at_call 120; refine (stored (k := 2) (t := (n : Int)) (c := c) (x := x) (hsa.out.new h1 N2) (hsb.out.new h1 N2) (hri.out.new h1 N2) (hrv.out.new h1 N2) (hrb.out.new h1 N2) (hre.out.new h1 N2) (by omega) hr (fun _ => hi2)).mono ?_; rintro e w3 ⟨rfl, hn3⟩; have xX_3 := (hn3.cell (cell_lt xX_2) (fun f => f) _).trans xX_2; have z3 : w1.drew.heap.size ≤ w3.heap.size := hn3.size; have N3 : New w w3 := N2.trans hn3; have bA_3 := heap_new hn3 bA_2; have bS_3 := heap_new hn3 bS_2; clear bA_2_c0 bA_2_c1 bA_2_c2 bS_2_c0 bS_2_c1 bS_2_c2 bS_2_c3 bS_2_c4 bS_2_c5 bS_2_c6 bS_2_c7 bS_2_c8 bS_2_c9 bS_2_c10; clear bA_2 bS_2 hn3; clear xX_2; have bA_3_c0 := cell_of_heap bA_3 0; have bA_3_c1 := cell_of_heap bA_3 1; have bA_3_c2 := cell_of_heap bA_3 2; have bS_3_c0 := cell_of_heap bS_3 0; have bS_3_c1 := cell_of_heap bS_3 1; have bS_3_c2 := cell_of_heap bS_3 2; have bS_3_c3 := cell_of_heap bS_3 3; have bS_3_c4 := cell_of_heap bS_3 4; have bS_3_c5 := cell_of_heap bS_3 5; have bS_3_c6 := cell_of_heap bS_3 6; have bS_3_c7 := cell_of_heap bS_3 7; have bS_3_c8 := cell_of_heap bS_3 8; have bS_3_c9 := cell_of_heap bS_3 9; have bS_3_c10 := cell_of_heap bS_3 10))
  cases hf : Lab.flowsB (storedI xa xb (.node 2 (n : Int) (.node ik iv li) (.node vk vv lv) c lb le) x) y
  · have D1 := Lib.hid (D.out.trans (by rw [hf]; rfl : _ = (1 : Int)))
    clear hf D
    clear bA_4_c0 bA_4_c1 bA_4_c2 bS_4_c0 bS_4_c1 bS_4_c2 bS_4_c3 bS_4_c4 bS_4_c5 bS_4_c6 bS_4_c7 bS_4_c8 bS_4_c9 bS_4_c10
    obtain ⟨bA_4_c0, bA_4_c1, bA_4_c2⟩ := cells3 bA_4
    obtain ⟨bS_4_c0, bS_4_c1, bS_4_c2, bS_4_c3, bS_4_c4, bS_4_c5, bS_4_c6, bS_4_c7⟩ := cells8 bS_4
    have bS_4_c8 := cell_of_heap bS_4 8
    have bS_4_c9 := cell_of_heap bS_4 9
    have bS_4_c10 := cell_of_heap bS_4 10
    go_wp2
    go_ret
    exact ⟨retI D1.out.symm, N4⟩
  · have D1 := Lib.hid (D.out.trans (by rw [hf]; rfl : _ = (0 : Int)))
    clear hf D
    clear bA_4_c0 bA_4_c1 bA_4_c2 bS_4_c0 bS_4_c1 bS_4_c2 bS_4_c3 bS_4_c4 bS_4_c5 bS_4_c6 bS_4_c7 bS_4_c8 bS_4_c9 bS_4_c10
    obtain ⟨bA_4_c0, bA_4_c1, bA_4_c2⟩ := cells3 bA_4
    obtain ⟨bS_4_c0, bS_4_c1, bS_4_c2, bS_4_c3, bS_4_c4, bS_4_c5, bS_4_c6, bS_4_c7⟩ := cells8 bS_4
    have bS_4_c8 := cell_of_heap bS_4 8
    have bS_4_c9 := cell_of_heap bS_4 9
    have bS_4_c10 := cell_of_heap bS_4 10
    go_wp2_with fail
    go_wp2
    go_ret
    exact ⟨retI D1.out.symm, N4⟩
set_option maxHeartbeats 8000000 in
theorem flow3 {w : World} {lo hi : Nat} {ta tb tc : Value} {xa xb : List Int} {d : Nat} {t ik iv vk vv c x : Int} {si sv sd se : Value} {li lv : List Ex} {lb le : List St} (sa : IntsR w lo hi ta xa) (sb : IntsR w lo hi tb xb) (ri : KidsR w lo hi si li) (rv : KidsR w lo hi sv lv) (rb : StsR w lo hi sd lb) (re : StsR w lo hi se le) (h1 : hi ≤ w.heap.size) (hv : stB xa.length xb.length (.node 3 t (.node ik iv li) (.node vk vv lv) c lb le) d = true)  :
    Calls Try.prog 87 #[.agg #[ta, tb, tc], .agg #[.int .i64 3, .int .i64 t, .int .i64 ik, .int .i64 iv, si, .int .i64 vk, .int .i64 vv, sv, .int .i64 c, sd, se], .int .i64 x] w fun e w' => e = .returned (.int .i64 (ownI xa xb (.node 3 t (.node ik iv li) (.node vk vv lv) c lb le) x)) ∧ New w w' := by
  have hval := stB_val hv
  obtain ⟨hq1, hq2, hq3, hq4, hq5, hq6⟩ := hval
  clear hv
  obtain ⟨a1, d1, rfl, m1⟩ := sa.len
  obtain ⟨a2, d2, rfl, m2⟩ := sb.len
  obtain ⟨a4, c4, rfl, m4⟩ := ri.len
  obtain ⟨a7, c7, rfl, m7⟩ := rv.len
  obtain ⟨a9, c9, rfl, m9⟩ := rb.len
  obtain ⟨a10, c10, rfl, m10⟩ := re.len
  have hsa := Lib.hid sa
  have hsb := Lib.hid sb
  have hri := Lib.hid ri
  have hrv := Lib.hid rv
  have hrb := Lib.hid rb
  have hre := Lib.hid re
  clear sa sb ri rv rb re
  have D := Lib.hid (show ownI xa xb (.node 3 t (.node ik iv li) (.node vk vv lv) c lb le) x = 0 by rw [ownI_node]; rfl)
  clear hq1 hq2 hq3 hq4 hq5 hq6
  go_enter Try.func87, Try.ntmps87
  go_wp2_with fail
  have N0 : New w ((w.alloc (.cells #[.slice a1 xa.length d1, .slice a2 xb.length d2, tc] 33)).alloc (.cells #[.int .i64 3, .int .i64 t, .int .i64 ik, .int .i64 iv, .slice a4 li.length c4, .int .i64 vk, .int .i64 vv, .slice a7 lv.length c7, .int .i64 c, .slice a9 lb.length c9, .slice a10 le.length c10] 73)) := (((Kp.refl _ _).alloc _).alloc _)
  have bA_0 : ((w.alloc (.cells #[.slice a1 xa.length d1, .slice a2 xb.length d2, tc] 33)).alloc (.cells #[.int .i64 3, .int .i64 t, .int .i64 ik, .int .i64 iv, .slice a4 li.length c4, .int .i64 vk, .int .i64 vv, .slice a7 lv.length c7, .int .i64 c, .slice a9 lb.length c9, .slice a10 le.length c10] 73)).heap[w.heap.size]? = some (.cells #[.slice a1 xa.length d1, .slice a2 xb.length d2, tc] 33) := heap_old (alloc_heap _ _)
  have bS_0 : ((w.alloc (.cells #[.slice a1 xa.length d1, .slice a2 xb.length d2, tc] 33)).alloc (.cells #[.int .i64 3, .int .i64 t, .int .i64 ik, .int .i64 iv, .slice a4 li.length c4, .int .i64 vk, .int .i64 vv, .slice a7 lv.length c7, .int .i64 c, .slice a9 lb.length c9, .slice a10 le.length c10] 73)).heap[w.heap.size + 1]? = some (.cells #[.int .i64 3, .int .i64 t, .int .i64 ik, .int .i64 iv, .slice a4 li.length c4, .int .i64 vk, .int .i64 vv, .slice a7 lv.length c7, .int .i64 c, .slice a9 lb.length c9, .slice a10 le.length c10] 73) := heap_at (by simp)
  have z0 : w.heap.size + 1 < ((w.alloc (.cells #[.slice a1 xa.length d1, .slice a2 xb.length d2, tc] 33)).alloc (.cells #[.int .i64 3, .int .i64 t, .int .i64 ik, .int .i64 iv, .slice a4 li.length c4, .int .i64 vk, .int .i64 vv, .slice a7 lv.length c7, .int .i64 c, .slice a9 lb.length c9, .slice a10 le.length c10] 73)).heap.size := by simp
  generalize ((w.alloc (.cells #[.slice a1 xa.length d1, .slice a2 xb.length d2, tc] 33)).alloc (.cells #[.int .i64 3, .int .i64 t, .int .i64 ik, .int .i64 iv, .slice a4 li.length c4, .int .i64 vk, .int .i64 vv, .slice a7 lv.length c7, .int .i64 c, .slice a9 lb.length c9, .slice a10 le.length c10] 73)) = w0 at *
  obtain ⟨bA_0_c0, bA_0_c1, bA_0_c2⟩ := cells3 bA_0
  obtain ⟨bS_0_c0, bS_0_c1, bS_0_c2, bS_0_c3, bS_0_c4, bS_0_c5, bS_0_c6, bS_0_c7⟩ := cells8 bS_0
  have bS_0_c8 := cell_of_heap bS_0 8
  have bS_0_c9 := cell_of_heap bS_0 9
  have bS_0_c10 := cell_of_heap bS_0 10
  go_wp2_with fail
  go_quiet (fail)
  have hn1 : New w0 (w0.drewN nq) := drewN_kp _ nq (Kp.refl _ _)
  generalize w0.drewN nq = w1 at *
  have z1 := hn1.size
  have N1 : New w w1 := N0.trans hn1
  have bA_1 := heap_new hn1 bA_0
  have bS_1 := heap_new hn1 bS_0
  clear bA_0_c0 bA_0_c1 bA_0_c2 bS_0_c0 bS_0_c1 bS_0_c2 bS_0_c3 bS_0_c4 bS_0_c5 bS_0_c6 bS_0_c7 bS_0_c8 bS_0_c9 bS_0_c10
  clear bA_0 bS_0 hn1
  obtain ⟨bA_1_c0, bA_1_c1, bA_1_c2⟩ := cells3 bA_1
  obtain ⟨bS_1_c0, bS_1_c1, bS_1_c2, bS_1_c3, bS_1_c4, bS_1_c5, bS_1_c6, bS_1_c7⟩ := cells8 bS_1
  have bS_1_c8 := cell_of_heap bS_1 8
  have bS_1_c9 := cell_of_heap bS_1 9
  have bS_1_c10 := cell_of_heap bS_1 10
  go_wp2_with fail
  go_quiet (fail)
  have hn2 : New w1 (w1.drewN nq) := drewN_kp _ nq (Kp.refl _ _)
  generalize w1.drewN nq = w2 at *
  have z2 := hn2.size
  have N2 : New w w2 := N1.trans hn2
  have bA_2 := heap_new hn2 bA_1
  have bS_2 := heap_new hn2 bS_1
  clear bA_1_c0 bA_1_c1 bA_1_c2 bS_1_c0 bS_1_c1 bS_1_c2 bS_1_c3 bS_1_c4 bS_1_c5 bS_1_c6 bS_1_c7 bS_1_c8 bS_1_c9 bS_1_c10
  clear bA_1 bS_1 hn2
  obtain ⟨bA_2_c0, bA_2_c1, bA_2_c2⟩ := cells3 bA_2
  obtain ⟨bS_2_c0, bS_2_c1, bS_2_c2, bS_2_c3, bS_2_c4, bS_2_c5, bS_2_c6, bS_2_c7⟩ := cells8 bS_2
  have bS_2_c8 := cell_of_heap bS_2 8
  have bS_2_c9 := cell_of_heap bS_2 9
  have bS_2_c10 := cell_of_heap bS_2 10
  go_wp2
  go_ret
  exact ⟨retI D.out.symm, N2⟩
set_option maxHeartbeats 8000000 in
theorem flow4 {w : World} {lo hi : Nat} {ta tb tc : Value} {xa xb : List Int} {d : Nat} {t ik iv vk vv c x : Int} {si sv sd se : Value} {li lv : List Ex} {lb le : List St} (sa : IntsR w lo hi ta xa) (sb : IntsR w lo hi tb xb) (ri : KidsR w lo hi si li) (rv : KidsR w lo hi sv lv) (rb : StsR w lo hi sd lb) (re : StsR w lo hi se le) (h1 : hi ≤ w.heap.size) (hv : stB xa.length xb.length (.node 4 t (.node ik iv li) (.node vk vv lv) c lb le) d = true)  :
    Calls Try.prog 87 #[.agg #[ta, tb, tc], .agg #[.int .i64 4, .int .i64 t, .int .i64 ik, .int .i64 iv, si, .int .i64 vk, .int .i64 vv, sv, .int .i64 c, sd, se], .int .i64 x] w fun e w' => e = .returned (.int .i64 (ownI xa xb (.node 4 t (.node ik iv li) (.node vk vv lv) c lb le) x)) ∧ New w w' := by
  have hval := stB_val hv
  obtain ⟨hq1, hq2, hq3, hq4, hq5, hq6⟩ := hval
  clear hv
  obtain ⟨a1, d1, rfl, m1⟩ := sa.len
  obtain ⟨a2, d2, rfl, m2⟩ := sb.len
  obtain ⟨a4, c4, rfl, m4⟩ := ri.len
  obtain ⟨a7, c7, rfl, m7⟩ := rv.len
  obtain ⟨a9, c9, rfl, m9⟩ := rb.len
  obtain ⟨a10, c10, rfl, m10⟩ := re.len
  have hsa := Lib.hid sa
  have hsb := Lib.hid sb
  have hri := Lib.hid ri
  have hrv := Lib.hid rv
  have hrb := Lib.hid rb
  have hre := Lib.hid re
  clear sa sb ri rv rb re
  have D := Lib.hid (show ownI xa xb (.node 4 t (.node ik iv li) (.node vk vv lv) c lb le) x = 0 by rw [ownI_node]; rfl)
  clear hq1 hq2 hq3 hq4 hq5 hq6
  go_enter Try.func87, Try.ntmps87
  go_wp2_with fail
  have N0 : New w ((w.alloc (.cells #[.slice a1 xa.length d1, .slice a2 xb.length d2, tc] 33)).alloc (.cells #[.int .i64 4, .int .i64 t, .int .i64 ik, .int .i64 iv, .slice a4 li.length c4, .int .i64 vk, .int .i64 vv, .slice a7 lv.length c7, .int .i64 c, .slice a9 lb.length c9, .slice a10 le.length c10] 73)) := (((Kp.refl _ _).alloc _).alloc _)
  have bA_0 : ((w.alloc (.cells #[.slice a1 xa.length d1, .slice a2 xb.length d2, tc] 33)).alloc (.cells #[.int .i64 4, .int .i64 t, .int .i64 ik, .int .i64 iv, .slice a4 li.length c4, .int .i64 vk, .int .i64 vv, .slice a7 lv.length c7, .int .i64 c, .slice a9 lb.length c9, .slice a10 le.length c10] 73)).heap[w.heap.size]? = some (.cells #[.slice a1 xa.length d1, .slice a2 xb.length d2, tc] 33) := heap_old (alloc_heap _ _)
  have bS_0 : ((w.alloc (.cells #[.slice a1 xa.length d1, .slice a2 xb.length d2, tc] 33)).alloc (.cells #[.int .i64 4, .int .i64 t, .int .i64 ik, .int .i64 iv, .slice a4 li.length c4, .int .i64 vk, .int .i64 vv, .slice a7 lv.length c7, .int .i64 c, .slice a9 lb.length c9, .slice a10 le.length c10] 73)).heap[w.heap.size + 1]? = some (.cells #[.int .i64 4, .int .i64 t, .int .i64 ik, .int .i64 iv, .slice a4 li.length c4, .int .i64 vk, .int .i64 vv, .slice a7 lv.length c7, .int .i64 c, .slice a9 lb.length c9, .slice a10 le.length c10] 73) := heap_at (by simp)
  have z0 : w.heap.size + 1 < ((w.alloc (.cells #[.slice a1 xa.length d1, .slice a2 xb.length d2, tc] 33)).alloc (.cells #[.int .i64 4, .int .i64 t, .int .i64 ik, .int .i64 iv, .slice a4 li.length c4, .int .i64 vk, .int .i64 vv, .slice a7 lv.length c7, .int .i64 c, .slice a9 lb.length c9, .slice a10 le.length c10] 73)).heap.size := by simp
  generalize ((w.alloc (.cells #[.slice a1 xa.length d1, .slice a2 xb.length d2, tc] 33)).alloc (.cells #[.int .i64 4, .int .i64 t, .int .i64 ik, .int .i64 iv, .slice a4 li.length c4, .int .i64 vk, .int .i64 vv, .slice a7 lv.length c7, .int .i64 c, .slice a9 lb.length c9, .slice a10 le.length c10] 73)) = w0 at *
  obtain ⟨bA_0_c0, bA_0_c1, bA_0_c2⟩ := cells3 bA_0
  obtain ⟨bS_0_c0, bS_0_c1, bS_0_c2, bS_0_c3, bS_0_c4, bS_0_c5, bS_0_c6, bS_0_c7⟩ := cells8 bS_0
  have bS_0_c8 := cell_of_heap bS_0 8
  have bS_0_c9 := cell_of_heap bS_0 9
  have bS_0_c10 := cell_of_heap bS_0 10
  go_wp2_with fail
  go_quiet (fail)
  have hn1 : New w0 (w0.drewN nq) := drewN_kp _ nq (Kp.refl _ _)
  generalize w0.drewN nq = w1 at *
  have z1 := hn1.size
  have N1 : New w w1 := N0.trans hn1
  have bA_1 := heap_new hn1 bA_0
  have bS_1 := heap_new hn1 bS_0
  clear bA_0_c0 bA_0_c1 bA_0_c2 bS_0_c0 bS_0_c1 bS_0_c2 bS_0_c3 bS_0_c4 bS_0_c5 bS_0_c6 bS_0_c7 bS_0_c8 bS_0_c9 bS_0_c10
  clear bA_0 bS_0 hn1
  obtain ⟨bA_1_c0, bA_1_c1, bA_1_c2⟩ := cells3 bA_1
  obtain ⟨bS_1_c0, bS_1_c1, bS_1_c2, bS_1_c3, bS_1_c4, bS_1_c5, bS_1_c6, bS_1_c7⟩ := cells8 bS_1
  have bS_1_c8 := cell_of_heap bS_1 8
  have bS_1_c9 := cell_of_heap bS_1 9
  have bS_1_c10 := cell_of_heap bS_1 10
  go_wp2_with fail
  go_quiet (fail)
  have hn2 : New w1 (w1.drewN nq) := drewN_kp _ nq (Kp.refl _ _)
  generalize w1.drewN nq = w2 at *
  have z2 := hn2.size
  have N2 : New w w2 := N1.trans hn2
  have bA_2 := heap_new hn2 bA_1
  have bS_2 := heap_new hn2 bS_1
  clear bA_1_c0 bA_1_c1 bA_1_c2 bS_1_c0 bS_1_c1 bS_1_c2 bS_1_c3 bS_1_c4 bS_1_c5 bS_1_c6 bS_1_c7 bS_1_c8 bS_1_c9 bS_1_c10
  clear bA_1 bS_1 hn2
  obtain ⟨bA_2_c0, bA_2_c1, bA_2_c2⟩ := cells3 bA_2
  obtain ⟨bS_2_c0, bS_2_c1, bS_2_c2, bS_2_c3, bS_2_c4, bS_2_c5, bS_2_c6, bS_2_c7⟩ := cells8 bS_2
  have bS_2_c8 := cell_of_heap bS_2 8
  have bS_2_c9 := cell_of_heap bS_2 9
  have bS_2_c10 := cell_of_heap bS_2 10
  go_wp2
  go_ret
  exact ⟨retI D.out.symm, N2⟩
set_option maxHeartbeats 8000000 in
theorem flow5 {w : World} {lo hi : Nat} {ta tb tc : Value} {xa xb : List Int} {d : Nat} {t ik iv vk vv c x : Int} {si sv sd se : Value} {li lv : List Ex} {lb le : List St} (sa : IntsR w lo hi ta xa) (sb : IntsR w lo hi tb xb) (ri : KidsR w lo hi si li) (rv : KidsR w lo hi sv lv) (rb : StsR w lo hi sd lb) (re : StsR w lo hi se le) (h1 : hi ≤ w.heap.size) (hv : stB xa.length xb.length (.node 5 t (.node ik iv li) (.node vk vv lv) c lb le) d = true)  :
    Calls Try.prog 87 #[.agg #[ta, tb, tc], .agg #[.int .i64 5, .int .i64 t, .int .i64 ik, .int .i64 iv, si, .int .i64 vk, .int .i64 vv, sv, .int .i64 c, sd, se], .int .i64 x] w fun e w' => e = .returned (.int .i64 (ownI xa xb (.node 5 t (.node ik iv li) (.node vk vv lv) c lb le) x)) ∧ New w w' := by
  have hval := stB_val hv
  obtain ⟨hq1, hq2, hq3, hq4, hq5, hq6⟩ := hval
  clear hv
  obtain ⟨a1, d1, rfl, m1⟩ := sa.len
  obtain ⟨a2, d2, rfl, m2⟩ := sb.len
  obtain ⟨a4, c4, rfl, m4⟩ := ri.len
  obtain ⟨a7, c7, rfl, m7⟩ := rv.len
  obtain ⟨a9, c9, rfl, m9⟩ := rb.len
  obtain ⟨a10, c10, rfl, m10⟩ := re.len
  have hsa := Lib.hid sa
  have hsb := Lib.hid sb
  have hri := Lib.hid ri
  have hrv := Lib.hid rv
  have hrb := Lib.hid rb
  have hre := Lib.hid re
  clear sa sb ri rv rb re
  have hr : right xa.length xb.length (.node vk vv lv) = true := hq1 (show (5 : Int) ≠ 4 by decide)
  have D := Lib.hid (show ownI xa xb (.node 5 t (.node ik iv li) (.node vk vv lv) c lb le) x = if Lab.trustedB (lab xa xb (.node vk vv lv)) && x == 0 then 0 else 2 by rw [ownI_node]; rfl)
  clear hq1 hq2 hq3 hq4 hq5 hq6
  go_enter Try.func87, Try.ntmps87
  go_wp2_with fail
  have N0 : New w ((w.alloc (.cells #[.slice a1 xa.length d1, .slice a2 xb.length d2, tc] 33)).alloc (.cells #[.int .i64 5, .int .i64 t, .int .i64 ik, .int .i64 iv, .slice a4 li.length c4, .int .i64 vk, .int .i64 vv, .slice a7 lv.length c7, .int .i64 c, .slice a9 lb.length c9, .slice a10 le.length c10] 73)) := (((Kp.refl _ _).alloc _).alloc _)
  have bA_0 : ((w.alloc (.cells #[.slice a1 xa.length d1, .slice a2 xb.length d2, tc] 33)).alloc (.cells #[.int .i64 5, .int .i64 t, .int .i64 ik, .int .i64 iv, .slice a4 li.length c4, .int .i64 vk, .int .i64 vv, .slice a7 lv.length c7, .int .i64 c, .slice a9 lb.length c9, .slice a10 le.length c10] 73)).heap[w.heap.size]? = some (.cells #[.slice a1 xa.length d1, .slice a2 xb.length d2, tc] 33) := heap_old (alloc_heap _ _)
  have bS_0 : ((w.alloc (.cells #[.slice a1 xa.length d1, .slice a2 xb.length d2, tc] 33)).alloc (.cells #[.int .i64 5, .int .i64 t, .int .i64 ik, .int .i64 iv, .slice a4 li.length c4, .int .i64 vk, .int .i64 vv, .slice a7 lv.length c7, .int .i64 c, .slice a9 lb.length c9, .slice a10 le.length c10] 73)).heap[w.heap.size + 1]? = some (.cells #[.int .i64 5, .int .i64 t, .int .i64 ik, .int .i64 iv, .slice a4 li.length c4, .int .i64 vk, .int .i64 vv, .slice a7 lv.length c7, .int .i64 c, .slice a9 lb.length c9, .slice a10 le.length c10] 73) := heap_at (by simp)
  have z0 : w.heap.size + 1 < ((w.alloc (.cells #[.slice a1 xa.length d1, .slice a2 xb.length d2, tc] 33)).alloc (.cells #[.int .i64 5, .int .i64 t, .int .i64 ik, .int .i64 iv, .slice a4 li.length c4, .int .i64 vk, .int .i64 vv, .slice a7 lv.length c7, .int .i64 c, .slice a9 lb.length c9, .slice a10 le.length c10] 73)).heap.size := by simp
  generalize ((w.alloc (.cells #[.slice a1 xa.length d1, .slice a2 xb.length d2, tc] 33)).alloc (.cells #[.int .i64 5, .int .i64 t, .int .i64 ik, .int .i64 iv, .slice a4 li.length c4, .int .i64 vk, .int .i64 vv, .slice a7 lv.length c7, .int .i64 c, .slice a9 lb.length c9, .slice a10 le.length c10] 73)) = w0 at *
  obtain ⟨bA_0_c0, bA_0_c1, bA_0_c2⟩ := cells3 bA_0
  obtain ⟨bS_0_c0, bS_0_c1, bS_0_c2, bS_0_c3, bS_0_c4, bS_0_c5, bS_0_c6, bS_0_c7⟩ := cells8 bS_0
  have bS_0_c8 := cell_of_heap bS_0 8
  have bS_0_c9 := cell_of_heap bS_0 9
  have bS_0_c10 := cell_of_heap bS_0 10
  go_wp2_with fail
  go_quiet (fail)
  have hn1 : New w0 (w0.drewN nq) := drewN_kp _ nq (Kp.refl _ _)
  generalize w0.drewN nq = w1 at *
  have z1 := hn1.size
  have N1 : New w w1 := N0.trans hn1
  have bA_1 := heap_new hn1 bA_0
  have bS_1 := heap_new hn1 bS_0
  clear bA_0_c0 bA_0_c1 bA_0_c2 bS_0_c0 bS_0_c1 bS_0_c2 bS_0_c3 bS_0_c4 bS_0_c5 bS_0_c6 bS_0_c7 bS_0_c8 bS_0_c9 bS_0_c10
  clear bA_0 bS_0 hn1
  obtain ⟨bA_1_c0, bA_1_c1, bA_1_c2⟩ := cells3 bA_1
  obtain ⟨bS_1_c0, bS_1_c1, bS_1_c2, bS_1_c3, bS_1_c4, bS_1_c5, bS_1_c6, bS_1_c7⟩ := cells8 bS_1
  have bS_1_c8 := cell_of_heap bS_1 8
  have bS_1_c9 := cell_of_heap bS_1 9
  have bS_1_c10 := cell_of_heap bS_1 10
  go_wp2_with fail
  go_quiet (fail)
  have hn2 : New w1 (w1.drewN nq) := drewN_kp _ nq (Kp.refl _ _)
  generalize w1.drewN nq = w2 at *
  have z2 := hn2.size
  have N2 : New w w2 := N1.trans hn2
  have bA_2 := heap_new hn2 bA_1
  have bS_2 := heap_new hn2 bS_1
  clear bA_1_c0 bA_1_c1 bA_1_c2 bS_1_c0 bS_1_c1 bS_1_c2 bS_1_c3 bS_1_c4 bS_1_c5 bS_1_c6 bS_1_c7 bS_1_c8 bS_1_c9 bS_1_c10
  clear bA_1 bS_1 hn2
  obtain ⟨bA_2_c0, bA_2_c1, bA_2_c2⟩ := cells3 bA_2
  obtain ⟨bS_2_c0, bS_2_c1, bS_2_c2, bS_2_c3, bS_2_c4, bS_2_c5, bS_2_c6, bS_2_c7⟩ := cells8 bS_2
  have bS_2_c8 := cell_of_heap bS_2 8
  have bS_2_c9 := cell_of_heap bS_2 9
  have bS_2_c10 := cell_of_heap bS_2 10
  go_wp2_with fail
  refine (LabE.Impl.label (hsa.out.new h1 N2) (hsb.out.new h1 N2) (hrv.out.new h1 N2) (by omega) (by omega) hr).mono ?_
  rintro e w3 ⟨rfl, hn3⟩
  have z3 := hn3.size
  have N3 : New w w3 := N2.trans hn3
  have bA_3 := heap_new hn3 bA_2
  have bS_3 := heap_new hn3 bS_2
  clear bA_2_c0 bA_2_c1 bA_2_c2 bS_2_c0 bS_2_c1 bS_2_c2 bS_2_c3 bS_2_c4 bS_2_c5 bS_2_c6 bS_2_c7 bS_2_c8 bS_2_c9 bS_2_c10
  clear bA_2 bS_2 hn3
  obtain ⟨bA_3_c0, bA_3_c1, bA_3_c2⟩ := cells3 bA_3
  obtain ⟨bS_3_c0, bS_3_c1, bS_3_c2, bS_3_c3, bS_3_c4, bS_3_c5, bS_3_c6, bS_3_c7⟩ := cells8 bS_3
  have bS_3_c8 := cell_of_heap bS_3 8
  have bS_3_c9 := cell_of_heap bS_3 9
  have bS_3_c10 := cell_of_heap bS_3 10
  go_wp2_with fail
  refine (newSame (Lab.implLabelTrusted _ _)).mono ?_
  rintro e w4 ⟨rfl, hn4⟩
  have z4 := hn4.size
  have N4 : New w w4 := N3.trans hn4
  have bA_4 := heap_new hn4 bA_3
  have bS_4 := heap_new hn4 bS_3
  clear bA_3_c0 bA_3_c1 bA_3_c2 bS_3_c0 bS_3_c1 bS_3_c2 bS_3_c3 bS_3_c4 bS_3_c5 bS_3_c6 bS_3_c7 bS_3_c8 bS_3_c9 bS_3_c10
  clear bA_3 bS_3 hn4
  cases hf : Lab.trustedB (lab xa xb (.node vk vv lv))
  · have D1 := Lib.hid (D.out.trans (by rw [hf]; rfl : _ = (2 : Int)))
    clear hf D
    obtain ⟨bA_4_c0, bA_4_c1, bA_4_c2⟩ := cells3 bA_4
    obtain ⟨bS_4_c0, bS_4_c1, bS_4_c2, bS_4_c3, bS_4_c4, bS_4_c5, bS_4_c6, bS_4_c7⟩ := cells8 bS_4
    have bS_4_c8 := cell_of_heap bS_4 8
    have bS_4_c9 := cell_of_heap bS_4 9
    have bS_4_c10 := cell_of_heap bS_4 10
    go_wp2
    go_ret
    exact ⟨retI D1.out.symm, N4⟩
  · by_cases hx : x = 0
    · have D1 := Lib.hid (D.out.trans (by rw [hf, hx]; rfl : _ = (0 : Int)))
      have hxb : (x != 0) = false := by simp [hx]
      clear hf D hx
      obtain ⟨bA_4_c0, bA_4_c1, bA_4_c2⟩ := cells3 bA_4
      obtain ⟨bS_4_c0, bS_4_c1, bS_4_c2, bS_4_c3, bS_4_c4, bS_4_c5, bS_4_c6, bS_4_c7⟩ := cells8 bS_4
      have bS_4_c8 := cell_of_heap bS_4 8
      have bS_4_c9 := cell_of_heap bS_4 9
      have bS_4_c10 := cell_of_heap bS_4 10
      go_wp2
      go_ret
      exact ⟨retI D1.out.symm, N4⟩
    · have hxb : (x != 0) = true := by simp [hx]
      have hxc : (x == 0) = false := by simp [hx]
      have D1 := Lib.hid (D.out.trans (by rw [hf, hxc]; rfl : _ = (2 : Int)))
      clear hf D hx hxc
      obtain ⟨bA_4_c0, bA_4_c1, bA_4_c2⟩ := cells3 bA_4
      obtain ⟨bS_4_c0, bS_4_c1, bS_4_c2, bS_4_c3, bS_4_c4, bS_4_c5, bS_4_c6, bS_4_c7⟩ := cells8 bS_4
      have bS_4_c8 := cell_of_heap bS_4 8
      have bS_4_c9 := cell_of_heap bS_4 9
      have bS_4_c10 := cell_of_heap bS_4 10
      go_wp2
      go_ret
      exact ⟨retI D1.out.symm, N4⟩
theorem flow {w : World} {lo hi : Nat} {ta tb tc : Value} {xa xb : List Int} {d : Nat} {k t ik iv vk vv c x : Int} {si sv sd se : Value} {li lv : List Ex} {lb le : List St} (sa : IntsR w lo hi ta xa) (sb : IntsR w lo hi tb xb) (ri : KidsR w lo hi si li) (rv : KidsR w lo hi sv lv) (rb : StsR w lo hi sd lb) (re : StsR w lo hi se le) (h1 : hi ≤ w.heap.size) (hv : stB xa.length xb.length (.node k t (.node ik iv li) (.node vk vv lv) c lb le) d = true) :
    Calls Try.prog 87 #[.agg #[ta, tb, tc], .agg #[.int .i64 k, .int .i64 t, .int .i64 ik, .int .i64 iv, si, .int .i64 vk, .int .i64 vv, sv, .int .i64 c, sd, se], .int .i64 x] w fun e w' => e = .returned (.int .i64 (ownI xa xb (.node k t (.node ik iv li) (.node vk vv lv) c lb le) x)) ∧ New w w' := by
  have hq5 : 1 ≤ k := (stB_val hv).2.2.2.2.1
  have hq6 : k ≤ 5 := (stB_val hv).2.2.2.2.2
  have hk : k = 1 ∨ k = 2 ∨ k = 3 ∨ k = 4 ∨ k = 5 := by omega
  rcases hk with rfl | rfl | rfl | rfl | rfl
  · exact flow1 sa sb ri rv rb re h1 hv
  · exact flow2 sa sb ri rv rb re h1 hv
  · exact flow3 sa sb ri rv rb re h1 hv
  · exact flow4 sa sb ri rv rb re h1 hv
  · exact flow5 sa sb ri rv rb re h1 hv
/-- the three variables, the check, the labels -/
structure Vars (lo hi bc br bn ba : Nat) (a1 a2 : Option Addr) (d1 d2 : Nat) (tc : Value) (xa xb : List Int) (w : World) (a : Int × Int × Int) : Prop where
  c : w.heap[bc]? = some (.cells #[.int .i64 a.1] 3 (0, 0))
  p : w.heap[ba]? = some (.cells #[.int .i64 a.2.1] 3 (0, 0))
  n : w.heap[bn]? = some (.cells #[.int .i64 a.2.2] 3 (0, 0))
  f : w.heap[br]? = some (.cells #[.func (.func 87) #[.agg #[.slice a1 xa.length d1, .slice a2 xb.length d2, tc]] #[]] 103 (0, 0))
  sa : IntsR w lo hi (.slice a1 xa.length d1) xa
  sb : IntsR w lo hi (.slice a2 xb.length d2) xb
theorem Vars.new {lo hi bc br bn ba : Nat} {a1 a2 : Option Addr} {d1 d2 : Nat} {tc : Value} {xa xb : List Int} {w w' : World} {a : Int × Int × Int} (h : Vars lo hi bc br bn ba a1 a2 d1 d2 tc xa xb w a) (h1 : hi ≤ w.heap.size) (k : New w w') : Vars lo hi bc br bn ba a1 a2 d1 d2 tc xa xb w' a :=
  ⟨heap_new k h.c, heap_new k h.p, heap_new k h.n, heap_new k h.f, h.sa.new h1 k, h.sb.new h1 k⟩
set_option maxHeartbeats 4000000 in
theorem first1 (lo hi top bc br bn ba : Nat) (a1 a2 : Option Addr) (d1 d2 : Nat) (tc : Value) (xa xb : List Int) (q1 : bc ≠ bn) (q2 : bc ≠ ba) (q3 : bn ≠ ba) (q4 : br ≠ bc ∧ br ≠ bn ∧ br ≠ ba) (q5 : (bc < lo ∨ hi ≤ bc) ∧ (bn < lo ∨ hi ≤ bn) ∧ (ba < lo ∨ hi ≤ ba)) :
    ToldC 118 #[.pointer (some ⟨bc, 0, none⟩), .pointer (some ⟨br, 0, none⟩), .pointer (some ⟨bn, 0, none⟩), .pointer (some ⟨ba, 0, none⟩)] (fun k => k = bc ∨ k = bn ∨ k = ba) lo hi top xa.length xb.length (fun w a => hi ≤ w.heap.size ∧ Vars lo hi bc br bn ba a1 a2 d1 d2 tc xa xb w a) (flG (ownI xa xb)) := by
  intro w a s x d vi vv vb ve hv ri rv rb re h1 ht hI
  obtain ⟨c0, p0, n0⟩ := a
  obtain ⟨k, t, ⟨ik, iv, li⟩, ⟨vk, vx, lv⟩, c, lb, le⟩ := s
  obtain ⟨a4, c4, rfl, _⟩ := ri.len
  obtain ⟨a7, c7, rfl, _⟩ := rv.len
  obtain ⟨a9, c9, rfl, _⟩ := rb.len
  obtain ⟨a10, c10, rfl, _⟩ := re.len
  have hri := Lib.hid ri
  have hrv := Lib.hid rv
  have hrb := Lib.hid rb
  have hre := Lib.hid re
  have hvh := Lib.hid hv
  have k0 : New w (w.alloc (.cells #[.int .i64 k, .int .i64 t, .int .i64 ik, .int .i64 iv, .slice a4 li.length c4, .int .i64 vk, .int .i64 vx, .slice a7 lv.length c7, .int .i64 c, .slice a9 lb.length c9, .slice a10 le.length c10] 73)) := (Kp.refl _ _).alloc _
  have V0 := hI.2.new h1 k0
  have hlc := heap_lt hI.2.c
  have hlp := heap_lt hI.2.p
  have hln := heap_lt hI.2.n
  have hlf := heap_lt hI.2.f
  have bS := alloc_heap w (.cells #[.int .i64 k, .int .i64 t, .int .i64 ik, .int .i64 iv, .slice a4 li.length c4, .int .i64 vk, .int .i64 vx, .slice a7 lv.length c7, .int .i64 c, .slice a9 lb.length c9, .slice a10 le.length c10] 73)
  have z0 : w.heap.size < (w.alloc (.cells #[.int .i64 k, .int .i64 t, .int .i64 ik, .int .i64 iv, .slice a4 li.length c4, .int .i64 vk, .int .i64 vx, .slice a7 lv.length c7, .int .i64 c, .slice a9 lb.length c9, .slice a10 le.length c10] 73)).heap.size := by simp
  dsimp only [St.index, St.value, St.body, St.els, St.kind, St.target, St.count, Ex.kids, Ex.kind, Ex.val] at hri hrv hrb hre
  clear hI ri rv rb re hv
  show Calls _ _ #[.agg #[.int .i64 k, .int .i64 t, .int .i64 ik, .int .i64 iv, .slice a4 li.length c4, .int .i64 vk, .int .i64 vx, .slice a7 lv.length c7, .int .i64 c, .slice a9 lb.length c9, .slice a10 le.length c10], .int .i64 x, .pointer (some ⟨bc, 0, none⟩), .pointer (some ⟨br, 0, none⟩), .pointer (some ⟨bn, 0, none⟩), .pointer (some ⟨ba, 0, none⟩)] _ _
  go_enter Try.func118, Try.ntmps118
  go_upto_region 1 with fail
  generalize w.alloc (.cells #[.int .i64 k, .int .i64 t, .int .i64 ik, .int .i64 iv, .slice a4 li.length c4, .int .i64 vk, .int .i64 vx, .slice a7 lv.length c7, .int .i64 c, .slice a9 lb.length c9, .slice a10 le.length c10] 73) = w0 at *
  have V0h := Lib.hid V0
  have bC : w0.heap[bc]? = some (.cells #[.int .i64 c0] 3 (0, 0)) := V0.c
  have bN : w0.heap[bn]? = some (.cells #[.int .i64 n0] 3 (0, 0)) := V0.n
  have bF := V0.f
  clear V0
  have cC := cell_of_heap bC 0
  have cN := cell_of_heap bN 0
  have fC := frozen_of_heap bC
  have fN := frozen_of_heap bN
  have cF := cell_of_heap bF 0
  have eW : wrap64 (n0 + 1) = IntKind.i64.wrap (n0 + 1) := (IntWalk.i64_left _).symm
  have hlw : ∀ {b : Nat}, b < w.heap.size → b < w0.heap.size := fun h => by omega
  by_cases hc : c0 = 0
  rotate_left
  · have hcb : (c0 == 0) = false := by simp [hc]
    have D := Lib.hid (show flG (ownI xa xb) (.node k t (.node ik iv li) (.node vk vx lv) c lb le) x (c0, p0, n0) = (c0, p0, wrap64 (n0 + 1)) by rw [flG, if_neg hc, eW])
    have hlc1 := hlw hlc
    have hln1 := hlw hln
    clear bC bN bF hc eW
    go_wp2
    have kk := (Kp.refl (fun k => k = bc ∨ k = bn ∨ k = ba) w0).setCell (p := ⟨bn, 0, none⟩) (.inl (.inr (.inl rfl))) (.int .i64 (wrap64 (n0 + 1)))
    refine Go.Great.bodyPost_end0 rfl rfl ⟨rfl, (k0.mono fun _ _ f => f.elim).trans kk, by simp; omega, ?_⟩
    rw [D.out]
    exact ⟨heap_set V0h.out.c (by omega) _, heap_set V0h.out.p (by omega) _, setCell_heap (o := 0) V0h.out.n _, heap_set V0h.out.f (by omega) _, V0h.out.sa.kp kk (by omega) (fun i e => by omega), V0h.out.sb.kp kk (by omega) (fun i e => by omega)⟩
  subst hc
  obtain ⟨cS0, cS1, cS2, cS3, cS4, cS5, cS6, cS7⟩ := cells8 bS
  have cS8 := cell_of_heap bS 8
  have cS9 := cell_of_heap bS 9
  have cS10 := cell_of_heap bS 10
  go_wp2_with fail
  refine (flow V0h.out.sa V0h.out.sb (hri.out.new h1 k0) (hrv.out.new h1 k0) (hrb.out.new h1 k0) (hre.out.new h1 k0) (by omega) hvh.out).mono ?_
  rintro e w1 ⟨rfl, k1⟩
  have V1 := V0h.out.new (by omega) k1
  have hz1 := k1.size
  have hvh2 := Lib.hid (show ∃ r, ownI xa xb (.node k t (.node ik iv li) (.node vk vx lv) c lb le) x = r from ⟨_, rfl⟩)
  obtain ⟨r, hr⟩ := hvh2.out
  rw [hr]
  have D := Lib.hid (show flG (ownI xa xb) (.node k t (.node ik iv li) (.node vk vx lv) c lb le) x (0, p0, n0) = (r, if r = 0 then p0 else n0, wrap64 (n0 + 1)) by rw [flG, if_pos rfl, hr, eW])
  have V1h := Lib.hid V1
  have bC1 : w1.heap[bc]? = some (.cells #[.int .i64 0] 3 (0, 0)) := V1.c
  clear bC bN bF cC cN fC fN cF hvh2 hr eW cS0 cS1 cS2 cS3 cS4 cS5 cS6 cS7 cS8 cS9 cS10 V1 bS
  have cC := cell_of_heap bC1 0
  have fC := frozen_of_heap bC1
  have hlc1 : bc < w1.heap.size := by omega
  have ks := (Kp.refl (fun k => k = bc ∨ k = bn ∨ k = ba) w1).setCell (p := ⟨bc, 0, none⟩) (.inl (.inl rfl)) (.int .i64 r)
  have V2 : Vars lo hi bc br bn ba a1 a2 d1 d2 tc xa xb (w1.setCell ⟨bc, 0, none⟩ (.int .i64 r)) (r, p0, n0) := ⟨setCell_heap (o := 0) V1h.out.c _, heap_set V1h.out.p (by omega) _, heap_set V1h.out.n (by omega) _, heap_set V1h.out.f (by omega) _, V1h.out.sa.set (by omega) _ _, V1h.out.sb.set (by omega) _ _⟩
  have hz2 : (w1.setCell ⟨bc, 0, none⟩ (.int .i64 r)).heap.size = w1.heap.size := by simp
  have hz2b : w1.heap.size ≤ (w1.setCell ⟨bc, 0, none⟩ (.int .i64 r)).heap.size := by omega
  clear hz2
  go_upto_region 3 with fail
  generalize w1.setCell ⟨bc, 0, none⟩ (.int .i64 r) = w2 at *
  have K2 : Kp (fun k => k = bc ∨ k = bn ∨ k = ba) w w2 := ((k0.trans k1).mono fun _ _ f => f.elim).trans ks
  have V2h := Lib.hid V2
  have bC2 : w2.heap[bc]? = some (.cells #[.int .i64 r] 3 (0, 0)) := V2.c
  have bN2 : w2.heap[bn]? = some (.cells #[.int .i64 n0] 3 (0, 0)) := V2.n
  have bP2 : w2.heap[ba]? = some (.cells #[.int .i64 p0] 3 (0, 0)) := V2.p
  clear V2 V1h bC1 cC fC ks
  have cC := cell_of_heap bC2 0
  have cN := cell_of_heap bN2 0
  have fN := frozen_of_heap bN2
  have cP := cell_of_heap bP2 0
  have fP := frozen_of_heap bP2
  have lN := heap_lt bN2
  have lP := heap_lt bP2
  by_cases hr : r = 0
  · have hrb : (r != 0) = false := by simp [hr]
    have D2 := Lib.hid (D.out.trans (by rw [if_pos hr] : _ = (r, p0, wrap64 (n0 + 1))))
    clear hr D
    go_wp2
    have kk := (Kp.refl (fun k => k = bc ∨ k = bn ∨ k = ba) w2).setCell (p := ⟨bn, 0, none⟩) (.inl (.inr (.inl rfl))) (.int .i64 (wrap64 (n0 + 1)))
    refine Go.Great.bodyPost_end0 rfl rfl ⟨rfl, K2.trans (kk.mono fun _ _ q => q), by simp; omega, ?_⟩
    rw [D2.out]
    exact ⟨heap_set V2h.out.c (by omega) _, heap_set V2h.out.p (by omega) _, setCell_heap (o := 0) V2h.out.n _, heap_set V2h.out.f (by omega) _, V2h.out.sa.kp kk (by omega) (fun i e => by omega), V2h.out.sb.kp kk (by omega) (fun i e => by omega)⟩
  · have hrb : (r != 0) = true := by simp [hr]
    have D2 := Lib.hid (D.out.trans (by rw [if_neg hr] : _ = (r, n0, wrap64 (n0 + 1))))
    clear hr D
    have ks := (Kp.refl (fun k => k = bc ∨ k = bn ∨ k = ba) w2).setCell (p := ⟨ba, 0, none⟩) (.inl (.inr (.inr rfl))) (.int .i64 n0)
    have V3 : Vars lo hi bc br bn ba a1 a2 d1 d2 tc xa xb (w2.setCell ⟨ba, 0, none⟩ (.int .i64 n0)) (r, n0, n0) := ⟨heap_set V2h.out.c (by omega) _, setCell_heap (o := 0) V2h.out.p _, heap_set V2h.out.n (by omega) _, heap_set V2h.out.f (by omega) _, V2h.out.sa.set (by omega) _ _, V2h.out.sb.set (by omega) _ _⟩
    have hz3 : w2.heap.size ≤ (w2.setCell ⟨ba, 0, none⟩ (.int .i64 n0)).heap.size := by simp
    go_upto_region 5 with fail
    generalize w2.setCell ⟨ba, 0, none⟩ (.int .i64 n0) = w3 at *
    have V3h := Lib.hid V3
    have bN3 : w3.heap[bn]? = some (.cells #[.int .i64 n0] 3 (0, 0)) := V3.n
    have K3 := K2.trans (ks.mono fun _ _ q => q)
    clear V3 V2h cC cN fN cP fP bC2 bN2 bP2 ks
    have cN := cell_of_heap bN3 0
    have fN := frozen_of_heap bN3
    have lN := heap_lt bN3
    go_wp2
    have kk := (Kp.refl (fun k => k = bc ∨ k = bn ∨ k = ba) w3).setCell (p := ⟨bn, 0, none⟩) (.inl (.inr (.inl rfl))) (.int .i64 (wrap64 (n0 + 1)))
    refine Go.Great.bodyPost_end0 rfl rfl ⟨rfl, K3.trans (kk.mono fun _ _ q => q), by simp; omega, ?_⟩
    rw [D2.out]
    exact ⟨heap_set V3h.out.c (by omega) _, heap_set V3h.out.p (by omega) _, setCell_heap (o := 0) V3h.out.n _, heap_set V3h.out.f (by omega) _, V3h.out.sa.kp kk (by omega) (fun i e => by omega), V3h.out.sb.kp kk (by omega) (fun i e => by omega)⟩
set_option maxHeartbeats 4000000 in
theorem firstOf {w : World} {lo hi : Nat} {a1 a2 a3 : Option Addr} {d1 d2 d3 : Nat} {xa xb : List Int} {l : List St} (sa : IntsR w lo hi (.slice a1 xa.length d1) xa) (sb : IntsR w lo hi (.slice a2 xb.length d2) xb) (s : StsR w lo hi (.slice a3 l.length d3) l) (h1 : hi ≤ w.heap.size) (hp : progB xa xb l = true) :
    Calls Try.prog 86 #[.agg #[.slice a1 xa.length d1, .slice a2 xb.length d2, .slice a3 l.length d3], .func (.func 87) #[.agg #[.slice a1 xa.length d1, .slice a2 xb.length d2, .slice a3 l.length d3]] #[]] w fun e w' => e = .returned (.tuple #[.int .i64 (flowOf (flL (lab xa xb) (ownS xa xb) l 0 0)).1, .int .i64 (flowOf (flL (lab xa xb) (ownS xa xb) l 0 0)).2]) ∧ New w w' := by
  have hsa := Lib.hid sa
  have hsb := Lib.hid sb
  have hs := Lib.hid s
  obtain ⟨r, hr⟩ : ∃ r, flowOf (flL (lab xa xb) (ownS xa xb) l 0 0) = r := ⟨_, rfl⟩
  rw [hr]
  have hrh := Lib.hid hr
  clear sa sb s hr
  go_enter Try.func86, Try.ntmps86
  go_wp2_with fail
  have N0 : New w (((((w.alloc (.cells #[.slice a1 xa.length d1, .slice a2 xb.length d2, .slice a3 l.length d3] 33)).alloc (.cells #[.func (.func 87) #[.agg #[.slice a1 xa.length d1, .slice a2 xb.length d2, .slice a3 l.length d3]] #[]] 103)).alloc (.cells #[.int .i64 0] 3)).alloc (.cells #[.int .i64 (-1)] 3)).alloc (.cells #[.int .i64 0] 3)) := ((((((Kp.refl _ _).alloc _).alloc _).alloc _).alloc _).alloc _)
  have bA_0 : (((((w.alloc (.cells #[.slice a1 xa.length d1, .slice a2 xb.length d2, .slice a3 l.length d3] 33)).alloc (.cells #[.func (.func 87) #[.agg #[.slice a1 xa.length d1, .slice a2 xb.length d2, .slice a3 l.length d3]] #[]] 103)).alloc (.cells #[.int .i64 0] 3)).alloc (.cells #[.int .i64 (-1)] 3)).alloc (.cells #[.int .i64 0] 3)).heap[w.heap.size]? = some (.cells #[.slice a1 xa.length d1, .slice a2 xb.length d2, .slice a3 l.length d3] 33) := heap_old (heap_old (heap_old (heap_old (alloc_heap _ _))))
  have bF_0 : (((((w.alloc (.cells #[.slice a1 xa.length d1, .slice a2 xb.length d2, .slice a3 l.length d3] 33)).alloc (.cells #[.func (.func 87) #[.agg #[.slice a1 xa.length d1, .slice a2 xb.length d2, .slice a3 l.length d3]] #[]] 103)).alloc (.cells #[.int .i64 0] 3)).alloc (.cells #[.int .i64 (-1)] 3)).alloc (.cells #[.int .i64 0] 3)).heap[w.heap.size + 1]? = some (.cells #[.func (.func 87) #[.agg #[.slice a1 xa.length d1, .slice a2 xb.length d2, .slice a3 l.length d3]] #[]] 103) := heap_old (heap_old (heap_old (heap_at (by simp))))
  have bC_0 : (((((w.alloc (.cells #[.slice a1 xa.length d1, .slice a2 xb.length d2, .slice a3 l.length d3] 33)).alloc (.cells #[.func (.func 87) #[.agg #[.slice a1 xa.length d1, .slice a2 xb.length d2, .slice a3 l.length d3]] #[]] 103)).alloc (.cells #[.int .i64 0] 3)).alloc (.cells #[.int .i64 (-1)] 3)).alloc (.cells #[.int .i64 0] 3)).heap[w.heap.size + 1 + 1]? = some (.cells #[.int .i64 0] 3) := heap_old (heap_old (heap_at (by simp)))
  have bP_0 : (((((w.alloc (.cells #[.slice a1 xa.length d1, .slice a2 xb.length d2, .slice a3 l.length d3] 33)).alloc (.cells #[.func (.func 87) #[.agg #[.slice a1 xa.length d1, .slice a2 xb.length d2, .slice a3 l.length d3]] #[]] 103)).alloc (.cells #[.int .i64 0] 3)).alloc (.cells #[.int .i64 (-1)] 3)).alloc (.cells #[.int .i64 0] 3)).heap[w.heap.size + 1 + 1 + 1]? = some (.cells #[.int .i64 (-1)] 3) := heap_old (heap_at (by simp))
  have bM_0 : (((((w.alloc (.cells #[.slice a1 xa.length d1, .slice a2 xb.length d2, .slice a3 l.length d3] 33)).alloc (.cells #[.func (.func 87) #[.agg #[.slice a1 xa.length d1, .slice a2 xb.length d2, .slice a3 l.length d3]] #[]] 103)).alloc (.cells #[.int .i64 0] 3)).alloc (.cells #[.int .i64 (-1)] 3)).alloc (.cells #[.int .i64 0] 3)).heap[w.heap.size + 1 + 1 + 1 + 1]? = some (.cells #[.int .i64 0] 3) := heap_at (by simp)
  have z0 : w.heap.size + 1 + 1 + 1 + 1 < (((((w.alloc (.cells #[.slice a1 xa.length d1, .slice a2 xb.length d2, .slice a3 l.length d3] 33)).alloc (.cells #[.func (.func 87) #[.agg #[.slice a1 xa.length d1, .slice a2 xb.length d2, .slice a3 l.length d3]] #[]] 103)).alloc (.cells #[.int .i64 0] 3)).alloc (.cells #[.int .i64 (-1)] 3)).alloc (.cells #[.int .i64 0] 3)).heap.size := by simp
  generalize (((((w.alloc (.cells #[.slice a1 xa.length d1, .slice a2 xb.length d2, .slice a3 l.length d3] 33)).alloc (.cells #[.func (.func 87) #[.agg #[.slice a1 xa.length d1, .slice a2 xb.length d2, .slice a3 l.length d3]] #[]] 103)).alloc (.cells #[.int .i64 0] 3)).alloc (.cells #[.int .i64 (-1)] 3)).alloc (.cells #[.int .i64 0] 3)) = w0 at *
  obtain ⟨bA_0_c0, bA_0_c1, bA_0_c2⟩ := cells3 bA_0
  have bF_0_c0 := cell_of_heap bF_0 0
  have bC_0_c0 := cell_of_heap bC_0 0
  have bP_0_c0 := cell_of_heap bP_0 0
  have bM_0_c0 := cell_of_heap bM_0 0
  go_wp2_with fail
  clear bA_0_c0 bA_0_c1 bA_0_c2 bF_0_c0 bC_0_c0 bP_0_c0 bM_0_c0
  obtain ⟨m, hm⟩ := eachL_flow (lab xa xb) (ownI xa xb) l 0 (valid_N hp).1
  have hfl := flL_own (valid_good hp).1 (valid_good hp).2 l 0 0 rfl
  rw [hfl] at hm
  have hmh := Lib.hid hm
  clear hm hfl
  refine (Each.does 118 (enters_of Try.func118 (by kernel_rfl) rfl) _ (fun k => k = w.heap.size + 1 + 1 ∨ k = w.heap.size + 1 + 1 + 1 + 1 ∨ k = w.heap.size + 1 + 1 + 1) lo hi (w.heap.size + 1 + 1 + 1 + 1 + 1) xa xb _ (flG (ownI xa xb)) (first1 lo hi _ (w.heap.size + 1 + 1) (w.heap.size + 1) (w.heap.size + 1 + 1 + 1 + 1) (w.heap.size + 1 + 1 + 1) a1 a2 d1 d2 (.slice a3 l.length d3) xa xb (by omega) (by omega) (by omega) (by omega) (by omega)) (fun _ _ _ h k => ⟨by have := k.size; omega, h.2.new h.1 k⟩) (fun _ e => by omega) (fun _ e => by omega) _ w0 _ _ _ _ l 0 5 (0, -1, 0) (Nat.lt_succ_self _) (hsa.out.new h1 N0) (hsb.out.new h1 N0) (hs.out.new h1 N0) (by omega) (by omega) (valid_bl hp) ⟨by omega, bC_0, bP_0, bM_0, bF_0, hsa.out.new h1 N0, hsb.out.new h1 N0⟩).mono ?_
  rintro e w1 ⟨rfl, k1, -, hV⟩
  have N1 : New w w1 := N0.on k1 (fun i e => by omega)
  rw [hmh.out, hrh.out] at hV
  have bC := hV.c
  have bP := hV.p
  have cC := cell_of_heap bC 0
  have cP := cell_of_heap bP 0
  skip
  clear hV bC bP k1 hmh bA_0 bF_0 bC_0 bP_0 bM_0
  go_wp2_with fail
  go_quiet (fail)
  go_wp2
  exact bodyPost_ret (results_tmp2 rfl _ _ _) rfl ⟨rfl, drewN_kp _ _ N1⟩
set_option maxHeartbeats 4000000 in
theorem implC {w : World} {lo hi : Nat} {ta tb tc : Value} {xa xb : List Int} {l : List St} (sa : IntsR w lo hi ta xa) (sb : IntsR w lo hi tb xb) (s : StsR w lo hi tc l) (h1 : hi ≤ w.heap.size) :
    Calls Try.prog 40 #[.agg #[ta, tb, tc]] w fun e w' => e = .returned (.tuple #[.int .i64 (flowB xa xb l).1, .int .i64 (flowB xa xb l).2]) ∧ New w w' := by
  obtain ⟨a1, d1, rfl, m1⟩ := sa.len
  obtain ⟨a2, d2, rfl, m2⟩ := sb.len
  obtain ⟨a3, d3, rfl, m3⟩ := s.len
  obtain ⟨r, hr⟩ : ∃ r, flowB xa xb l = r := ⟨_, rfl⟩
  rw [hr]
  have hrh := Lib.hid hr
  clear hr
  go_enter Try.func40, Try.ntmps40
  go_wp2_with fail
  have N0 : New w (w.alloc (.cells #[.slice a1 xa.length d1, .slice a2 xb.length d2, .slice a3 l.length d3] 33)) := ((Kp.refl _ _).alloc _)
  have bA_0 : (w.alloc (.cells #[.slice a1 xa.length d1, .slice a2 xb.length d2, .slice a3 l.length d3] 33)).heap[w.heap.size]? = some (.cells #[.slice a1 xa.length d1, .slice a2 xb.length d2, .slice a3 l.length d3] 33) := alloc_heap _ _
  have z0 : w.heap.size < (w.alloc (.cells #[.slice a1 xa.length d1, .slice a2 xb.length d2, .slice a3 l.length d3] 33)).heap.size := by simp
  generalize (w.alloc (.cells #[.slice a1 xa.length d1, .slice a2 xb.length d2, .slice a3 l.length d3] 33)) = w0 at *
  obtain ⟨bA_0_c0, bA_0_c1, bA_0_c2⟩ := cells3 bA_0
  go_wp2_with fail
  refine (PgmV.implP (sa.new h1 N0) (sb.new h1 N0) (s.new h1 N0) (by omega)).mono ?_
  rintro e w1 ⟨rfl, hn1⟩
  have z1 := hn1.size
  have N1 : New w w1 := N0.trans hn1
  have bA_1 := heap_new hn1 bA_0
  clear bA_0_c0 bA_0_c1 bA_0_c2
  clear bA_0 hn1
  cases b1 : progB xa xb l
  · obtain ⟨bA_1_c0, bA_1_c1, bA_1_c2⟩ := cells3 bA_1
    obtain rfl : r = (5, -1) := by rw [← hrh.out, flowB, b1]; rfl
    clear b1 hrh
    go_wp2
    exact bodyPost_ret (results_tmp2 rfl _ _ _) rfl ⟨rfl, N1⟩
  have Hb := Lib.hid b1
  have hr2 : flowOf (flL (lab xa xb) (ownS xa xb) l 0 0) = r := by rw [← hrh.out, flowB, b1]; rfl
  have hr2h := Lib.hid hr2
  clear b1 hrh hr2
  obtain ⟨bA_1_c0, bA_1_c1, bA_1_c2⟩ := cells3 bA_1
  go_wp2_with fail
  refine (firstOf (sa.new h1 N1) (sb.new h1 N1) (s.new h1 N1) (by omega) Hb.out).mono ?_
  rintro e w2 ⟨rfl, hn2⟩
  have z2 := hn2.size
  have N2 : New w w2 := N1.trans hn2
  have bA_2 := heap_new hn2 bA_1
  clear bA_1_c0 bA_1_c1 bA_1_c2
  clear bA_1 hn2
  rw [hr2h.out]
  clear Hb hr2h
  obtain ⟨bA_2_c0, bA_2_c1, bA_2_c2⟩ := cells3 bA_2
  go_wp2
  exact bodyPost_ret (results_tmp2 rfl _ _ _) rfl ⟨rfl, N2⟩
end Go.Proofs.Ytbnhhmgdkiomoaa.FlowI
