/- CheckFlow of spec. Condition: at most 2^20 nodes. -/
import Derived.Test.YtbnhhmgdkiomoaaFlowP
import Derived.Test.YtbnhhmgdkiomoaaPgmV
import Derived.Test.YtbnhhmgdkiomoaaStF
import Derived.Test.YtbnhhmgdkiomoaaShort
import Derived.Deep.RegionHeld3
import Derived.BigQuiet
import Derived.BigRegion
namespace Go.Proofs.Ytbnhhmgdkiomoaa.FlowS
open Go.RowKit Kit Val
set_option linter.unusedVariables false
set_option maxHeartbeats 8000000 in
theorem own1 {w : World} {lo hi : Nat} {ta tb tc : Value} {xa xb : List Int} {d : Nat} {t ik iv vk vv c x : Int} {si sv sd se : Value} {li lv : List Ex} {lb le : List St} (sa : IntsR w lo hi ta xa) (sb : IntsR w lo hi tb xb) (ri : KidsR w lo hi si li) (rv : KidsR w lo hi sv lv) (rb : StsR w lo hi sd lb) (re : StsR w lo hi se le) (h1 : hi ≤ w.heap.size) (hv : stB xa.length xb.length (.node 1 t (.node ik iv li) (.node vk vv lv) c lb le) d = true) :
    Calls Try.prog 138 #[.agg #[ta, tb, tc], .agg #[.int .i64 1, .int .i64 t, .int .i64 ik, .int .i64 iv, si, .int .i64 vk, .int .i64 vv, sv, .int .i64 c, sd, se], .int .i64 x, .bool false] w fun e w' => e = .returned (.int .i64 (ownS xa xb (.node 1 t (.node ik iv li) (.node vk vv lv) c lb le) x)) ∧ New w w' := by
  have hval := stB_val hv
  obtain ⟨hq1, hq2, hq3, hq4, hq5, hq6⟩ := hval
  clear hv
  obtain ⟨a1, d1, rfl, m1⟩ := sa.len
  obtain ⟨a2, d2, rfl, m2⟩ := sb.len
  obtain ⟨a4, c4, rfl, m4⟩ := ri.len
  obtain ⟨a7, c7, rfl, m7⟩ := rv.len
  obtain ⟨a9, c9, rfl, m9⟩ := rb.len
  obtain ⟨a10, c10, rfl, m10⟩ := re.len
  have hsa := Lib.hid sa
  have hsb := Lib.hid sb
  have hri := Lib.hid ri
  have hrv := Lib.hid rv
  have hrb := Lib.hid rb
  have hre := Lib.hid re
  clear sa sb ri rv rb re
  obtain ⟨ht0, ht1⟩ : 0 ≤ t ∧ t < (xa.length : Int) := hq3 (.inl rfl)
  obtain ⟨n, rfl⟩ := Int.eq_ofNat_of_zero_le ht0
  have hn : n < xa.length := by omega
  obtain ⟨bx, ox, ex, hb1, hb2, xX_0⟩ := IntsR.at hsa.out n hn
  cases ex
  have hr : right xa.length xb.length (.node vk vv lv) = true := hq1 (show (1 : Int) ≠ 4 by decide)
  have D := Lib.hid (show ownS xa xb (.node 1 (n : Int) (.node ik iv li) (.node vk vv lv) c lb le) x = if Lab.leL (bits .or .i64 (lab xa xb (.node vk vv lv)) x) xa[n] then 0 else 1 by rw [ownS_node]; simp [hn, orI])
  have hnw : bx < w.heap.size := by omega
  have hX := xX_0
  clear xX_0 ht0 ht1 hq1 hq2 hq3 hq4 hq5 hq6
  generalize xa[n] = y at *
  go_enter Try.func138, Try.ntmps138
  go_wp2_with fail
  have N0 : New w ((w.alloc (.cells #[.slice (some ⟨bx, ox, none⟩) xa.length d1, .slice a2 xb.length d2, tc] 33)).alloc (.cells #[.int .i64 1, .int .i64 (n : Int), .int .i64 ik, .int .i64 iv, .slice a4 li.length c4, .int .i64 vk, .int .i64 vv, .slice a7 lv.length c7, .int .i64 c, .slice a9 lb.length c9, .slice a10 le.length c10] 73)) := (((Kp.refl _ _).alloc _).alloc _)
  have bA_0 : ((w.alloc (.cells #[.slice (some ⟨bx, ox, none⟩) xa.length d1, .slice a2 xb.length d2, tc] 33)).alloc (.cells #[.int .i64 1, .int .i64 (n : Int), .int .i64 ik, .int .i64 iv, .slice a4 li.length c4, .int .i64 vk, .int .i64 vv, .slice a7 lv.length c7, .int .i64 c, .slice a9 lb.length c9, .slice a10 le.length c10] 73)).heap[w.heap.size]? = some (.cells #[.slice (some ⟨bx, ox, none⟩) xa.length d1, .slice a2 xb.length d2, tc] 33) := heap_old (alloc_heap _ _)
  have bS_0 : ((w.alloc (.cells #[.slice (some ⟨bx, ox, none⟩) xa.length d1, .slice a2 xb.length d2, tc] 33)).alloc (.cells #[.int .i64 1, .int .i64 (n : Int), .int .i64 ik, .int .i64 iv, .slice a4 li.length c4, .int .i64 vk, .int .i64 vv, .slice a7 lv.length c7, .int .i64 c, .slice a9 lb.length c9, .slice a10 le.length c10] 73)).heap[w.heap.size + 1]? = some (.cells #[.int .i64 1, .int .i64 (n : Int), .int .i64 ik, .int .i64 iv, .slice a4 li.length c4, .int .i64 vk, .int .i64 vv, .slice a7 lv.length c7, .int .i64 c, .slice a9 lb.length c9, .slice a10 le.length c10] 73) := heap_at (by simp)
  have z0 : w.heap.size + 1 < ((w.alloc (.cells #[.slice (some ⟨bx, ox, none⟩) xa.length d1, .slice a2 xb.length d2, tc] 33)).alloc (.cells #[.int .i64 1, .int .i64 (n : Int), .int .i64 ik, .int .i64 iv, .slice a4 li.length c4, .int .i64 vk, .int .i64 vv, .slice a7 lv.length c7, .int .i64 c, .slice a9 lb.length c9, .slice a10 le.length c10] 73)).heap.size := by simp
  generalize ((w.alloc (.cells #[.slice (some ⟨bx, ox, none⟩) xa.length d1, .slice a2 xb.length d2, tc] 33)).alloc (.cells #[.int .i64 1, .int .i64 (n : Int), .int .i64 ik, .int .i64 iv, .slice a4 li.length c4, .int .i64 vk, .int .i64 vv, .slice a7 lv.length c7, .int .i64 c, .slice a9 lb.length c9, .slice a10 le.length c10] 73)) = w0 at *
  have xX_0 := (N0.cell hnw (fun f => f) _).trans hX
  clear hX
  obtain ⟨bA_0_c0, bA_0_c1, bA_0_c2⟩ := cells3 bA_0
  obtain ⟨bS_0_c0, bS_0_c1, bS_0_c2, bS_0_c3, bS_0_c4, bS_0_c5, bS_0_c6, bS_0_c7⟩ := cells8 bS_0
  have bS_0_c8 := cell_of_heap bS_0 8
  have bS_0_c9 := cell_of_heap bS_0 9
  have bS_0_c10 := cell_of_heap bS_0 10
  go_wp2_with fail
  have hn1 : New w0 w0.drew := (Kp.refl _ _).drew
  have z1 := hn1.size
  have N1 : New w w0.drew := N0.trans hn1
  have bA_1 := heap_new hn1 bA_0
  have bS_1 := heap_new hn1 bS_0
  clear bA_0_c0 bA_0_c1 bA_0_c2 bS_0_c0 bS_0_c1 bS_0_c2 bS_0_c3 bS_0_c4 bS_0_c5 bS_0_c6 bS_0_c7 bS_0_c8 bS_0_c9 bS_0_c10
  have xX_1 := (hn1.cell (cell_lt xX_0) (fun f => f) _).trans xX_0
  clear bA_0 bS_0 hn1
  clear xX_0
  obtain ⟨bA_1_c0, bA_1_c1, bA_1_c2⟩ := cells3 bA_1
  obtain ⟨bS_1_c0, bS_1_c1, bS_1_c2, bS_1_c3, bS_1_c4, bS_1_c5, bS_1_c6, bS_1_c7⟩ := cells8 bS_1
  have bS_1_c8 := cell_of_heap bS_1 8
  have bS_1_c9 := cell_of_heap bS_1 9
  have bS_1_c10 := cell_of_heap bS_1 10
  set_option maxRecDepth 100000 in
  go_region_held3 (fun w' => w'.cell? ⟨w.heap.size, 0, none⟩ = some (.slice (some ⟨bx, ox, none⟩) xa.length d1) ∧ w'.cell? ⟨w.heap.size, 1, none⟩ = some (.slice a2 xb.length d2) ∧ w'.cell? ⟨w.heap.size, 2, none⟩ = some (tc) ∧ w'.cell? ⟨w.heap.size + 1, 0, none⟩ = some (.int .i64 1) ∧ w'.cell? ⟨w.heap.size + 1, 1, none⟩ = some (.int .i64 (n : Int)) ∧ w'.cell? ⟨w.heap.size + 1, 2, none⟩ = some (.int .i64 ik) ∧ w'.cell? ⟨w.heap.size + 1, 3, none⟩ = some (.int .i64 iv) ∧ w'.cell? ⟨w.heap.size + 1, 4, none⟩ = some (.slice a4 li.length c4) ∧ w'.cell? ⟨w.heap.size + 1, 5, none⟩ = some (.int .i64 vk) ∧ w'.cell? ⟨w.heap.size + 1, 6, none⟩ = some (.int .i64 vv) ∧ w'.cell? ⟨w.heap.size + 1, 7, none⟩ = some (.slice a7 lv.length c7) ∧ w'.cell? ⟨w.heap.size + 1, 8, none⟩ = some (.int .i64 c) ∧ w'.cell? ⟨w.heap.size + 1, 9, none⟩ = some (.slice a9 lb.length c9) ∧ w'.cell? ⟨w.heap.size + 1, 10, none⟩ = some (.slice a10 le.length c10) ∧ w'.cell? ⟨bx, ox + n, none⟩ = some (.int .i64 y)) (first | (refine ⟨?_, ?_, ?_, ?_, ?_, ?_, ?_, ?_, ?_, ?_, ?_, ?_, ?_, ?_, ?_⟩ <;> assumption) | go_keep)
    (first
      | (go_at_call 144; refine (newSame (Lab.specLabelFlows _ _ _)).mono ?_; rintro e w3 ⟨rfl, hn3⟩; have xX_3 := (hn3.cell (cell_lt xX_2) (fun f => f) _).trans xX_2; have z3 : w2.heap.size ≤ w3.heap.size := hn3.size; have N3 : New w w3 := N2.trans hn3; have bA_3 := heap_new hn3 bA_2; have bS_3 := heap_new hn3 bS_2; clear bA_2_c0 bA_2_c1 bA_2_c2 bS_2_c0 bS_2_c1 bS_2_c2 bS_2_c3 bS_2_c4 bS_2_c5 bS_2_c6 bS_2_c7 bS_2_c8 bS_2_c9 bS_2_c10; clear bA_2 bS_2 hn3; clear xX_2; have bA_3_c0 := cell_of_heap bA_3 0; have bA_3_c1 := cell_of_heap bA_3 1; have bA_3_c2 := cell_of_heap bA_3 2; have bS_3_c0 := cell_of_heap bS_3 0; have bS_3_c1 := cell_of_heap bS_3 1; have bS_3_c2 := cell_of_heap bS_3 2; have bS_3_c3 := cell_of_heap bS_3 3; have bS_3_c4 := cell_of_heap bS_3 4; have bS_3_c5 := cell_of_heap bS_3 5; have bS_3_c6 := cell_of_heap bS_3 6; have bS_3_c7 := cell_of_heap bS_3 7; have bS_3_c8 := cell_of_heap bS_3 8; have bS_3_c9 := cell_of_heap bS_3 9; have bS_3_c10 := cell_of_heap bS_3 10)
      | (go_at_call 139; refine (LabE.Spec.label (hsa.out.new h1 N1) (hsb.out.new h1 N1) (hrv.out.new h1 N1) (by omega) (by omega) hr).mono ?_; rintro e w2 ⟨rfl, hn2⟩; have xX_2 := (hn2.cell (cell_lt xX_1) (fun f => f) _).trans xX_1; have z2 : w0.drew.heap.size ≤ w2.heap.size := hn2.size; have N2 : New w w2 := N1.trans hn2; have bA_2 := heap_new hn2 bA_1; have bS_2 := heap_new hn2 bS_1; clear bA_1_c0 bA_1_c1 bA_1_c2 bS_1_c0 bS_1_c1 bS_1_c2 bS_1_c3 bS_1_c4 bS_1_c5 bS_1_c6 bS_1_c7 bS_1_c8 bS_1_c9 bS_1_c10; clear bA_1 bS_1 hn2; clear xX_1; have bA_2_c0 := cell_of_heap bA_2 0; have bA_2_c1 := cell_of_heap bA_2 1; have bA_2_c2 := cell_of_heap bA_2 2; have bS_2_c0 := cell_of_heap bS_2 0; have bS_2_c1 := cell_of_heap bS_2 1; have bS_2_c2 := cell_of_heap bS_2 2; have bS_2_c3 := cell_of_heap bS_2 3; have bS_2_c4 := cell_of_heap bS_2 4; have bS_2_c5 := cell_of_heap bS_2 5; have bS_2_c6 := cell_of_heap bS_2 6; have bS_2_c7 := cell_of_heap bS_2 7; have bS_2_c8 := cell_of_heap bS_2 8; have bS_2_c9 := cell_of_heap bS_2 9; have bS_2_c10 := cell_of_heap bS_2 10))
  cases hf : Lab.leL (bits .or .i64 (lab xa xb (.node vk vv lv)) x) y
  · have D1 := Lib.hid (D.out.trans (by rw [hf]; rfl : _ = (1 : Int)))
    clear hf D
    clear bA_3_c0 bA_3_c1 bA_3_c2 bS_3_c0 bS_3_c1 bS_3_c2 bS_3_c3 bS_3_c4 bS_3_c5 bS_3_c6 bS_3_c7 bS_3_c8 bS_3_c9 bS_3_c10
    obtain ⟨bA_3_c0, bA_3_c1, bA_3_c2⟩ := cells3 bA_3
    obtain ⟨bS_3_c0, bS_3_c1, bS_3_c2, bS_3_c3, bS_3_c4, bS_3_c5, bS_3_c6, bS_3_c7⟩ := cells8 bS_3
    have bS_3_c8 := cell_of_heap bS_3 8
    have bS_3_c9 := cell_of_heap bS_3 9
    have bS_3_c10 := cell_of_heap bS_3 10
    go_wp2
    go_ret
    exact ⟨retI D1.out.symm, N3⟩
  · have D1 := Lib.hid (D.out.trans (by rw [hf]; rfl : _ = (0 : Int)))
    clear hf D
    clear bA_3_c0 bA_3_c1 bA_3_c2 bS_3_c0 bS_3_c1 bS_3_c2 bS_3_c3 bS_3_c4 bS_3_c5 bS_3_c6 bS_3_c7 bS_3_c8 bS_3_c9 bS_3_c10
    obtain ⟨bA_3_c0, bA_3_c1, bA_3_c2⟩ := cells3 bA_3
    obtain ⟨bS_3_c0, bS_3_c1, bS_3_c2, bS_3_c3, bS_3_c4, bS_3_c5, bS_3_c6, bS_3_c7⟩ := cells8 bS_3
    have bS_3_c8 := cell_of_heap bS_3 8
    have bS_3_c9 := cell_of_heap bS_3 9
    have bS_3_c10 := cell_of_heap bS_3 10
    go_wp2
    go_ret
    exact ⟨retI D1.out.symm, N3⟩
set_option maxHeartbeats 8000000 in
theorem own2 {w : World} {lo hi : Nat} {ta tb tc : Value} {xa xb : List Int} {d : Nat} {t ik iv vk vv c x : Int} {si sv sd se : Value} {li lv : List Ex} {lb le : List St} (sa : IntsR w lo hi ta xa) (sb : IntsR w lo hi tb xb) (ri : KidsR w lo hi si li) (rv : KidsR w lo hi sv lv) (rb : StsR w lo hi sd lb) (re : StsR w lo hi se le) (h1 : hi ≤ w.heap.size) (hv : stB xa.length xb.length (.node 2 t (.node ik iv li) (.node vk vv lv) c lb le) d = true) :
    Calls Try.prog 138 #[.agg #[ta, tb, tc], .agg #[.int .i64 2, .int .i64 t, .int .i64 ik, .int .i64 iv, si, .int .i64 vk, .int .i64 vv, sv, .int .i64 c, sd, se], .int .i64 x, .bool false] w fun e w' => e = .returned (.int .i64 (ownS xa xb (.node 2 t (.node ik iv li) (.node vk vv lv) c lb le) x)) ∧ New w w' := by
  have hval := stB_val hv
  obtain ⟨hq1, hq2, hq3, hq4, hq5, hq6⟩ := hval
  clear hv
  obtain ⟨a1, d1, rfl, m1⟩ := sa.len
  obtain ⟨a2, d2, rfl, m2⟩ := sb.len
  obtain ⟨a4, c4, rfl, m4⟩ := ri.len
  obtain ⟨a7, c7, rfl, m7⟩ := rv.len
  obtain ⟨a9, c9, rfl, m9⟩ := rb.len
  obtain ⟨a10, c10, rfl, m10⟩ := re.len
  have hsa := Lib.hid sa
  have hsb := Lib.hid sb
  have hri := Lib.hid ri
  have hrv := Lib.hid rv
  have hrb := Lib.hid rb
  have hre := Lib.hid re
  clear sa sb ri rv rb re
  obtain ⟨ht0, ht1⟩ : 0 ≤ t ∧ t < (xb.length : Int) := hq4 rfl
  obtain ⟨n, rfl⟩ := Int.eq_ofNat_of_zero_le ht0
  have hn : n < xb.length := by omega
  obtain ⟨bx, ox, ex, hb1, hb2, xX_0⟩ := IntsR.at hsb.out n hn
  cases ex
  have hr : right xa.length xb.length (.node vk vv lv) = true := hq1 (show (2 : Int) ≠ 4 by decide)
  have hi2 : right xa.length xb.length (.node ik iv li) = true := (hq2 rfl).1
  have D := Lib.hid (show ownS xa xb (.node 2 (n : Int) (.node ik iv li) (.node vk vv lv) c lb le) x = if Lab.leL (bits .or .i64 (bits .or .i64 (lab xa xb (.node vk vv lv)) (lab xa xb (.node ik iv li))) x) xb[n] then 0 else 1 by rw [ownS_node]; simp [hn, orI])
  have hnw : bx < w.heap.size := by omega
  have hX := xX_0
  clear xX_0 ht0 ht1 hq1 hq2 hq3 hq4 hq5 hq6
  generalize xb[n] = y at *
  go_enter Try.func138, Try.ntmps138
  go_wp2_with fail
  have N0 : New w ((w.alloc (.cells #[.slice a1 xa.length d1, .slice (some ⟨bx, ox, none⟩) xb.length d2, tc] 33)).alloc (.cells #[.int .i64 2, .int .i64 (n : Int), .int .i64 ik, .int .i64 iv, .slice a4 li.length c4, .int .i64 vk, .int .i64 vv, .slice a7 lv.length c7, .int .i64 c, .slice a9 lb.length c9, .slice a10 le.length c10] 73)) := (((Kp.refl _ _).alloc _).alloc _)
  have bA_0 : ((w.alloc (.cells #[.slice a1 xa.length d1, .slice (some ⟨bx, ox, none⟩) xb.length d2, tc] 33)).alloc (.cells #[.int .i64 2, .int .i64 (n : Int), .int .i64 ik, .int .i64 iv, .slice a4 li.length c4, .int .i64 vk, .int .i64 vv, .slice a7 lv.length c7, .int .i64 c, .slice a9 lb.length c9, .slice a10 le.length c10] 73)).heap[w.heap.size]? = some (.cells #[.slice a1 xa.length d1, .slice (some ⟨bx, ox, none⟩) xb.length d2, tc] 33) := heap_old (alloc_heap _ _)
  have bS_0 : ((w.alloc (.cells #[.slice a1 xa.length d1, .slice (some ⟨bx, ox, none⟩) xb.length d2, tc] 33)).alloc (.cells #[.int .i64 2, .int .i64 (n : Int), .int .i64 ik, .int .i64 iv, .slice a4 li.length c4, .int .i64 vk, .int .i64 vv, .slice a7 lv.length c7, .int .i64 c, .slice a9 lb.length c9, .slice a10 le.length c10] 73)).heap[w.heap.size + 1]? = some (.cells #[.int .i64 2, .int .i64 (n : Int), .int .i64 ik, .int .i64 iv, .slice a4 li.length c4, .int .i64 vk, .int .i64 vv, .slice a7 lv.length c7, .int .i64 c, .slice a9 lb.length c9, .slice a10 le.length c10] 73) := heap_at (by simp)
  have z0 : w.heap.size + 1 < ((w.alloc (.cells #[.slice a1 xa.length d1, .slice (some ⟨bx, ox, none⟩) xb.length d2, tc] 33)).alloc (.cells #[.int .i64 2, .int .i64 (n : Int), .int .i64 ik, .int .i64 iv, .slice a4 li.length c4, .int .i64 vk, .int .i64 vv, .slice a7 lv.length c7, .int .i64 c, .slice a9 lb.length c9, .slice a10 le.length c10] 73)).heap.size := by simp
  generalize ((w.alloc (.cells #[.slice a1 xa.length d1, .slice (some ⟨bx, ox, none⟩) xb.length d2, tc] 33)).alloc (.cells #[.int .i64 2, .int .i64 (n : Int), .int .i64 ik, .int .i64 iv, .slice a4 li.length c4, .int .i64 vk, .int .i64 vv, .slice a7 lv.length c7, .int .i64 c, .slice a9 lb.length c9, .slice a10 le.length c10] 73)) = w0 at *
  have xX_0 := (N0.cell hnw (fun f => f) _).trans hX
  clear hX
  obtain ⟨bA_0_c0, bA_0_c1, bA_0_c2⟩ := cells3 bA_0
  obtain ⟨bS_0_c0, bS_0_c1, bS_0_c2, bS_0_c3, bS_0_c4, bS_0_c5, bS_0_c6, bS_0_c7⟩ := cells8 bS_0
  have bS_0_c8 := cell_of_heap bS_0 8
  have bS_0_c9 := cell_of_heap bS_0 9
  have bS_0_c10 := cell_of_heap bS_0 10
  go_wp2_with fail
  have hn1 : New w0 w0.drew := (Kp.refl _ _).drew
  have z1 := hn1.size
  have N1 : New w w0.drew := N0.trans hn1
  have bA_1 := heap_new hn1 bA_0
  have bS_1 := heap_new hn1 bS_0
  clear bA_0_c0 bA_0_c1 bA_0_c2 bS_0_c0 bS_0_c1 bS_0_c2 bS_0_c3 bS_0_c4 bS_0_c5 bS_0_c6 bS_0_c7 bS_0_c8 bS_0_c9 bS_0_c10
  have xX_1 := (hn1.cell (cell_lt xX_0) (fun f => f) _).trans xX_0
  clear bA_0 bS_0 hn1
  clear xX_0
  obtain ⟨bA_1_c0, bA_1_c1, bA_1_c2⟩ := cells3 bA_1
  obtain ⟨bS_1_c0, bS_1_c1, bS_1_c2, bS_1_c3, bS_1_c4, bS_1_c5, bS_1_c6, bS_1_c7⟩ := cells8 bS_1
  have bS_1_c8 := cell_of_heap bS_1 8
  have bS_1_c9 := cell_of_heap bS_1 9
  have bS_1_c10 := cell_of_heap bS_1 10
  set_option maxRecDepth 100000 in
  go_region_held3 (fun w' => w'.cell? ⟨w.heap.size, 0, none⟩ = some (.slice a1 xa.length d1) ∧ w'.cell? ⟨w.heap.size, 1, none⟩ = some (.slice (some ⟨bx, ox, none⟩) xb.length d2) ∧ w'.cell? ⟨w.heap.size, 2, none⟩ = some (tc) ∧ w'.cell? ⟨w.heap.size + 1, 0, none⟩ = some (.int .i64 2) ∧ w'.cell? ⟨w.heap.size + 1, 1, none⟩ = some (.int .i64 (n : Int)) ∧ w'.cell? ⟨w.heap.size + 1, 2, none⟩ = some (.int .i64 ik) ∧ w'.cell? ⟨w.heap.size + 1, 3, none⟩ = some (.int .i64 iv) ∧ w'.cell? ⟨w.heap.size + 1, 4, none⟩ = some (.slice a4 li.length c4) ∧ w'.cell? ⟨w.heap.size + 1, 5, none⟩ = some (.int .i64 vk) ∧ w'.cell? ⟨w.heap.size + 1, 6, none⟩ = some (.int .i64 vv) ∧ w'.cell? ⟨w.heap.size + 1, 7, none⟩ = some (.slice a7 lv.length c7) ∧ w'.cell? ⟨w.heap.size + 1, 8, none⟩ = some (.int .i64 c) ∧ w'.cell? ⟨w.heap.size + 1, 9, none⟩ = some (.slice a9 lb.length c9) ∧ w'.cell? ⟨w.heap.size + 1, 10, none⟩ = some (.slice a10 le.length c10) ∧ w'.cell? ⟨bx, ox + n, none⟩ = some (.int .i64 y)) (first | (refine ⟨?_, ?_, ?_, ?_, ?_, ?_, ?_, ?_, ?_, ?_, ?_, ?_, ?_, ?_, ?_⟩ <;> assumption) | go_keep)
    (first
      | (go_at_call 144; refine (newSame (Lab.specLabelFlows _ _ _)).mono ?_; rintro e w4 ⟨rfl, hn4⟩; have xX_4 := (hn4.cell (cell_lt xX_3) (fun f => f) _).trans xX_3; have z4 : w3.heap.size ≤ w4.heap.size := hn4.size; have N4 : New w w4 := N3.trans hn4; have bA_4 := heap_new hn4 bA_3; have bS_4 := heap_new hn4 bS_3; clear bA_3_c0 bA_3_c1 bA_3_c2 bS_3_c0 bS_3_c1 bS_3_c2 bS_3_c3 bS_3_c4 bS_3_c5 bS_3_c6 bS_3_c7 bS_3_c8 bS_3_c9 bS_3_c10; clear bA_3 bS_3 hn4; clear xX_3; have bA_4_c0 := cell_of_heap bA_4 0; have bA_4_c1 := cell_of_heap bA_4 1; have bA_4_c2 := cell_of_heap bA_4 2; have bS_4_c0 := cell_of_heap bS_4 0; have bS_4_c1 := cell_of_heap bS_4 1; have bS_4_c2 := cell_of_heap bS_4 2; have bS_4_c3 := cell_of_heap bS_4 3; have bS_4_c4 := cell_of_heap bS_4 4; have bS_4_c5 := cell_of_heap bS_4 5; have bS_4_c6 := cell_of_heap bS_4 6; have bS_4_c7 := cell_of_heap bS_4 7; have bS_4_c8 := cell_of_heap bS_4 8; have bS_4_c9 := cell_of_heap bS_4 9; have bS_4_c10 := cell_of_heap bS_4 10)
      | (go_at_call 139; refine (LabE.Spec.label (hsa.out.new h1 N2) (hsb.out.new h1 N2) (hri.out.new h1 N2) (by omega) (by omega) hi2).mono ?_; rintro e w3 ⟨rfl, hn3⟩; have xX_3 := (hn3.cell (cell_lt xX_2) (fun f => f) _).trans xX_2; have z3 : w2.heap.size ≤ w3.heap.size := hn3.size; have N3 : New w w3 := N2.trans hn3; have bA_3 := heap_new hn3 bA_2; have bS_3 := heap_new hn3 bS_2; clear bA_2_c0 bA_2_c1 bA_2_c2 bS_2_c0 bS_2_c1 bS_2_c2 bS_2_c3 bS_2_c4 bS_2_c5 bS_2_c6 bS_2_c7 bS_2_c8 bS_2_c9 bS_2_c10; clear bA_2 bS_2 hn3; clear xX_2; have bA_3_c0 := cell_of_heap bA_3 0; have bA_3_c1 := cell_of_heap bA_3 1; have bA_3_c2 := cell_of_heap bA_3 2; have bS_3_c0 := cell_of_heap bS_3 0; have bS_3_c1 := cell_of_heap bS_3 1; have bS_3_c2 := cell_of_heap bS_3 2; have bS_3_c3 := cell_of_heap bS_3 3; have bS_3_c4 := cell_of_heap bS_3 4; have bS_3_c5 := cell_of_heap bS_3 5; have bS_3_c6 := cell_of_heap bS_3 6; have bS_3_c7 := cell_of_heap bS_3 7; have bS_3_c8 := cell_of_heap bS_3 8; have bS_3_c9 := cell_of_heap bS_3 9; have bS_3_c10 := cell_of_heap bS_3 10)
      | (go_at_call 139; refine (LabE.Spec.label (hsa.out.new h1 N1) (hsb.out.new h1 N1) (hrv.out.new h1 N1) (by omega) (by omega) hr).mono ?_; rintro e w2 ⟨rfl, hn2⟩; have xX_2 := (hn2.cell (cell_lt xX_1) (fun f => f) _).trans xX_1; have z2 : w0.drew.heap.size ≤ w2.heap.size := hn2.size; have N2 : New w w2 := N1.trans hn2; have bA_2 := heap_new hn2 bA_1; have bS_2 := heap_new hn2 bS_1; clear bA_1_c0 bA_1_c1 bA_1_c2 bS_1_c0 bS_1_c1 bS_1_c2 bS_1_c3 bS_1_c4 bS_1_c5 bS_1_c6 bS_1_c7 bS_1_c8 bS_1_c9 bS_1_c10; clear bA_1 bS_1 hn2; clear xX_1; have bA_2_c0 := cell_of_heap bA_2 0; have bA_2_c1 := cell_of_heap bA_2 1; have bA_2_c2 := cell_of_heap bA_2 2; have bS_2_c0 := cell_of_heap bS_2 0; have bS_2_c1 := cell_of_heap bS_2 1; have bS_2_c2 := cell_of_heap bS_2 2; have bS_2_c3 := cell_of_heap bS_2 3; have bS_2_c4 := cell_of_heap bS_2 4; have bS_2_c5 := cell_of_heap bS_2 5; have bS_2_c6 := cell_of_heap bS_2 6; have bS_2_c7 := cell_of_heap bS_2 7; have bS_2_c8 := cell_of_heap bS_2 8; have bS_2_c9 := cell_of_heap bS_2 9; have bS_2_c10 := cell_of_heap bS_2 10))
  cases hf : Lab.leL (bits .or .i64 (bits .or .i64 (lab xa xb (.node vk vv lv)) (lab xa xb (.node ik iv li))) x) y
  · have D1 := Lib.hid (D.out.trans (by rw [hf]; rfl : _ = (1 : Int)))
    clear hf D
    clear bA_4_c0 bA_4_c1 bA_4_c2 bS_4_c0 bS_4_c1 bS_4_c2 bS_4_c3 bS_4_c4 bS_4_c5 bS_4_c6 bS_4_c7 bS_4_c8 bS_4_c9 bS_4_c10
    obtain ⟨bA_4_c0, bA_4_c1, bA_4_c2⟩ := cells3 bA_4
    obtain ⟨bS_4_c0, bS_4_c1, bS_4_c2, bS_4_c3, bS_4_c4, bS_4_c5, bS_4_c6, bS_4_c7⟩ := cells8 bS_4
    have bS_4_c8 := cell_of_heap bS_4 8
    have bS_4_c9 := cell_of_heap bS_4 9
    have bS_4_c10 := cell_of_heap bS_4 10
    go_wp2
    go_ret
    exact ⟨retI D1.out.symm, N4⟩
  · have D1 := Lib.hid (D.out.trans (by rw [hf]; rfl : _ = (0 : Int)))
    clear hf D
    clear bA_4_c0 bA_4_c1 bA_4_c2 bS_4_c0 bS_4_c1 bS_4_c2 bS_4_c3 bS_4_c4 bS_4_c5 bS_4_c6 bS_4_c7 bS_4_c8 bS_4_c9 bS_4_c10
    obtain ⟨bA_4_c0, bA_4_c1, bA_4_c2⟩ := cells3 bA_4
    obtain ⟨bS_4_c0, bS_4_c1, bS_4_c2, bS_4_c3, bS_4_c4, bS_4_c5, bS_4_c6, bS_4_c7⟩ := cells8 bS_4
    have bS_4_c8 := cell_of_heap bS_4 8
    have bS_4_c9 := cell_of_heap bS_4 9
    have bS_4_c10 := cell_of_heap bS_4 10
    go_wp2
    go_ret
    exact ⟨retI D1.out.symm, N4⟩
set_option maxHeartbeats 8000000 in
theorem own3 {w : World} {lo hi : Nat} {ta tb tc : Value} {xa xb : List Int} {d : Nat} {t ik iv vk vv c x : Int} {si sv sd se : Value} {li lv : List Ex} {lb le : List St} (sa : IntsR w lo hi ta xa) (sb : IntsR w lo hi tb xb) (ri : KidsR w lo hi si li) (rv : KidsR w lo hi sv lv) (rb : StsR w lo hi sd lb) (re : StsR w lo hi se le) (h1 : hi ≤ w.heap.size) (hv : stB xa.length xb.length (.node 3 t (.node ik iv li) (.node vk vv lv) c lb le) d = true) :
    Calls Try.prog 138 #[.agg #[ta, tb, tc], .agg #[.int .i64 3, .int .i64 t, .int .i64 ik, .int .i64 iv, si, .int .i64 vk, .int .i64 vv, sv, .int .i64 c, sd, se], .int .i64 x, .bool false] w fun e w' => e = .returned (.int .i64 (ownS xa xb (.node 3 t (.node ik iv li) (.node vk vv lv) c lb le) x)) ∧ New w w' := by
  have hval := stB_val hv
  obtain ⟨hq1, hq2, hq3, hq4, hq5, hq6⟩ := hval
  clear hv
  obtain ⟨a1, d1, rfl, m1⟩ := sa.len
  obtain ⟨a2, d2, rfl, m2⟩ := sb.len
  obtain ⟨a4, c4, rfl, m4⟩ := ri.len
  obtain ⟨a7, c7, rfl, m7⟩ := rv.len
  obtain ⟨a9, c9, rfl, m9⟩ := rb.len
  obtain ⟨a10, c10, rfl, m10⟩ := re.len
  have hsa := Lib.hid sa
  have hsb := Lib.hid sb
  have hri := Lib.hid ri
  have hrv := Lib.hid rv
  have hrb := Lib.hid rb
  have hre := Lib.hid re
  clear sa sb ri rv rb re
  have D := Lib.hid (show ownS xa xb (.node 3 t (.node ik iv li) (.node vk vv lv) c lb le) x = 0 by rw [ownS_node]; rfl)
  clear hq1 hq2 hq3 hq4 hq5 hq6
  go_enter Try.func138, Try.ntmps138
  go_wp2_with fail
  have N0 : New w ((w.alloc (.cells #[.slice a1 xa.length d1, .slice a2 xb.length d2, tc] 33)).alloc (.cells #[.int .i64 3, .int .i64 t, .int .i64 ik, .int .i64 iv, .slice a4 li.length c4, .int .i64 vk, .int .i64 vv, .slice a7 lv.length c7, .int .i64 c, .slice a9 lb.length c9, .slice a10 le.length c10] 73)) := (((Kp.refl _ _).alloc _).alloc _)
  have bA_0 : ((w.alloc (.cells #[.slice a1 xa.length d1, .slice a2 xb.length d2, tc] 33)).alloc (.cells #[.int .i64 3, .int .i64 t, .int .i64 ik, .int .i64 iv, .slice a4 li.length c4, .int .i64 vk, .int .i64 vv, .slice a7 lv.length c7, .int .i64 c, .slice a9 lb.length c9, .slice a10 le.length c10] 73)).heap[w.heap.size]? = some (.cells #[.slice a1 xa.length d1, .slice a2 xb.length d2, tc] 33) := heap_old (alloc_heap _ _)
  have bS_0 : ((w.alloc (.cells #[.slice a1 xa.length d1, .slice a2 xb.length d2, tc] 33)).alloc (.cells #[.int .i64 3, .int .i64 t, .int .i64 ik, .int .i64 iv, .slice a4 li.length c4, .int .i64 vk, .int .i64 vv, .slice a7 lv.length c7, .int .i64 c, .slice a9 lb.length c9, .slice a10 le.length c10] 73)).heap[w.heap.size + 1]? = some (.cells #[.int .i64 3, .int .i64 t, .int .i64 ik, .int .i64 iv, .slice a4 li.length c4, .int .i64 vk, .int .i64 vv, .slice a7 lv.length c7, .int .i64 c, .slice a9 lb.length c9, .slice a10 le.length c10] 73) := heap_at (by simp)
  have z0 : w.heap.size + 1 < ((w.alloc (.cells #[.slice a1 xa.length d1, .slice a2 xb.length d2, tc] 33)).alloc (.cells #[.int .i64 3, .int .i64 t, .int .i64 ik, .int .i64 iv, .slice a4 li.length c4, .int .i64 vk, .int .i64 vv, .slice a7 lv.length c7, .int .i64 c, .slice a9 lb.length c9, .slice a10 le.length c10] 73)).heap.size := by simp
  generalize ((w.alloc (.cells #[.slice a1 xa.length d1, .slice a2 xb.length d2, tc] 33)).alloc (.cells #[.int .i64 3, .int .i64 t, .int .i64 ik, .int .i64 iv, .slice a4 li.length c4, .int .i64 vk, .int .i64 vv, .slice a7 lv.length c7, .int .i64 c, .slice a9 lb.length c9, .slice a10 le.length c10] 73)) = w0 at *
  obtain ⟨bA_0_c0, bA_0_c1, bA_0_c2⟩ := cells3 bA_0
  obtain ⟨bS_0_c0, bS_0_c1, bS_0_c2, bS_0_c3, bS_0_c4, bS_0_c5, bS_0_c6, bS_0_c7⟩ := cells8 bS_0
  have bS_0_c8 := cell_of_heap bS_0 8
  have bS_0_c9 := cell_of_heap bS_0 9
  have bS_0_c10 := cell_of_heap bS_0 10
  go_wp2
  go_ret
  exact ⟨retI D.out.symm, N0⟩
set_option maxHeartbeats 8000000 in
theorem own4 {w : World} {lo hi : Nat} {ta tb tc : Value} {xa xb : List Int} {d : Nat} {t ik iv vk vv c x : Int} {si sv sd se : Value} {li lv : List Ex} {lb le : List St} (sa : IntsR w lo hi ta xa) (sb : IntsR w lo hi tb xb) (ri : KidsR w lo hi si li) (rv : KidsR w lo hi sv lv) (rb : StsR w lo hi sd lb) (re : StsR w lo hi se le) (h1 : hi ≤ w.heap.size) (hv : stB xa.length xb.length (.node 4 t (.node ik iv li) (.node vk vv lv) c lb le) d = true) :
    Calls Try.prog 138 #[.agg #[ta, tb, tc], .agg #[.int .i64 4, .int .i64 t, .int .i64 ik, .int .i64 iv, si, .int .i64 vk, .int .i64 vv, sv, .int .i64 c, sd, se], .int .i64 x, .bool false] w fun e w' => e = .returned (.int .i64 (ownS xa xb (.node 4 t (.node ik iv li) (.node vk vv lv) c lb le) x)) ∧ New w w' := by
  have hval := stB_val hv
  obtain ⟨hq1, hq2, hq3, hq4, hq5, hq6⟩ := hval
  clear hv
  obtain ⟨a1, d1, rfl, m1⟩ := sa.len
  obtain ⟨a2, d2, rfl, m2⟩ := sb.len
  obtain ⟨a4, c4, rfl, m4⟩ := ri.len
  obtain ⟨a7, c7, rfl, m7⟩ := rv.len
  obtain ⟨a9, c9, rfl, m9⟩ := rb.len
  obtain ⟨a10, c10, rfl, m10⟩ := re.len
  have hsa := Lib.hid sa
  have hsb := Lib.hid sb
  have hri := Lib.hid ri
  have hrv := Lib.hid rv
  have hrb := Lib.hid rb
  have hre := Lib.hid re
  clear sa sb ri rv rb re
  have D := Lib.hid (show ownS xa xb (.node 4 t (.node ik iv li) (.node vk vv lv) c lb le) x = 0 by rw [ownS_node]; rfl)
  clear hq1 hq2 hq3 hq4 hq5 hq6
  go_enter Try.func138, Try.ntmps138
  go_wp2_with fail
  have N0 : New w ((w.alloc (.cells #[.slice a1 xa.length d1, .slice a2 xb.length d2, tc] 33)).alloc (.cells #[.int .i64 4, .int .i64 t, .int .i64 ik, .int .i64 iv, .slice a4 li.length c4, .int .i64 vk, .int .i64 vv, .slice a7 lv.length c7, .int .i64 c, .slice a9 lb.length c9, .slice a10 le.length c10] 73)) := (((Kp.refl _ _).alloc _).alloc _)
  have bA_0 : ((w.alloc (.cells #[.slice a1 xa.length d1, .slice a2 xb.length d2, tc] 33)).alloc (.cells #[.int .i64 4, .int .i64 t, .int .i64 ik, .int .i64 iv, .slice a4 li.length c4, .int .i64 vk, .int .i64 vv, .slice a7 lv.length c7, .int .i64 c, .slice a9 lb.length c9, .slice a10 le.length c10] 73)).heap[w.heap.size]? = some (.cells #[.slice a1 xa.length d1, .slice a2 xb.length d2, tc] 33) := heap_old (alloc_heap _ _)
  have bS_0 : ((w.alloc (.cells #[.slice a1 xa.length d1, .slice a2 xb.length d2, tc] 33)).alloc (.cells #[.int .i64 4, .int .i64 t, .int .i64 ik, .int .i64 iv, .slice a4 li.length c4, .int .i64 vk, .int .i64 vv, .slice a7 lv.length c7, .int .i64 c, .slice a9 lb.length c9, .slice a10 le.length c10] 73)).heap[w.heap.size + 1]? = some (.cells #[.int .i64 4, .int .i64 t, .int .i64 ik, .int .i64 iv, .slice a4 li.length c4, .int .i64 vk, .int .i64 vv, .slice a7 lv.length c7, .int .i64 c, .slice a9 lb.length c9, .slice a10 le.length c10] 73) := heap_at (by simp)
  have z0 : w.heap.size + 1 < ((w.alloc (.cells #[.slice a1 xa.length d1, .slice a2 xb.length d2, tc] 33)).alloc (.cells #[.int .i64 4, .int .i64 t, .int .i64 ik, .int .i64 iv, .slice a4 li.length c4, .int .i64 vk, .int .i64 vv, .slice a7 lv.length c7, .int .i64 c, .slice a9 lb.length c9, .slice a10 le.length c10] 73)).heap.size := by simp
  generalize ((w.alloc (.cells #[.slice a1 xa.length d1, .slice a2 xb.length d2, tc] 33)).alloc (.cells #[.int .i64 4, .int .i64 t, .int .i64 ik, .int .i64 iv, .slice a4 li.length c4, .int .i64 vk, .int .i64 vv, .slice a7 lv.length c7, .int .i64 c, .slice a9 lb.length c9, .slice a10 le.length c10] 73)) = w0 at *
  obtain ⟨bA_0_c0, bA_0_c1, bA_0_c2⟩ := cells3 bA_0
  obtain ⟨bS_0_c0, bS_0_c1, bS_0_c2, bS_0_c3, bS_0_c4, bS_0_c5, bS_0_c6, bS_0_c7⟩ := cells8 bS_0
  have bS_0_c8 := cell_of_heap bS_0 8
  have bS_0_c9 := cell_of_heap bS_0 9
  have bS_0_c10 := cell_of_heap bS_0 10
  go_wp2
  go_ret
  exact ⟨retI D.out.symm, N0⟩
set_option maxHeartbeats 8000000 in
theorem own5 {w : World} {lo hi : Nat} {ta tb tc : Value} {xa xb : List Int} {d : Nat} {t ik iv vk vv c x : Int} {si sv sd se : Value} {li lv : List Ex} {lb le : List St} (sa : IntsR w lo hi ta xa) (sb : IntsR w lo hi tb xb) (ri : KidsR w lo hi si li) (rv : KidsR w lo hi sv lv) (rb : StsR w lo hi sd lb) (re : StsR w lo hi se le) (h1 : hi ≤ w.heap.size) (hv : stB xa.length xb.length (.node 5 t (.node ik iv li) (.node vk vv lv) c lb le) d = true) :
    Calls Try.prog 138 #[.agg #[ta, tb, tc], .agg #[.int .i64 5, .int .i64 t, .int .i64 ik, .int .i64 iv, si, .int .i64 vk, .int .i64 vv, sv, .int .i64 c, sd, se], .int .i64 x, .bool false] w fun e w' => e = .returned (.int .i64 (ownS xa xb (.node 5 t (.node ik iv li) (.node vk vv lv) c lb le) x)) ∧ New w w' := by
  have hval := stB_val hv
  obtain ⟨hq1, hq2, hq3, hq4, hq5, hq6⟩ := hval
  clear hv
  obtain ⟨a1, d1, rfl, m1⟩ := sa.len
  obtain ⟨a2, d2, rfl, m2⟩ := sb.len
  obtain ⟨a4, c4, rfl, m4⟩ := ri.len
  obtain ⟨a7, c7, rfl, m7⟩ := rv.len
  obtain ⟨a9, c9, rfl, m9⟩ := rb.len
  obtain ⟨a10, c10, rfl, m10⟩ := re.len
  have hsa := Lib.hid sa
  have hsb := Lib.hid sb
  have hri := Lib.hid ri
  have hrv := Lib.hid rv
  have hrb := Lib.hid rb
  have hre := Lib.hid re
  clear sa sb ri rv rb re
  have hr : right xa.length xb.length (.node vk vv lv) = true := hq1 (show (5 : Int) ≠ 4 by decide)
  have D := Lib.hid (show ownS xa xb (.node 5 t (.node ik iv li) (.node vk vv lv) c lb le) x = if Lab.trustedB (lab xa xb (.node vk vv lv)) && x == 0 then 0 else 2 by rw [ownS_node]; rfl)
  clear hq1 hq2 hq3 hq4 hq5 hq6
  go_enter Try.func138, Try.ntmps138
  go_wp2_with fail
  have N0 : New w ((w.alloc (.cells #[.slice a1 xa.length d1, .slice a2 xb.length d2, tc] 33)).alloc (.cells #[.int .i64 5, .int .i64 t, .int .i64 ik, .int .i64 iv, .slice a4 li.length c4, .int .i64 vk, .int .i64 vv, .slice a7 lv.length c7, .int .i64 c, .slice a9 lb.length c9, .slice a10 le.length c10] 73)) := (((Kp.refl _ _).alloc _).alloc _)
  have bA_0 : ((w.alloc (.cells #[.slice a1 xa.length d1, .slice a2 xb.length d2, tc] 33)).alloc (.cells #[.int .i64 5, .int .i64 t, .int .i64 ik, .int .i64 iv, .slice a4 li.length c4, .int .i64 vk, .int .i64 vv, .slice a7 lv.length c7, .int .i64 c, .slice a9 lb.length c9, .slice a10 le.length c10] 73)).heap[w.heap.size]? = some (.cells #[.slice a1 xa.length d1, .slice a2 xb.length d2, tc] 33) := heap_old (alloc_heap _ _)
  have bS_0 : ((w.alloc (.cells #[.slice a1 xa.length d1, .slice a2 xb.length d2, tc] 33)).alloc (.cells #[.int .i64 5, .int .i64 t, .int .i64 ik, .int .i64 iv, .slice a4 li.length c4, .int .i64 vk, .int .i64 vv, .slice a7 lv.length c7, .int .i64 c, .slice a9 lb.length c9, .slice a10 le.length c10] 73)).heap[w.heap.size + 1]? = some (.cells #[.int .i64 5, .int .i64 t, .int .i64 ik, .int .i64 iv, .slice a4 li.length c4, .int .i64 vk, .int .i64 vv, .slice a7 lv.length c7, .int .i64 c, .slice a9 lb.length c9, .slice a10 le.length c10] 73) := heap_at (by simp)
  have z0 : w.heap.size + 1 < ((w.alloc (.cells #[.slice a1 xa.length d1, .slice a2 xb.length d2, tc] 33)).alloc (.cells #[.int .i64 5, .int .i64 t, .int .i64 ik, .int .i64 iv, .slice a4 li.length c4, .int .i64 vk, .int .i64 vv, .slice a7 lv.length c7, .int .i64 c, .slice a9 lb.length c9, .slice a10 le.length c10] 73)).heap.size := by simp
  generalize ((w.alloc (.cells #[.slice a1 xa.length d1, .slice a2 xb.length d2, tc] 33)).alloc (.cells #[.int .i64 5, .int .i64 t, .int .i64 ik, .int .i64 iv, .slice a4 li.length c4, .int .i64 vk, .int .i64 vv, .slice a7 lv.length c7, .int .i64 c, .slice a9 lb.length c9, .slice a10 le.length c10] 73)) = w0 at *
  obtain ⟨bA_0_c0, bA_0_c1, bA_0_c2⟩ := cells3 bA_0
  obtain ⟨bS_0_c0, bS_0_c1, bS_0_c2, bS_0_c3, bS_0_c4, bS_0_c5, bS_0_c6, bS_0_c7⟩ := cells8 bS_0
  have bS_0_c8 := cell_of_heap bS_0 8
  have bS_0_c9 := cell_of_heap bS_0 9
  have bS_0_c10 := cell_of_heap bS_0 10
  go_wp2_with fail
  refine (LabE.Spec.label (hsa.out.new h1 N0) (hsb.out.new h1 N0) (hrv.out.new h1 N0) (by omega) (by omega) hr).mono ?_
  rintro e w1 ⟨rfl, hn1⟩
  have z1 := hn1.size
  have N1 : New w w1 := N0.trans hn1
  have bA_1 := heap_new hn1 bA_0
  have bS_1 := heap_new hn1 bS_0
  clear bA_0_c0 bA_0_c1 bA_0_c2 bS_0_c0 bS_0_c1 bS_0_c2 bS_0_c3 bS_0_c4 bS_0_c5 bS_0_c6 bS_0_c7 bS_0_c8 bS_0_c9 bS_0_c10
  clear bA_0 bS_0 hn1
  obtain ⟨bA_1_c0, bA_1_c1, bA_1_c2⟩ := cells3 bA_1
  obtain ⟨bS_1_c0, bS_1_c1, bS_1_c2, bS_1_c3, bS_1_c4, bS_1_c5, bS_1_c6, bS_1_c7⟩ := cells8 bS_1
  have bS_1_c8 := cell_of_heap bS_1 8
  have bS_1_c9 := cell_of_heap bS_1 9
  have bS_1_c10 := cell_of_heap bS_1 10
  go_wp2_with fail
  refine (newSame (Lab.specLabelTrusted _ _)).mono ?_
  rintro e w2 ⟨rfl, hn2⟩
  have z2 := hn2.size
  have N2 : New w w2 := N1.trans hn2
  have bA_2 := heap_new hn2 bA_1
  have bS_2 := heap_new hn2 bS_1
  clear bA_1_c0 bA_1_c1 bA_1_c2 bS_1_c0 bS_1_c1 bS_1_c2 bS_1_c3 bS_1_c4 bS_1_c5 bS_1_c6 bS_1_c7 bS_1_c8 bS_1_c9 bS_1_c10
  clear bA_1 bS_1 hn2
  cases hf : Lab.trustedB (lab xa xb (.node vk vv lv))
  · have D1 := Lib.hid (D.out.trans (by rw [hf]; rfl : _ = (2 : Int)))
    clear hf D
    obtain ⟨bA_2_c0, bA_2_c1, bA_2_c2⟩ := cells3 bA_2
    obtain ⟨bS_2_c0, bS_2_c1, bS_2_c2, bS_2_c3, bS_2_c4, bS_2_c5, bS_2_c6, bS_2_c7⟩ := cells8 bS_2
    have bS_2_c8 := cell_of_heap bS_2 8
    have bS_2_c9 := cell_of_heap bS_2 9
    have bS_2_c10 := cell_of_heap bS_2 10
    go_wp2
    go_ret
    exact ⟨retI D1.out.symm, N2⟩
  · by_cases hx : x = 0
    · have D1 := Lib.hid (D.out.trans (by rw [hf, hx]; rfl : _ = (0 : Int)))
      have hxb : (x != 0) = false := by simp [hx]
      clear hf D hx
      obtain ⟨bA_2_c0, bA_2_c1, bA_2_c2⟩ := cells3 bA_2
      obtain ⟨bS_2_c0, bS_2_c1, bS_2_c2, bS_2_c3, bS_2_c4, bS_2_c5, bS_2_c6, bS_2_c7⟩ := cells8 bS_2
      have bS_2_c8 := cell_of_heap bS_2 8
      have bS_2_c9 := cell_of_heap bS_2 9
      have bS_2_c10 := cell_of_heap bS_2 10
      go_wp2
      go_ret
      exact ⟨retI D1.out.symm, N2⟩
    · have hxb : (x != 0) = true := by simp [hx]
      have hxc : (x == 0) = false := by simp [hx]
      have D1 := Lib.hid (D.out.trans (by rw [hf, hxc]; rfl : _ = (2 : Int)))
      clear hf D hx hxc
      obtain ⟨bA_2_c0, bA_2_c1, bA_2_c2⟩ := cells3 bA_2
      obtain ⟨bS_2_c0, bS_2_c1, bS_2_c2, bS_2_c3, bS_2_c4, bS_2_c5, bS_2_c6, bS_2_c7⟩ := cells8 bS_2
      have bS_2_c8 := cell_of_heap bS_2 8
      have bS_2_c9 := cell_of_heap bS_2 9
      have bS_2_c10 := cell_of_heap bS_2 10
      go_wp2
      go_ret
      exact ⟨retI D1.out.symm, N2⟩
theorem own {w : World} {lo hi : Nat} {ta tb tc : Value} {xa xb : List Int} {d : Nat} {k t ik iv vk vv c x : Int} {si sv sd se : Value} {li lv : List Ex} {lb le : List St} (sa : IntsR w lo hi ta xa) (sb : IntsR w lo hi tb xb) (ri : KidsR w lo hi si li) (rv : KidsR w lo hi sv lv) (rb : StsR w lo hi sd lb) (re : StsR w lo hi se le) (h1 : hi ≤ w.heap.size) (hv : stB xa.length xb.length (.node k t (.node ik iv li) (.node vk vv lv) c lb le) d = true) :
    Calls Try.prog 138 #[.agg #[ta, tb, tc], .agg #[.int .i64 k, .int .i64 t, .int .i64 ik, .int .i64 iv, si, .int .i64 vk, .int .i64 vv, sv, .int .i64 c, sd, se], .int .i64 x, .bool false] w fun e w' => e = .returned (.int .i64 (ownS xa xb (.node k t (.node ik iv li) (.node vk vv lv) c lb le) x)) ∧ New w w' := by
  have hq5 : 1 ≤ k := (stB_val hv).2.2.2.2.1
  have hq6 : k ≤ 5 := (stB_val hv).2.2.2.2.2
  have hk : k = 1 ∨ k = 2 ∨ k = 3 ∨ k = 4 ∨ k = 5 := by omega
  rcases hk with rfl | rfl | rfl | rfl | rfl
  · exact own1 sa sb ri rv rb re h1 hv
  · exact own2 sa sb ri rv rb re h1 hv
  · exact own3 sa sb ri rv rb re h1 hv
  · exact own4 sa sb ri rv rb re h1 hv
  · exact own5 sa sb ri rv rb re h1 hv
theorem stsN_drop {l : List St} {j : Nat} (h : j < l.length) : stsN (l.drop j) = stN l[j] + stsN (l.drop (j + 1)) := by rw [List.drop_eq_getElem_cons h, stsN]
def Does (n : Nat) : Prop := ∀ (w : World) (lo hi : Nat) (ta tb tc s : Value) (xa xb : List Int) (l : List St) (u u0 : Int) (d : Nat), St.sizes l < n → IntsR w lo hi ta xa → IntsR w lo hi tb xb → StsR w lo hi s l → hi ≤ w.heap.size → blB xa.length xb.length l d = true → 0 ≤ u0 → u0 + stsN l ≤ 4611686018427387904 →
  Calls Try.prog 117 #[.agg #[ta, tb, tc], s, .int .i64 u, .int .i64 u0, .bool false] w fun e w' => e = .returned (.tuple #[.int .i64 (flL (lab xa xb) (ownS xa xb) l u u0).1, .int .i64 (flL (lab xa xb) (ownS xa xb) l u u0).2]) ∧ New w w'
set_option maxHeartbeats 8000000 in
set_option maxRecDepth 100000 in
theorem block_step (n : Nat) (H : Does n) (w : World) (lo hi : Nat) (ta tb tc s : Value) (xa xb : List Int) (l : List St) (u u0 : Int) (d : Nat) (hl : St.sizes l ≤ n) (sa : IntsR w lo hi ta xa) (sb : IntsR w lo hi tb xb) (hs : StsR w lo hi s l) (h1 : hi ≤ w.heap.size) (hv : blB xa.length xb.length l d = true) (hu0 : 0 ≤ u0) (hu1 : u0 + stsN l ≤ 4611686018427387904) :
    Calls Try.prog 117 #[.agg #[ta, tb, tc], s, .int .i64 u, .int .i64 u0, .bool false] w fun e w' => e = .returned (.tuple #[.int .i64 (flL (lab xa xb) (ownS xa xb) l u u0).1, .int .i64 (flL (lab xa xb) (ownS xa xb) l u u0).2]) ∧ New w w' := by
  obtain ⟨a1, d1, rfl, m1⟩ := sa.len
  obtain ⟨a2, d2, rfl, m2⟩ := sb.len
  obtain ⟨a3, d3, rfl, m3⟩ := hs.len
  have HH := Lib.hid H
  have hsa := Lib.hid sa
  have hsb := Lib.hid sb
  have hsh := Lib.hid hs
  have hvh := Lib.hid hv
  clear H sa sb hs hv
  obtain ⟨m0, rfl⟩ := Int.eq_ofNat_of_zero_le hu0
  generalize hu : ((m0 : Nat) : Int) = u0 at *
  go_enter Try.func117, Try.ntmps117
  go_wp2_with fail
  have N0 : New w (w.alloc (.cells #[.slice a1 xa.length d1, .slice a2 xb.length d2, tc] 33)) := (Kp.refl _ _).alloc _
  have bA_0 := alloc_heap w (.cells #[.slice a1 xa.length d1, .slice a2 xb.length d2, tc] 33)
  have y0 : w.heap.size < (w.alloc (.cells #[.slice a1 xa.length d1, .slice a2 xb.length d2, tc] 33)).heap.size := by simp
  generalize w.alloc (.cells #[.slice a1 xa.length d1, .slice a2 xb.length d2, tc] 33) = w0 at *
  go_wp2_with fail
  go_loopw [3, 12] (fun q i wr => ∃ (j m : Nat), j ≤ l.length ∧ i = .int .i64 j ∧ q = .int .i64 m ∧ New w0 wr ∧ Hid (flL (lab xa xb) (ownS xa xb) l u u0 = flL (lab xa xb) (ownS xa xb) (l.drop j) u (m : Int)) ∧ (m : Int) + stsN (l.drop j) ≤ 4611686018427387904) (fun _ i _ => l.length - (intOf i).toNat)
  case atStart => exact ⟨0, m0, Nat.zero_le _, rfl, by rw [hu], Kp.refl _ _, Lib.hid (by rw [hu]; rfl), by rw [hu]; exact hu1⟩
  case round =>
    obtain ⟨j, m, hj, rfl, rfl, hNA, hG, hm⟩ := hrel
    have M1 := N0.trans hNA
    have zq := hNA.size
    have zr := M1.size
    have bA1 : wr.heap[w.heap.size]? = _ := heap_new hNA bA_0
    by_cases hlt : j < l.length
    · obtain ⟨b, o, vi, vv, vb, ve, e, A⟩ := (hsh.out.new h1 M1).elem j hlt
      cases e
      obtain ⟨a4, c4, rfl, _⟩ := A.ri.len
      obtain ⟨a7, c7, rfl, _⟩ := A.rv.len
      obtain ⟨a9, c9, rfl, _⟩ := A.rb.len
      obtain ⟨a10, c10, rfl, _⟩ := A.re.len
      have hp := St.parts_get l j hlt
      have hp1 : St.sizes l[j].body < n := by omega
      have hp2 : St.sizes l[j].els < n := by omega
      have hD := Lib.hid (flL_drop (lab xa xb) (ownS xa xb) u m hlt)
      have hok := blB_get _ _ _ hvh.out j hlt
      have hSN0 := stsN_drop hlt
      rw [stN_eq] at hSN0
      have hSN := Lib.hid (show (m : Int) + 1 + stsN l[j].body + stsN l[j].els + stsN (l.drop (j + 1)) ≤ 4611686018427387904 by omega)
      have hmb : (m : Int) + 1 + stsN l[j].body ≤ 4611686018427387904 := by omega
      have hokh := Lib.hid (show stB xa.length xb.length (.node l[j].kind l[j].target (.node l[j].index.kind l[j].index.val l[j].index.kids) (.node l[j].value.kind l[j].value.val l[j].value.kids) l[j].count l[j].body l[j].els) d = true ∧ ownS xa xb (.node l[j].kind l[j].target (.node l[j].index.kind l[j].index.val l[j].index.kids) (.node l[j].value.kind l[j].value.val l[j].value.kids) l[j].count l[j].body l[j].els) u = ownS xa xb l[j] u by
        have e : (St.node l[j].kind l[j].target (.node l[j].index.kind l[j].index.val l[j].index.kids) (.node l[j].value.kind l[j].value.val l[j].value.kids) l[j].count l[j].body l[j].els) = l[j] := by
          rcases l[j] with ⟨_, _, ⟨_, _, _⟩, ⟨_, _, _⟩, _, _, _⟩; rfl
        rw [e]; exact ⟨hok, rfl⟩)
      have hsub := stB_sub hok
      have HB := Lib.hid hsub.2.1
      have HL := Lib.hid hsub.2.2.1
      have HR := Lib.hid (show l[j].kind = 3 → right xa.length xb.length l[j].value = true ∧ l[j].value = .node l[j].value.kind l[j].value.val l[j].value.kids from fun q => ⟨hsub.2.2.2 q, by cases l[j].value; rfl⟩)
      have n1 : New wr (wr.alloc (.cells #[.int .i64 l[j].kind, .int .i64 l[j].target, .int .i64 l[j].index.kind, .int .i64 l[j].index.val, .slice a4 l[j].index.kids.length c4, .int .i64 l[j].value.kind, .int .i64 l[j].value.val, .slice a7 l[j].value.kids.length c7, .int .i64 l[j].count, .slice a9 l[j].body.length c9, .slice a10 l[j].els.length c10] 73)) := (Kp.refl _ _).alloc _
      have A1 := A.new (by omega) n1
      have r4 := Lib.hid A1.ri
      have r7 := Lib.hid A1.rv
      have r9 := Lib.hid A1.rb
      have r10 := Lib.hid A1.re
      obtain ⟨hblo, hbhi, e0, e1, e2, e3, e4, e5, e6, e7, e8, e9, e10, _, _, _, _⟩ := A
      have hbl : b < wr.heap.size := by omega
      have bA2 := heap_new n1 bA1
      have bS2 := alloc_heap wr (.cells #[.int .i64 l[j].kind, .int .i64 l[j].target, .int .i64 l[j].index.kind, .int .i64 l[j].index.val, .slice a4 l[j].index.kids.length c4, .int .i64 l[j].value.kind, .int .i64 l[j].value.val, .slice a7 l[j].value.kids.length c7, .int .i64 l[j].count, .slice a9 l[j].body.length c9, .slice a10 l[j].els.length c10] 73)
      have z1 : wr.heap.size < (wr.alloc (.cells #[.int .i64 l[j].kind, .int .i64 l[j].target, .int .i64 l[j].index.kind, .int .i64 l[j].index.val, .slice a4 l[j].index.kids.length c4, .int .i64 l[j].value.kind, .int .i64 l[j].value.val, .slice a7 l[j].value.kids.length c7, .int .i64 l[j].count, .slice a9 l[j].body.length c9, .slice a10 l[j].els.length c10] 73)).heap.size := by simp
      have M2 := M1.trans n1
      have NA2 := hNA.trans n1
      have h3 : hi ≤ (wr.alloc (.cells #[.int .i64 l[j].kind, .int .i64 l[j].target, .int .i64 l[j].index.kind, .int .i64 l[j].index.val, .slice a4 l[j].index.kids.length c4, .int .i64 l[j].value.kind, .int .i64 l[j].value.val, .slice a7 l[j].value.kids.length c7, .int .i64 l[j].count, .slice a9 l[j].body.length c9, .slice a10 l[j].els.length c10] 73)).heap.size := by omega
      obtain ⟨cA0, cA1, cA2⟩ := cells3 bA2
      clear A1 hp hok hsub n1 bA1 hSN0
      generalize l[j] = x at *
      go_wp2_with fail
      clear e0 e1 e2 e3 e4 e5 e6 e7 e8 e9 e10 cA0 cA1 cA2
      generalize hbo : wr.heap.size = bo at bS2 z1 ⊢
      generalize wr.alloc (.cells #[.int .i64 x.kind, .int .i64 x.target, .int .i64 x.index.kind, .int .i64 x.index.val, .slice a4 x.index.kids.length c4, .int .i64 x.value.kind, .int .i64 x.value.val, .slice a7 x.value.kids.length c7, .int .i64 x.count, .slice a9 x.body.length c9, .slice a10 x.els.length c10] 73) = w2 at *
      refine (own (x := u) (hsa.out.new h1 M2) (hsb.out.new h1 M2) r4.out r7.out r9.out r10.out (by omega) hokh.out.1).mono ?_
      rintro e w3 ⟨rfl, k3⟩
      rw [hokh.out.2]
      have z3 := k3.size
      have bA3 := heap_new k3 bA2
      have bS3 := heap_new k3 bS2
      have M3 := M2.trans k3
      have K3 : New w2 w3 := k3
      obtain ⟨r, hr⟩ : ∃ r, ownS xa xb x u = r := ⟨_, rfl⟩
      rw [hr]
      have hr0 := Lib.hid hr
      clear hr k3 bA2 bS2 hokh
      by_cases g0 : r = 0
      rotate_left
      · have hc2 : (r != 0) = true := by simp [g0]
        have D := Lib.hid (show flL (lab xa xb) (ownS xa xb) l u u0 = (r, (m : Int)) by
          have e : flS (lab xa xb) (ownS xa xb) x u m = (r, (m : Int)) := by rw [flS_eq, hr0.out, if_neg g0]
          rw [hG.out, hD.out, e, if_neg g0])
        clear hG hD hr0 g0 HH
        go_wp2
        refine bodyPost_ret (results_tmp2 rfl _ _ _) rfl ⟨?_, M3⟩
        rw [D.out]
        rfl
      subst g0
      by_cases k3 : x.kind = 3
      · have hk3 : (x.kind == 3) = true := by simp [k3]
        obtain ⟨cA0, cA1, cA2⟩ := cells3 bA3
        obtain ⟨cS0, cS1, cS2, cS3, cS4, cS5, cS6, cS7⟩ := cells8 bS3
        have cS8 := cell_of_heap bS3 8
        have cS9 := cell_of_heap bS3 9
        have cS10 := cell_of_heap bS3 10
        go_wp2_with fail
        have hrv := HR.out k3
        have hv2 := Lib.hid hrv.2
        have hr1 := Lib.hid (show right xa.length xb.length (.node x.value.kind x.value.val x.value.kids) = true by rw [← hrv.2]; exact hrv.1)
        clear hrv
        refine (LabE.Spec.label (k := x.value.kind) (v := x.value.val) (l := x.value.kids) (hsa.out.new h1 M3) (hsb.out.new h1 M3) (r7.out.new h3 K3) (by omega) (by omega) hr1.out).mono ?_
        rintro e w4 ⟨rfl, n4⟩
        have z4 := n4.size
        rw [← hv2.out]
        clear hv2 hr1
        clear cA0 cA1 cA2 cS0 cS1 cS2 cS3 cS4 cS5 cS6 cS7 cS8 cS9 cS10
        have bA4 := heap_new n4 bA3
        have bS4 := heap_new n4 bS3
        have M4 := M3.trans n4
        have K4 := K3.trans n4
        have hin := Lib.hid (show inCtx (lab xa xb) x.kind x.value u = bits .or .i64 u (lab xa xb x.value) by rw [inCtx, if_pos k3])
        clear bA3 bS3 n4 hk3 k3
        obtain ⟨⟨c1, n1⟩, hq1⟩ : ∃ p, flL (lab xa xb) (ownS xa xb) x.body (bits .or .i64 u (lab xa xb x.value)) ((m : Int) + 1) = p := ⟨_, rfl⟩
        have hq1h := Lib.hid hq1
        clear hq1
        obtain ⟨cA0, cA1, cA2⟩ := cells3 bA4
        obtain ⟨cS0, cS1, cS2, cS3, cS4, cS5, cS6, cS7⟩ := cells8 bS4
        have cS8 := cell_of_heap bS4 8
        have cS9 := cell_of_heap bS4 9
        have cS10 := cell_of_heap bS4 10
        go_wp2_with fail
        clear cA0 cA1 cA2 cS0 cS1 cS2 cS3 cS4 cS5 cS6 cS7 cS8 cS9 cS10
        refine (HH.out _ lo hi _ _ _ _ _ _ _ (bits .or .i64 u (lab xa xb x.value)) ((m : Int) + 1) (d - 1) hp1 (hsa.out.new h1 M4) (hsb.out.new h1 M4) (r9.out.new h3 K4) (by omega) HB.out (by omega) (by omega)).mono ?_
        rintro e w5 ⟨rfl, k5⟩
        rw [hq1h.out]
        have z5 := k5.size
        have bA5 := heap_new k5 bA4
        have bS5 := heap_new k5 bS4
        have M5 := M4.trans k5
        have K5 := K4.trans k5
        clear bA4 bS4 k5
        have hs0 := Lib.hid (show flS (lab xa xb) (ownS xa xb) x u m = if c1 = 0 then flL (lab xa xb) (ownS xa xb) x.els (bits .or .i64 u (lab xa xb x.value)) n1 else (c1, n1) by rw [flS_eq, hr0.out, if_pos rfl, hin.out, hq1h.out])
        by_cases g1 : c1 = 0
        rotate_left
        · have hc1 : (c1 == 0) = false := by simp [g1]
          have hc2 : (c1 != 0) = true := by simp [g1]
          have D := Lib.hid (show flL (lab xa xb) (ownS xa xb) l u u0 = (c1, n1) by rw [hG.out, hD.out, hs0.out, if_neg g1, if_neg g1])
          clear hG hD hs0 hq1h hr0 hin g1 HH
          go_wp2
          refine bodyPost_ret (results_tmp2 rfl _ _ _) rfl ⟨?_, M5⟩
          rw [D.out]
          rfl
        subst g1
        have hn1 := Lib.hid (show n1 = (m : Int) + 1 + stsN x.body by have := flL_n (lab xa xb) (ownS xa xb) x.body (bits .or .i64 u (lab xa xb x.value)) ((m : Int) + 1) (by rw [hq1h.out]); rw [hq1h.out] at this; exact this)
        have hb1 : 0 ≤ n1 ∧ n1 + (stsN x.els : Int) ≤ 4611686018427387904 := by have := hn1.out; have := hSN.out; omega
        obtain ⟨hb1a, hb1b⟩ := hb1
        obtain ⟨⟨c2, n2⟩, hq2⟩ : ∃ p, flL (lab xa xb) (ownS xa xb) x.els (bits .or .i64 u (lab xa xb x.value)) n1 = p := ⟨_, rfl⟩
        have hq2h := Lib.hid hq2
        clear hq2
        obtain ⟨cA0, cA1, cA2⟩ := cells3 bA5
        obtain ⟨cS0, cS1, cS2, cS3, cS4, cS5, cS6, cS7⟩ := cells8 bS5
        have cS8 := cell_of_heap bS5 8
        have cS9 := cell_of_heap bS5 9
        have cS10 := cell_of_heap bS5 10
        go_wp2_with fail
        clear cA0 cA1 cA2 cS0 cS1 cS2 cS3 cS4 cS5 cS6 cS7 cS8 cS9 cS10
        refine (HH.out _ lo hi _ _ _ _ _ _ _ (bits .or .i64 u (lab xa xb x.value)) n1 (d - 1) hp2 (hsa.out.new h1 M5) (hsb.out.new h1 M5) (r10.out.new h3 K5) (by omega) HL.out (by omega) (by omega)).mono ?_
        rintro e w6 ⟨rfl, k6⟩
        rw [hq2h.out]
        have M6 := M5.trans k6
        have N06 := NA2.trans (K5.trans k6)
        have hs1 := Lib.hid (show flS (lab xa xb) (ownS xa xb) x u m = (c2, n2) by rw [hs0.out, if_pos (by trivial), hq2h.out])
        by_cases g2 : c2 = 0
        rotate_left
        · have hc1 : (c2 == 0) = false := by simp [g2]
          have hc2 : (c2 != 0) = true := by simp [g2]
          have D := Lib.hid (show flL (lab xa xb) (ownS xa xb) l u u0 = (c2, n2) by rw [hG.out, hD.out, hs1.out, if_neg g2])
          clear hG hD hs0 hs1 hq1h hq2h hr0 hin g2 HH hn1
          go_wp2
          refine bodyPost_ret (results_tmp2 rfl _ _ _) rfl ⟨?_, M6⟩
          rw [D.out]
          rfl
        subst g2
        have hn2 := Lib.hid (show n2 = n1 + stsN x.els by have := flL_n (lab xa xb) (ownS xa xb) x.els (bits .or .i64 u (lab xa xb x.value)) n1 (by rw [hq2h.out]); rw [hq2h.out] at this; exact this)
        obtain ⟨n3, hn3⟩ : ∃ n3 : Nat, n2 = n3 := ⟨n2.toNat, by have := hn2.out; have := hn1.out; omega⟩
        subst hn3
        have hgo := Lib.hid (show flL (lab xa xb) (ownS xa xb) l u u0 = flL (lab xa xb) (ownS xa xb) (l.drop (j + 1)) u (n3 : Int) by rw [hG.out, hD.out, hs1.out, if_pos rfl])
        have hm2 : (n3 : Int) + stsN (l.drop (j + 1)) ≤ 4611686018427387904 := by have := hn2.out; have := hn1.out; have := hSN.out; omega
        clear hG hD hs0 hs1 hq1h hq2h hr0 hin hn1 hn2 hb1a hb1b hm hSN
        go_wp2
        go_roundw
        case rel => exact ⟨j + 1, n3, by omega, by go_num, rfl, N06, hgo, hm2⟩
        case measure => simp [intOf]; omega
      · have hk3 : (x.kind == 3) = false := by simp [k3]
        have hin := Lib.hid (show inCtx (lab xa xb) x.kind x.value u = u by rw [inCtx, if_neg k3])
        have bA4 := bA3
        have bS4 := bS3
        have M4 := M3
        have K4 := K3
        have z4 : w3.heap.size ≤ w3.heap.size := Nat.le_refl _
        clear bA3 bS3 k3
        obtain ⟨⟨c1, n1⟩, hq1⟩ : ∃ p, flL (lab xa xb) (ownS xa xb) x.body u ((m : Int) + 1) = p := ⟨_, rfl⟩
        have hq1h := Lib.hid hq1
        clear hq1
        obtain ⟨cA0, cA1, cA2⟩ := cells3 bA4
        obtain ⟨cS0, cS1, cS2, cS3, cS4, cS5, cS6, cS7⟩ := cells8 bS4
        have cS8 := cell_of_heap bS4 8
        have cS9 := cell_of_heap bS4 9
        have cS10 := cell_of_heap bS4 10
        go_wp2_with fail
        clear cA0 cA1 cA2 cS0 cS1 cS2 cS3 cS4 cS5 cS6 cS7 cS8 cS9 cS10
        refine (HH.out _ lo hi _ _ _ _ _ _ _ u ((m : Int) + 1) (d - 1) hp1 (hsa.out.new h1 M4) (hsb.out.new h1 M4) (r9.out.new h3 K4) (by omega) HB.out (by omega) (by omega)).mono ?_
        rintro e w5 ⟨rfl, k5⟩
        rw [hq1h.out]
        have z5 := k5.size
        have bA5 := heap_new k5 bA4
        have bS5 := heap_new k5 bS4
        have M5 := M4.trans k5
        have K5 := K4.trans k5
        clear bA4 bS4 k5
        have hs0 := Lib.hid (show flS (lab xa xb) (ownS xa xb) x u m = if c1 = 0 then flL (lab xa xb) (ownS xa xb) x.els u n1 else (c1, n1) by rw [flS_eq, hr0.out, if_pos rfl, hin.out, hq1h.out])
        by_cases g1 : c1 = 0
        rotate_left
        · have hc1 : (c1 == 0) = false := by simp [g1]
          have hc2 : (c1 != 0) = true := by simp [g1]
          have D := Lib.hid (show flL (lab xa xb) (ownS xa xb) l u u0 = (c1, n1) by rw [hG.out, hD.out, hs0.out, if_neg g1, if_neg g1])
          clear hG hD hs0 hq1h hr0 hin g1 HH
          go_wp2
          refine bodyPost_ret (results_tmp2 rfl _ _ _) rfl ⟨?_, M5⟩
          rw [D.out]
          rfl
        subst g1
        have hn1 := Lib.hid (show n1 = (m : Int) + 1 + stsN x.body by have := flL_n (lab xa xb) (ownS xa xb) x.body u ((m : Int) + 1) (by rw [hq1h.out]); rw [hq1h.out] at this; exact this)
        have hb1 : 0 ≤ n1 ∧ n1 + (stsN x.els : Int) ≤ 4611686018427387904 := by have := hn1.out; have := hSN.out; omega
        obtain ⟨hb1a, hb1b⟩ := hb1
        obtain ⟨⟨c2, n2⟩, hq2⟩ : ∃ p, flL (lab xa xb) (ownS xa xb) x.els u n1 = p := ⟨_, rfl⟩
        have hq2h := Lib.hid hq2
        clear hq2
        obtain ⟨cA0, cA1, cA2⟩ := cells3 bA5
        obtain ⟨cS0, cS1, cS2, cS3, cS4, cS5, cS6, cS7⟩ := cells8 bS5
        have cS8 := cell_of_heap bS5 8
        have cS9 := cell_of_heap bS5 9
        have cS10 := cell_of_heap bS5 10
        go_wp2_with fail
        clear cA0 cA1 cA2 cS0 cS1 cS2 cS3 cS4 cS5 cS6 cS7 cS8 cS9 cS10
        refine (HH.out _ lo hi _ _ _ _ _ _ _ u n1 (d - 1) hp2 (hsa.out.new h1 M5) (hsb.out.new h1 M5) (r10.out.new h3 K5) (by omega) HL.out (by omega) (by omega)).mono ?_
        rintro e w6 ⟨rfl, k6⟩
        rw [hq2h.out]
        have M6 := M5.trans k6
        have N06 := NA2.trans (K5.trans k6)
        have hs1 := Lib.hid (show flS (lab xa xb) (ownS xa xb) x u m = (c2, n2) by rw [hs0.out, if_pos (by trivial), hq2h.out])
        by_cases g2 : c2 = 0
        rotate_left
        · have hc1 : (c2 == 0) = false := by simp [g2]
          have hc2 : (c2 != 0) = true := by simp [g2]
          have D := Lib.hid (show flL (lab xa xb) (ownS xa xb) l u u0 = (c2, n2) by rw [hG.out, hD.out, hs1.out, if_neg g2])
          clear hG hD hs0 hs1 hq1h hq2h hr0 hin g2 HH hn1
          go_wp2
          refine bodyPost_ret (results_tmp2 rfl _ _ _) rfl ⟨?_, M6⟩
          rw [D.out]
          rfl
        subst g2
        have hn2 := Lib.hid (show n2 = n1 + stsN x.els by have := flL_n (lab xa xb) (ownS xa xb) x.els u n1 (by rw [hq2h.out]); rw [hq2h.out] at this; exact this)
        obtain ⟨n3, hn3⟩ : ∃ n3 : Nat, n2 = n3 := ⟨n2.toNat, by have := hn2.out; have := hn1.out; omega⟩
        subst hn3
        have hgo := Lib.hid (show flL (lab xa xb) (ownS xa xb) l u u0 = flL (lab xa xb) (ownS xa xb) (l.drop (j + 1)) u (n3 : Int) by rw [hG.out, hD.out, hs1.out, if_pos rfl])
        have hm2 : (n3 : Int) + stsN (l.drop (j + 1)) ≤ 4611686018427387904 := by have := hn2.out; have := hn1.out; have := hSN.out; omega
        clear hG hD hs0 hs1 hq1h hq2h hr0 hin hn1 hn2 hb1a hb1b hm hSN
        go_wp2
        go_roundw
        case rel => exact ⟨j + 1, n3, by omega, by go_num, rfl, N06, hgo, hm2⟩
        case measure => simp [intOf]; omega
    · have hfin := Lib.hid (show flL (lab xa xb) (ownS xa xb) l u u0 = (0, (m : Int)) by have h := hG.out; rw [List.drop_of_length_le (by omega)] at h; exact h)
      have hge : l.length ≤ j := by omega
      clear hG
      go_wp2
      refine bodyPost_ret (results_tmp2 rfl _ _ _) rfl ⟨?_, M1⟩
      rw [hfin.out]
      rfl
theorem block : ∀ n, Does n
  | 0 => fun w lo hi ta tb tc s xa xb l u u0 d hl => absurd hl (Nat.not_lt_zero _)
  | n + 1 => fun w lo hi ta tb tc s xa xb l u u0 d hl h1 h2 h3 h4 h5 h6 h7 => block_step n (block n) w lo hi ta tb tc s xa xb l u u0 d (Nat.le_of_lt_succ hl) h1 h2 h3 h4 h5 h6 h7
set_option maxHeartbeats 4000000 in
theorem check {w : World} {lo hi : Nat} {ta tb tc : Value} {xa xb : List Int} {l : List St} (sa : IntsR w lo hi ta xa) (sb : IntsR w lo hi tb xb) (s : StsR w lo hi tc l) (h1 : hi ≤ w.heap.size) (hm : St.sizes l ≤ 1048576) :
    Calls Try.prog 85 #[.agg #[ta, tb, tc], .bool false] w fun e w' => e = .returned (.tuple #[.int .i64 (flowB xa xb l).1, .int .i64 (flowB xa xb l).2]) ∧ New w w' := by
  obtain ⟨a1, d1, rfl, m1⟩ := sa.len
  obtain ⟨a2, d2, rfl, m2⟩ := sb.len
  obtain ⟨a3, d3, rfl, m3⟩ := s.len
  obtain ⟨r, hr⟩ : ∃ r, flowB xa xb l = r := ⟨_, rfl⟩
  rw [hr]
  have hrh := Lib.hid hr
  clear hr
  go_enter Try.func85, Try.ntmps85
  go_wp2_with fail
  have N0 : New w (w.alloc (.cells #[.slice a1 xa.length d1, .slice a2 xb.length d2, .slice a3 l.length d3] 33)) := ((Kp.refl _ _).alloc _)
  have bA_0 : (w.alloc (.cells #[.slice a1 xa.length d1, .slice a2 xb.length d2, .slice a3 l.length d3] 33)).heap[w.heap.size]? = some (.cells #[.slice a1 xa.length d1, .slice a2 xb.length d2, .slice a3 l.length d3] 33) := alloc_heap _ _
  have z0 : w.heap.size < (w.alloc (.cells #[.slice a1 xa.length d1, .slice a2 xb.length d2, .slice a3 l.length d3] 33)).heap.size := by simp
  generalize (w.alloc (.cells #[.slice a1 xa.length d1, .slice a2 xb.length d2, .slice a3 l.length d3] 33)) = w0 at *
  obtain ⟨bA_0_c0, bA_0_c1, bA_0_c2⟩ := cells3 bA_0
  go_wp2_with fail
  refine (PgmV.specP (sa.new h1 N0) (sb.new h1 N0) (s.new h1 N0) (by omega) hm).mono ?_
  rintro e w1 ⟨rfl, hn1⟩
  have z1 := hn1.size
  have N1 : New w w1 := N0.trans hn1
  have bA_1 := heap_new hn1 bA_0
  clear bA_0_c0 bA_0_c1 bA_0_c2
  clear bA_0 hn1
  cases b1 : progB xa xb l
  · obtain ⟨bA_1_c0, bA_1_c1, bA_1_c2⟩ := cells3 bA_1
    obtain rfl : r = (5, -1) := by rw [← hrh.out, flowB, b1]; rfl
    clear b1 hrh
    go_wp2
    exact bodyPost_ret (results_tmp2 rfl _ _ _) rfl ⟨rfl, N1⟩
  have Hb := Lib.hid b1
  have hr2 : flowOf (flL (lab xa xb) (ownS xa xb) l 0 0) = r := by rw [← hrh.out, flowB, b1]; rfl
  have hr2h := Lib.hid hr2
  clear b1 hrh hr2
  obtain ⟨⟨c1, n1⟩, hq⟩ : ∃ p, flL (lab xa xb) (ownS xa xb) l 0 0 = p := ⟨_, rfl⟩
  have hqh := Lib.hid hq
  clear hq
  obtain ⟨bA_1_c0, bA_1_c1, bA_1_c2⟩ := cells3 bA_1
  go_wp2_with fail
  refine (block _ _ lo hi _ _ _ _ _ _ _ 0 0 5 (Nat.lt_succ_self _) (sa.new h1 N1) (sb.new h1 N1) (s.new h1 N1) (by omega) (valid_bl Hb.out) (by omega) (by have := (valid_N Hb.out).1; omega)).mono ?_
  rintro e w2 ⟨rfl, hn2⟩
  have z2 := hn2.size
  have N2 : New w w2 := N1.trans hn2
  have bA_2 := heap_new hn2 bA_1
  clear bA_1_c0 bA_1_c1 bA_1_c2
  clear bA_1 hn2
  rw [hqh.out]
  by_cases g : c1 = 0
  · subst g
    obtain rfl : r = (0, -1) := by rw [← hr2h.out, hqh.out]; rfl
    clear hr2h hqh Hb
    obtain ⟨bA_2_c0, bA_2_c1, bA_2_c2⟩ := cells3 bA_2
    go_wp2
    exact bodyPost_ret (results_tmp2 rfl _ _ _) rfl ⟨rfl, N2⟩
  · have hc : (c1 == 0) = false := by simp [g]
    obtain rfl : r = (c1, n1) := by rw [← hr2h.out, hqh.out, flowOf, if_neg g]
    clear hr2h hqh Hb g
    obtain ⟨bA_2_c0, bA_2_c1, bA_2_c2⟩ := cells3 bA_2
    go_wp2
    exact bodyPost_ret (results_tmp2 rfl _ _ _) rfl ⟨rfl, N2⟩
set_option maxHeartbeats 4000000 in
theorem specC {w : World} {lo hi : Nat} {ta tb tc : Value} {xa xb : List Int} {l : List St} (sa : IntsR w lo hi ta xa) (sb : IntsR w lo hi tb xb) (s : StsR w lo hi tc l) (h1 : hi ≤ w.heap.size) (hm : St.sizes l ≤ 1048576) :
    Calls Try.prog 39 #[.agg #[ta, tb, tc]] w fun e w' => e = .returned (.tuple #[.int .i64 (flowB xa xb l).1, .int .i64 (flowB xa xb l).2]) ∧ New w w' := by
  obtain ⟨a1, d1, rfl, m1⟩ := sa.len
  obtain ⟨a2, d2, rfl, m2⟩ := sb.len
  obtain ⟨a3, d3, rfl, m3⟩ := s.len
  obtain ⟨r, hr⟩ : ∃ r, flowB xa xb l = r := ⟨_, rfl⟩
  rw [hr]
  have hrh := Lib.hid hr
  clear hr
  go_enter Try.func39, Try.ntmps39
  go_wp2_with fail
  have N0 : New w (w.alloc (.cells #[.slice a1 xa.length d1, .slice a2 xb.length d2, .slice a3 l.length d3] 33)) := ((Kp.refl _ _).alloc _)
  have bA_0 : (w.alloc (.cells #[.slice a1 xa.length d1, .slice a2 xb.length d2, .slice a3 l.length d3] 33)).heap[w.heap.size]? = some (.cells #[.slice a1 xa.length d1, .slice a2 xb.length d2, .slice a3 l.length d3] 33) := alloc_heap _ _
  have z0 : w.heap.size < (w.alloc (.cells #[.slice a1 xa.length d1, .slice a2 xb.length d2, .slice a3 l.length d3] 33)).heap.size := by simp
  generalize (w.alloc (.cells #[.slice a1 xa.length d1, .slice a2 xb.length d2, .slice a3 l.length d3] 33)) = w0 at *
  obtain ⟨bA_0_c0, bA_0_c1, bA_0_c2⟩ := cells3 bA_0
  go_wp2_with fail
  refine (check (sa.new h1 N0) (sb.new h1 N0) (s.new h1 N0) (by omega) hm).mono ?_
  rintro e w1 ⟨rfl, hn1⟩
  have z1 := hn1.size
  have N1 : New w w1 := N0.trans hn1
  have bA_1 := heap_new hn1 bA_0
  clear bA_0_c0 bA_0_c1 bA_0_c2
  clear bA_0 hn1
  rw [hrh.out]
  clear hrh
  obtain ⟨bA_1_c0, bA_1_c1, bA_1_c2⟩ := cells3 bA_1
  go_wp2
  exact bodyPost_ret (results_tmp2 rfl _ _ _) rfl ⟨rfl, N1⟩
end Go.Proofs.Ytbnhhmgdkiomoaa.FlowS
