/- MachineValid of spec and of impl. No conditions. -/
import Derived.Test.YtljokgoghphgdaaWP5
import Derived.Deep.RegionHeld3
import Derived.Test.YtljokgoghphgdaaWP1
namespace Go.Proofs.Ytljokgoghphgdaa.Val
def machB (xa xb : List Int) (x : List Ins) (pc : Int) (yr ya : List Int) (yb : List (List Int)) : Bool := codeB xa xb x && decide (0 ≤ pc) && decide (pc < x.length) && decide (yr.length = 14) && okVs yr && fitB xa.length xb.length ya yb
end Go.Proofs.Ytljokgoghphgdaa.Val
namespace Go.Proofs.Ytljokgoghphgdaa.MachV
open Go.RowKit Kit Val
set_option linter.unusedVariables false
set_option maxHeartbeats 8000000 in
theorem specV {w : World} {lo hi lo' hi' : Nat} {ta tb tc mr ma mb : Value} {pc : Int} {xa xb yr ya : List Int} {x : List Ins} {yb : List (List Int)} (sa : IntsR w lo hi ta xa) (sb : IntsR w lo hi tb xb) (s : InssR w lo hi tc x) (rr : IntsR w lo' hi' mr yr) (ra : IntsR w lo' hi' ma ya) (rb : MatR w lo' hi' mb yb) (h1 : hi ≤ w.heap.size) (h2 : hi' ≤ w.heap.size) :
    Calls Try.prog 50 #[.agg #[ta, tb, tc], .agg #[.int .i64 pc, mr, ma, mb]] w fun e w' => e = .returned (.bool (machB xa xb x pc yr ya yb)) ∧ New w w' := by
  obtain ⟨a, c, rfl, m1⟩ := sa.len
  obtain ⟨a1, c1, rfl, m2⟩ := sb.len
  obtain ⟨a2, c2, rfl, m3⟩ := s.len
  obtain ⟨a3, c3, rfl, m4⟩ := rr.len
  obtain ⟨a4, c4, rfl, m5⟩ := ra.len
  obtain ⟨a5, c5, rfl, m6⟩ := rb.len
  go_enter Try.func50, Try.ntmps50
  go_wp2_with fail
  have N0 : New w ((w.alloc (.cells #[.slice a xa.length c, .slice a1 xb.length c1, .slice a2 x.length c2] 26)).alloc (.cells #[.int .i64 pc, .slice a3 yr.length c3, .slice a4 ya.length c4, .slice a5 yb.length c5] 31)) := (((Kp.refl _ _).alloc _).alloc _)
  have bA_0 : ((w.alloc (.cells #[.slice a xa.length c, .slice a1 xb.length c1, .slice a2 x.length c2] 26)).alloc (.cells #[.int .i64 pc, .slice a3 yr.length c3, .slice a4 ya.length c4, .slice a5 yb.length c5] 31)).heap[w.heap.size]? = some (.cells #[.slice a xa.length c, .slice a1 xb.length c1, .slice a2 x.length c2] 26) := heap_old (alloc_heap _ _)
  have bB_0 : ((w.alloc (.cells #[.slice a xa.length c, .slice a1 xb.length c1, .slice a2 x.length c2] 26)).alloc (.cells #[.int .i64 pc, .slice a3 yr.length c3, .slice a4 ya.length c4, .slice a5 yb.length c5] 31)).heap[w.heap.size + 1]? = some (.cells #[.int .i64 pc, .slice a3 yr.length c3, .slice a4 ya.length c4, .slice a5 yb.length c5] 31) := heap_at (by simp)
  have z0 : w.heap.size + 1 < ((w.alloc (.cells #[.slice a xa.length c, .slice a1 xb.length c1, .slice a2 x.length c2] 26)).alloc (.cells #[.int .i64 pc, .slice a3 yr.length c3, .slice a4 ya.length c4, .slice a5 yb.length c5] 31)).heap.size := by simp
  generalize ((w.alloc (.cells #[.slice a xa.length c, .slice a1 xb.length c1, .slice a2 x.length c2] 26)).alloc (.cells #[.int .i64 pc, .slice a3 yr.length c3, .slice a4 ya.length c4, .slice a5 yb.length c5] 31)) = w0 at *
  obtain ⟨bA_0_c0, bA_0_c1, bA_0_c2⟩ := cells3 bA_0
  obtain ⟨bB_0_c0, bB_0_c1, bB_0_c2, bB_0_c3⟩ := cells4 bB_0
  have N0d : New w w0.drew := N0.drew
  have z0d : w.heap.size + 1 < w0.drew.heap.size := by simpa using z0
  have bA_0d : w0.drew.heap[w.heap.size]? = some (.cells #[.slice a xa.length c, .slice a1 xb.length c1, .slice a2 x.length c2] 26) := bA_0
  have bB_0d : w0.drew.heap[w.heap.size + 1]? = some (.cells #[.int .i64 pc, .slice a3 yr.length c3, .slice a4 ya.length c4, .slice a5 yb.length c5] 31) := bB_0
  cases hcv0 : codeB xa xb x
  · have D := Lib.hid (show machB xa xb x pc yr ya yb = false by rw [machB, hcv0]; rfl)
    have hcv := Lib.hid hcv0
    clear hcv0
    go_wp2_with fail
    refine wp_region_held_drew (S := fun w' => w'.cell? ⟨w.heap.size, 0, none⟩ = some (.slice a xa.length c) ∧ w'.cell? ⟨w.heap.size, 1, none⟩ = some (.slice a1 xb.length c1) ∧ w'.cell? ⟨w.heap.size, 2, none⟩ = some (.slice a2 x.length c2) ∧ w'.cell? ⟨w.heap.size + 1, 0, none⟩ = some (.int .i64 pc) ∧ w'.cell? ⟨w.heap.size + 1, 1, none⟩ = some (.slice a3 yr.length c3) ∧ w'.cell? ⟨w.heap.size + 1, 2, none⟩ = some (.slice a4 ya.length c4) ∧ w'.cell? ⟨w.heap.size + 1, 3, none⟩ = some (.slice a5 yb.length c5)) (by kernel_rfl) ?_ (fun hHeld => ?_)
    · exact ⟨bA_0_c0, bA_0_c1, bA_0_c2, bB_0_c0, bB_0_c1, bB_0_c2, bB_0_c3⟩
    refine HT 0 rfl ?_
    try simp only [AP]
    refine HR 1 rfl fun K hK => ?_
    go_simp
    refine (CodeW.specV (sa.new h1 N0d) (sb.new h1 N0d) (s.new h1 N0d) (by omega)).mono ?_
    rintro e w1 ⟨rfl, hn1⟩
    have N1 := N0d.trans hn1
    have z1 := hn1.size
    have bA_1 := heap_new hn1 bA_0d
    have bB_1 := heap_new hn1 bB_0d
    obtain ⟨bA_1_c0, bA_1_c1, bA_1_c2⟩ := cells3 bA_1
    obtain ⟨bB_1_c0, bB_1_c1, bB_1_c2, bB_1_c3⟩ := cells4 bB_1
    rw [hcv.out]
    go_simp
    refine hK.out _ _ ?_ (fun hHeld2 => ?_)
    · exact ⟨bA_1_c0, bA_1_c1, bA_1_c2, bB_1_c0, bB_1_c1, bB_1_c2, bB_1_c3⟩
    clear hK K hHeld
    have hHeld := hHeld2
    clear hHeld2
    try simp only [AP]
    refine HT 2 rfl ?_
    try simp only [AP]
    refine HS 3 rfl ?_
    try simp only [AP]
    refine HS 4 rfl ?_
    try simp only [AP]
    refine HS 5 rfl ?_
    try simp only [AP]
    refine HT 6 rfl ?_
    try simp only [AP]
    refine HT 7 rfl ?_
    try simp only [AP]
    refine HS 8 rfl ?_
    try simp only [AP]
    refine HS 9 rfl ?_
    try simp only [AP]
    refine HS 10 rfl ?_
    try simp only [AP]
    refine HS 11 rfl ?_
    try simp only [AP]
    refine HS 12 rfl ?_
    try simp only [AP]
    refine HS 13 rfl ?_
    try simp only [AP]
    refine HT 14 rfl ?_
    try simp only [AP]
    refine HT 15 rfl ?_
    try simp only [AP]
    refine HS 16 rfl ?_
    try simp only [AP]
    refine HS 17 rfl ?_
    try simp only [AP]
    refine HS 18 rfl ?_
    try simp only [AP]
    refine HS 19 rfl ?_
    try simp only [AP]
    refine HT 20 rfl ?_
    try simp only [AP]
    refine HT 21 rfl ?_
    try simp only [AP]
    refine HS 22 rfl ?_
    try simp only [AP]
    refine HS 23 rfl ?_
    try simp only [AP]
    refine HS 24 rfl ?_
    try simp only [AP]
    refine HT 25 rfl ?_
    try simp only [AP]
    refine HT 26 rfl ?_
    try simp only [AP]
    refine HS 27 rfl ?_
    try simp only [AP]
    refine HS 28 rfl ?_
    try simp only [AP]
    refine HS 29 rfl ?_
    try simp only [AP]
    refine HS 30 rfl ?_
    try simp only [AP]
    refine HS 31 rfl ?_
    try simp only [AP]
    refine HT 32 rfl ?_
    try simp only [AP]
    refine HT 33 rfl ?_
    try simp only [AP]
    refine wpAnyH_done (by kernel_rfl) ?_ _
    go_wp2
    go_ret
    exact ⟨retB D.out.symm, N1⟩
  have hcv := Lib.hid hcv0
  clear hcv0
  by_cases g1 : 0 ≤ pc
  rotate_left
  · have D := Lib.hid (show machB xa xb x pc yr ya yb = false by
      have e : decide (0 ≤ pc) = false := by rw [decide_eq_false_iff_not]; exact g1
      rw [machB, e]; simp)
    have e1 : decide (0 ≤ pc) = false := by rw [decide_eq_false_iff_not]; exact g1
    have e1b : pc < 0 := by omega
    clear g1
    go_wp2_with fail
    refine wp_region_held_drew (S := fun w' => w'.cell? ⟨w.heap.size, 0, none⟩ = some (.slice a xa.length c) ∧ w'.cell? ⟨w.heap.size, 1, none⟩ = some (.slice a1 xb.length c1) ∧ w'.cell? ⟨w.heap.size, 2, none⟩ = some (.slice a2 x.length c2) ∧ w'.cell? ⟨w.heap.size + 1, 0, none⟩ = some (.int .i64 pc) ∧ w'.cell? ⟨w.heap.size + 1, 1, none⟩ = some (.slice a3 yr.length c3) ∧ w'.cell? ⟨w.heap.size + 1, 2, none⟩ = some (.slice a4 ya.length c4) ∧ w'.cell? ⟨w.heap.size + 1, 3, none⟩ = some (.slice a5 yb.length c5)) (by kernel_rfl) ?_ (fun hHeld => ?_)
    · exact ⟨bA_0_c0, bA_0_c1, bA_0_c2, bB_0_c0, bB_0_c1, bB_0_c2, bB_0_c3⟩
    refine HT 0 rfl ?_
    try simp only [AP]
    refine HR 1 rfl fun K hK => ?_
    go_simp
    refine (CodeW.specV (sa.new h1 N0d) (sb.new h1 N0d) (s.new h1 N0d) (by omega)).mono ?_
    rintro e w1 ⟨rfl, hn1⟩
    have N1 := N0d.trans hn1
    have z1 := hn1.size
    have bA_1 := heap_new hn1 bA_0d
    have bB_1 := heap_new hn1 bB_0d
    obtain ⟨bA_1_c0, bA_1_c1, bA_1_c2⟩ := cells3 bA_1
    obtain ⟨bB_1_c0, bB_1_c1, bB_1_c2, bB_1_c3⟩ := cells4 bB_1
    rw [hcv.out]
    go_simp
    refine hK.out _ _ ?_ (fun hHeld2 => ?_)
    · exact ⟨bA_1_c0, bA_1_c1, bA_1_c2, bB_1_c0, bB_1_c1, bB_1_c2, bB_1_c3⟩
    clear hK K hHeld
    have hHeld := hHeld2
    clear hHeld2
    try simp only [AP]
    refine HT 2 rfl ?_
    try simp only [AP]
    refine HT 3 rfl ?_
    try simp only [AP]
    refine HT 4 rfl ?_
    try simp only [AP]
    refine HT 5 rfl ?_
    try simp only [AP]
    refine HT 6 rfl ?_
    try simp only [AP]
    refine HT 7 rfl ?_
    try simp only [AP]
    refine HS 8 rfl ?_
    try simp only [AP]
    refine HS 9 rfl ?_
    try simp only [AP]
    refine HS 10 rfl ?_
    try simp only [AP]
    refine HS 11 rfl ?_
    try simp only [AP]
    refine HS 12 rfl ?_
    try simp only [AP]
    refine HS 13 rfl ?_
    try simp only [AP]
    refine HT 14 rfl ?_
    try simp only [AP]
    refine HT 15 rfl ?_
    try simp only [AP]
    refine HS 16 rfl ?_
    try simp only [AP]
    refine HS 17 rfl ?_
    try simp only [AP]
    refine HS 18 rfl ?_
    try simp only [AP]
    refine HS 19 rfl ?_
    try simp only [AP]
    refine HT 20 rfl ?_
    try simp only [AP]
    refine HT 21 rfl ?_
    try simp only [AP]
    refine HS 22 rfl ?_
    try simp only [AP]
    refine HS 23 rfl ?_
    try simp only [AP]
    refine HS 24 rfl ?_
    try simp only [AP]
    refine HT 25 rfl ?_
    try simp only [AP]
    refine HT 26 rfl ?_
    try simp only [AP]
    refine HS 27 rfl ?_
    try simp only [AP]
    refine HS 28 rfl ?_
    try simp only [AP]
    refine HS 29 rfl ?_
    try simp only [AP]
    refine HS 30 rfl ?_
    try simp only [AP]
    refine HS 31 rfl ?_
    try simp only [AP]
    refine HT 32 rfl ?_
    try simp only [AP]
    refine HT 33 rfl ?_
    try simp only [AP]
    refine wpAnyH_done (by kernel_rfl) ?_ _
    go_wp2
    go_ret
    exact ⟨retB D.out.symm, N1⟩
  by_cases g2 : pc < (x.length : Int)
  rotate_left
  · have D := Lib.hid (show machB xa xb x pc yr ya yb = false by
      have e : decide (pc < (x.length : Int)) = false := by rw [decide_eq_false_iff_not]; exact g2
      rw [machB, e]; simp)
    have e1 : decide (pc < (x.length : Int)) = false := by rw [decide_eq_false_iff_not]; exact g2
    have e1b : (x.length : Int) ≤ pc := by omega
    clear g2
    go_wp2_with fail
    refine wp_region_held_drew (S := fun w' => w'.cell? ⟨w.heap.size, 0, none⟩ = some (.slice a xa.length c) ∧ w'.cell? ⟨w.heap.size, 1, none⟩ = some (.slice a1 xb.length c1) ∧ w'.cell? ⟨w.heap.size, 2, none⟩ = some (.slice a2 x.length c2) ∧ w'.cell? ⟨w.heap.size + 1, 0, none⟩ = some (.int .i64 pc) ∧ w'.cell? ⟨w.heap.size + 1, 1, none⟩ = some (.slice a3 yr.length c3) ∧ w'.cell? ⟨w.heap.size + 1, 2, none⟩ = some (.slice a4 ya.length c4) ∧ w'.cell? ⟨w.heap.size + 1, 3, none⟩ = some (.slice a5 yb.length c5)) (by kernel_rfl) ?_ (fun hHeld => ?_)
    · exact ⟨bA_0_c0, bA_0_c1, bA_0_c2, bB_0_c0, bB_0_c1, bB_0_c2, bB_0_c3⟩
    refine HT 0 rfl ?_
    try simp only [AP]
    refine HR 1 rfl fun K hK => ?_
    go_simp
    refine (CodeW.specV (sa.new h1 N0d) (sb.new h1 N0d) (s.new h1 N0d) (by omega)).mono ?_
    rintro e w1 ⟨rfl, hn1⟩
    have N1 := N0d.trans hn1
    have z1 := hn1.size
    have bA_1 := heap_new hn1 bA_0d
    have bB_1 := heap_new hn1 bB_0d
    obtain ⟨bA_1_c0, bA_1_c1, bA_1_c2⟩ := cells3 bA_1
    obtain ⟨bB_1_c0, bB_1_c1, bB_1_c2, bB_1_c3⟩ := cells4 bB_1
    rw [hcv.out]
    go_simp
    refine hK.out _ _ ?_ (fun hHeld2 => ?_)
    · exact ⟨bA_1_c0, bA_1_c1, bA_1_c2, bB_1_c0, bB_1_c1, bB_1_c2, bB_1_c3⟩
    clear hK K hHeld
    have hHeld := hHeld2
    clear hHeld2
    try simp only [AP]
    refine HT 2 rfl ?_
    try simp only [AP]
    refine HT 3 rfl ?_
    try simp only [AP]
    refine HT 4 rfl ?_
    try simp only [AP]
    refine HT 5 rfl ?_
    try simp only [AP]
    refine HT 6 rfl ?_
    try simp only [AP]
    refine HT 7 rfl ?_
    try simp only [AP]
    refine HT 8 rfl ?_
    try simp only [AP]
    refine HT 9 rfl ?_
    try simp only [AP]
    refine HT 10 rfl ?_
    try simp only [AP]
    refine HT 11 rfl ?_
    try simp only [AP]
    refine HT 12 rfl ?_
    try simp only [AP]
    refine HT 13 rfl ?_
    try simp only [AP]
    refine HT 14 rfl ?_
    try simp only [AP]
    refine HT 15 rfl ?_
    try simp only [AP]
    refine HS 16 rfl ?_
    try simp only [AP]
    refine HS 17 rfl ?_
    try simp only [AP]
    refine HS 18 rfl ?_
    try simp only [AP]
    refine HS 19 rfl ?_
    try simp only [AP]
    refine HT 20 rfl ?_
    try simp only [AP]
    refine HT 21 rfl ?_
    try simp only [AP]
    refine HS 22 rfl ?_
    try simp only [AP]
    refine HS 23 rfl ?_
    try simp only [AP]
    refine HS 24 rfl ?_
    try simp only [AP]
    refine HT 25 rfl ?_
    try simp only [AP]
    refine HT 26 rfl ?_
    try simp only [AP]
    refine HS 27 rfl ?_
    try simp only [AP]
    refine HS 28 rfl ?_
    try simp only [AP]
    refine HS 29 rfl ?_
    try simp only [AP]
    refine HS 30 rfl ?_
    try simp only [AP]
    refine HS 31 rfl ?_
    try simp only [AP]
    refine HT 32 rfl ?_
    try simp only [AP]
    refine HT 33 rfl ?_
    try simp only [AP]
    refine wpAnyH_done (by kernel_rfl) ?_ _
    go_wp2
    go_ret
    exact ⟨retB D.out.symm, N1⟩
  by_cases g3 : yr.length = 14
  rotate_left
  · have D := Lib.hid (show machB xa xb x pc yr ya yb = false by
      have e : decide (yr.length = 14) = false := by rw [decide_eq_false_iff_not]; exact g3
      rw [machB, e]; simp)
    have e14 : ((yr.length : Int) == 14) = false := by rw [beq_eq_false_iff_ne]; omega
    clear g3
    go_wp2_with fail
    refine wp_region_held_drew (S := fun w' => w'.cell? ⟨w.heap.size, 0, none⟩ = some (.slice a xa.length c) ∧ w'.cell? ⟨w.heap.size, 1, none⟩ = some (.slice a1 xb.length c1) ∧ w'.cell? ⟨w.heap.size, 2, none⟩ = some (.slice a2 x.length c2) ∧ w'.cell? ⟨w.heap.size + 1, 0, none⟩ = some (.int .i64 pc) ∧ w'.cell? ⟨w.heap.size + 1, 1, none⟩ = some (.slice a3 yr.length c3) ∧ w'.cell? ⟨w.heap.size + 1, 2, none⟩ = some (.slice a4 ya.length c4) ∧ w'.cell? ⟨w.heap.size + 1, 3, none⟩ = some (.slice a5 yb.length c5)) (by kernel_rfl) ?_ (fun hHeld => ?_)
    · exact ⟨bA_0_c0, bA_0_c1, bA_0_c2, bB_0_c0, bB_0_c1, bB_0_c2, bB_0_c3⟩
    refine HT 0 rfl ?_
    try simp only [AP]
    refine HR 1 rfl fun K hK => ?_
    go_simp
    refine (CodeW.specV (sa.new h1 N0d) (sb.new h1 N0d) (s.new h1 N0d) (by omega)).mono ?_
    rintro e w1 ⟨rfl, hn1⟩
    have N1 := N0d.trans hn1
    have z1 := hn1.size
    have bA_1 := heap_new hn1 bA_0d
    have bB_1 := heap_new hn1 bB_0d
    obtain ⟨bA_1_c0, bA_1_c1, bA_1_c2⟩ := cells3 bA_1
    obtain ⟨bB_1_c0, bB_1_c1, bB_1_c2, bB_1_c3⟩ := cells4 bB_1
    rw [hcv.out]
    go_simp
    refine hK.out _ _ ?_ (fun hHeld2 => ?_)
    · exact ⟨bA_1_c0, bA_1_c1, bA_1_c2, bB_1_c0, bB_1_c1, bB_1_c2, bB_1_c3⟩
    clear hK K hHeld
    have hHeld := hHeld2
    clear hHeld2
    try simp only [AP]
    refine HT 2 rfl ?_
    try simp only [AP]
    refine HT 3 rfl ?_
    try simp only [AP]
    refine HT 4 rfl ?_
    try simp only [AP]
    refine HT 5 rfl ?_
    try simp only [AP]
    refine HT 6 rfl ?_
    try simp only [AP]
    refine HT 7 rfl ?_
    try simp only [AP]
    refine HT 8 rfl ?_
    try simp only [AP]
    refine HT 9 rfl ?_
    try simp only [AP]
    refine HT 10 rfl ?_
    try simp only [AP]
    refine HT 11 rfl ?_
    try simp only [AP]
    refine HT 12 rfl ?_
    try simp only [AP]
    refine HT 13 rfl ?_
    try simp only [AP]
    refine HT 14 rfl ?_
    try simp only [AP]
    refine HT 15 rfl ?_
    try simp only [AP]
    refine HT 16 rfl ?_
    try simp only [AP]
    refine HT 17 rfl ?_
    try simp only [AP]
    refine HT 18 rfl ?_
    try simp only [AP]
    refine HT 19 rfl ?_
    try simp only [AP]
    refine HT 20 rfl ?_
    try simp only [AP]
    refine HT 21 rfl ?_
    try simp only [AP]
    refine HS 22 rfl ?_
    try simp only [AP]
    refine HS 23 rfl ?_
    try simp only [AP]
    refine HS 24 rfl ?_
    try simp only [AP]
    refine HT 25 rfl ?_
    try simp only [AP]
    refine HT 26 rfl ?_
    try simp only [AP]
    refine HS 27 rfl ?_
    try simp only [AP]
    refine HS 28 rfl ?_
    try simp only [AP]
    refine HS 29 rfl ?_
    try simp only [AP]
    refine HS 30 rfl ?_
    try simp only [AP]
    refine HS 31 rfl ?_
    try simp only [AP]
    refine HT 32 rfl ?_
    try simp only [AP]
    refine HT 33 rfl ?_
    try simp only [AP]
    refine wpAnyH_done (by kernel_rfl) ?_ _
    go_wp2
    go_ret
    exact ⟨retB D.out.symm, N1⟩
  have e14 : ((yr.length : Int) == 14) = true := by rw [beq_iff_eq]; omega
  have E := Lib.hid (show machB xa xb x pc yr ya yb = (okVs yr && fitB xa.length xb.length ya yb) by
    have d1 : decide (0 ≤ pc) = true := by rw [decide_eq_true_eq]; exact g1
    have d2 : decide (pc < (x.length : Int)) = true := by rw [decide_eq_true_eq]; exact g2
    have d3 : decide (yr.length = 14) = true := by rw [decide_eq_true_eq]; exact g3
    rw [machB, hcv.out, d1, d2, d3]; simp)
  clear g3
  cases hv0 : okVs yr
  · have D := Lib.hid (show machB xa xb x pc yr ya yb = false by rw [E.out, hv0]; rfl)
    have hv := Lib.hid hv0
    clear hv0 E
    go_wp2_with fail
    refine wp_region_held_drew (S := fun w' => w'.cell? ⟨w.heap.size, 0, none⟩ = some (.slice a xa.length c) ∧ w'.cell? ⟨w.heap.size, 1, none⟩ = some (.slice a1 xb.length c1) ∧ w'.cell? ⟨w.heap.size, 2, none⟩ = some (.slice a2 x.length c2) ∧ w'.cell? ⟨w.heap.size + 1, 0, none⟩ = some (.int .i64 pc) ∧ w'.cell? ⟨w.heap.size + 1, 1, none⟩ = some (.slice a3 yr.length c3) ∧ w'.cell? ⟨w.heap.size + 1, 2, none⟩ = some (.slice a4 ya.length c4) ∧ w'.cell? ⟨w.heap.size + 1, 3, none⟩ = some (.slice a5 yb.length c5)) (by kernel_rfl) ?_ (fun hHeld => ?_)
    · exact ⟨bA_0_c0, bA_0_c1, bA_0_c2, bB_0_c0, bB_0_c1, bB_0_c2, bB_0_c3⟩
    refine HT 0 rfl ?_
    try simp only [AP]
    refine HR 1 rfl fun K hK => ?_
    go_simp
    refine (CodeW.specV (sa.new h1 N0d) (sb.new h1 N0d) (s.new h1 N0d) (by omega)).mono ?_
    rintro e w1 ⟨rfl, hn1⟩
    have N1 := N0d.trans hn1
    have z1 := hn1.size
    have bA_1 := heap_new hn1 bA_0d
    have bB_1 := heap_new hn1 bB_0d
    obtain ⟨bA_1_c0, bA_1_c1, bA_1_c2⟩ := cells3 bA_1
    obtain ⟨bB_1_c0, bB_1_c1, bB_1_c2, bB_1_c3⟩ := cells4 bB_1
    rw [hcv.out]
    go_simp
    refine hK.out _ _ ?_ (fun hHeld2 => ?_)
    · exact ⟨bA_1_c0, bA_1_c1, bA_1_c2, bB_1_c0, bB_1_c1, bB_1_c2, bB_1_c3⟩
    clear hK K hHeld
    have hHeld := hHeld2
    clear hHeld2
    try simp only [AP]
    refine HT 2 rfl ?_
    try simp only [AP]
    refine HT 3 rfl ?_
    try simp only [AP]
    refine HT 4 rfl ?_
    try simp only [AP]
    refine HT 5 rfl ?_
    try simp only [AP]
    refine HT 6 rfl ?_
    try simp only [AP]
    refine HT 7 rfl ?_
    try simp only [AP]
    refine HT 8 rfl ?_
    try simp only [AP]
    refine HT 9 rfl ?_
    try simp only [AP]
    refine HT 10 rfl ?_
    try simp only [AP]
    refine HT 11 rfl ?_
    try simp only [AP]
    refine HT 12 rfl ?_
    try simp only [AP]
    refine HT 13 rfl ?_
    try simp only [AP]
    refine HT 14 rfl ?_
    try simp only [AP]
    refine HT 15 rfl ?_
    try simp only [AP]
    refine HT 16 rfl ?_
    try simp only [AP]
    refine HT 17 rfl ?_
    try simp only [AP]
    refine HT 18 rfl ?_
    try simp only [AP]
    refine HT 19 rfl ?_
    try simp only [AP]
    refine HT 20 rfl ?_
    try simp only [AP]
    refine HT 21 rfl ?_
    try simp only [AP]
    refine HT 22 rfl ?_
    try simp only [AP]
    refine HT 23 rfl ?_
    try simp only [AP]
    refine HR 24 rfl fun K hK => ?_
    go_simp
    refine (Decl.values (rr.new h2 N1)).mono ?_
    rintro e w' ⟨rfl, rfl⟩
    rw [hv.out]
    go_simp
    refine hK.out _ _ ?_ (fun hHeld2 => ?_)
    · exact ⟨bA_1_c0, bA_1_c1, bA_1_c2, bB_1_c0, bB_1_c1, bB_1_c2, bB_1_c3⟩
    clear hK K hHeld
    have hHeld := hHeld2
    clear hHeld2
    try simp only [AP]
    refine HT 25 rfl ?_
    try simp only [AP]
    refine HT 26 rfl ?_
    try simp only [AP]
    refine HS 27 rfl ?_
    try simp only [AP]
    refine HS 28 rfl ?_
    try simp only [AP]
    refine HS 29 rfl ?_
    try simp only [AP]
    refine HS 30 rfl ?_
    try simp only [AP]
    refine HS 31 rfl ?_
    try simp only [AP]
    refine HT 32 rfl ?_
    try simp only [AP]
    refine HT 33 rfl ?_
    try simp only [AP]
    refine wpAnyH_done (by kernel_rfl) ?_ _
    go_wp2
    go_ret
    exact ⟨retB D.out.symm, N1⟩
  have D := Lib.hid (show machB xa xb x pc yr ya yb = fitB xa.length xb.length ya yb by rw [E.out, hv0]; rfl)
  have hv := Lib.hid hv0
  clear hv0 E
  go_wp2_with fail
  refine wp_region_held_drew (S := fun w' => w'.cell? ⟨w.heap.size, 0, none⟩ = some (.slice a xa.length c) ∧ w'.cell? ⟨w.heap.size, 1, none⟩ = some (.slice a1 xb.length c1) ∧ w'.cell? ⟨w.heap.size, 2, none⟩ = some (.slice a2 x.length c2) ∧ w'.cell? ⟨w.heap.size + 1, 0, none⟩ = some (.int .i64 pc) ∧ w'.cell? ⟨w.heap.size + 1, 1, none⟩ = some (.slice a3 yr.length c3) ∧ w'.cell? ⟨w.heap.size + 1, 2, none⟩ = some (.slice a4 ya.length c4) ∧ w'.cell? ⟨w.heap.size + 1, 3, none⟩ = some (.slice a5 yb.length c5)) (by kernel_rfl) ?_ (fun hHeld => ?_)
  · exact ⟨bA_0_c0, bA_0_c1, bA_0_c2, bB_0_c0, bB_0_c1, bB_0_c2, bB_0_c3⟩
  refine HT 0 rfl ?_
  try simp only [AP]
  refine HR 1 rfl fun K hK => ?_
  go_simp
  refine (CodeW.specV (sa.new h1 N0d) (sb.new h1 N0d) (s.new h1 N0d) (by omega)).mono ?_
  rintro e w1 ⟨rfl, hn1⟩
  have N1 := N0d.trans hn1
  have z1 := hn1.size
  have bA_1 := heap_new hn1 bA_0d
  have bB_1 := heap_new hn1 bB_0d
  obtain ⟨bA_1_c0, bA_1_c1, bA_1_c2⟩ := cells3 bA_1
  obtain ⟨bB_1_c0, bB_1_c1, bB_1_c2, bB_1_c3⟩ := cells4 bB_1
  rw [hcv.out]
  go_simp
  refine hK.out _ _ ?_ (fun hHeld2 => ?_)
  · exact ⟨bA_1_c0, bA_1_c1, bA_1_c2, bB_1_c0, bB_1_c1, bB_1_c2, bB_1_c3⟩
  clear hK K hHeld
  have hHeld := hHeld2
  clear hHeld2
  try simp only [AP]
  refine HT 2 rfl ?_
  try simp only [AP]
  refine HT 3 rfl ?_
  try simp only [AP]
  refine HT 4 rfl ?_
  try simp only [AP]
  refine HT 5 rfl ?_
  try simp only [AP]
  refine HT 6 rfl ?_
  try simp only [AP]
  refine HT 7 rfl ?_
  try simp only [AP]
  refine HT 8 rfl ?_
  try simp only [AP]
  refine HT 9 rfl ?_
  try simp only [AP]
  refine HT 10 rfl ?_
  try simp only [AP]
  refine HT 11 rfl ?_
  try simp only [AP]
  refine HT 12 rfl ?_
  try simp only [AP]
  refine HT 13 rfl ?_
  try simp only [AP]
  refine HT 14 rfl ?_
  try simp only [AP]
  refine HT 15 rfl ?_
  try simp only [AP]
  refine HT 16 rfl ?_
  try simp only [AP]
  refine HT 17 rfl ?_
  try simp only [AP]
  refine HT 18 rfl ?_
  try simp only [AP]
  refine HT 19 rfl ?_
  try simp only [AP]
  refine HT 20 rfl ?_
  try simp only [AP]
  refine HT 21 rfl ?_
  try simp only [AP]
  refine HT 22 rfl ?_
  try simp only [AP]
  refine HT 23 rfl ?_
  try simp only [AP]
  refine HR 24 rfl fun K hK => ?_
  go_simp
  refine (Decl.values (rr.new h2 N1)).mono ?_
  rintro e w' ⟨rfl, rfl⟩
  rw [hv.out]
  go_simp
  refine hK.out _ _ ?_ (fun hHeld2 => ?_)
  · exact ⟨bA_1_c0, bA_1_c1, bA_1_c2, bB_1_c0, bB_1_c1, bB_1_c2, bB_1_c3⟩
  clear hK K hHeld
  have hHeld := hHeld2
  clear hHeld2
  try simp only [AP]
  refine HT 25 rfl ?_
  try simp only [AP]
  refine HT 26 rfl ?_
  try simp only [AP]
  refine HT 27 rfl ?_
  try simp only [AP]
  refine HT 29 rfl ?_
  try simp only [AP]
  refine HT 30 rfl ?_
  try simp only [AP]
  refine HR 28 rfl fun K hK => ?_
  go_simp
  refine (Decl.l6Heads _ _ _ _ _ _ _).mono ?_
  rintro e w2 ⟨rfl, hn2⟩
  have N2 := N1.trans hn2
  have z2 := hn2.size
  have bA_2 := heap_new hn2 bA_1
  have bB_2 := heap_new hn2 bB_1
  obtain ⟨bA_2_c0, bA_2_c1, bA_2_c2⟩ := cells3 bA_2
  obtain ⟨bB_2_c0, bB_2_c1, bB_2_c2, bB_2_c3⟩ := cells4 bB_2
  go_simp
  refine hK.out _ _ ?_ (fun hHeld2 => ?_)
  · exact ⟨bA_2_c0, bA_2_c1, bA_2_c2, bB_2_c0, bB_2_c1, bB_2_c2, bB_2_c3⟩
  clear hK K hHeld
  have hHeld := hHeld2
  clear hHeld2
  try simp only [AP]
  refine HR 31 rfl fun K hK => ?_
  go_simp
  refine (Decl.fits (ra.new h2 N2) (rb.new h2 N2) (by omega)).mono ?_
  rintro e w3 ⟨rfl, hn3⟩
  have N3 := N2.trans hn3
  have z3 := hn3.size
  have bA_3 := heap_new hn3 bA_2
  have bB_3 := heap_new hn3 bB_2
  obtain ⟨bA_3_c0, bA_3_c1, bA_3_c2⟩ := cells3 bA_3
  obtain ⟨bB_3_c0, bB_3_c1, bB_3_c2, bB_3_c3⟩ := cells4 bB_3
  go_simp
  refine hK.out _ _ ?_ (fun hHeld2 => ?_)
  · exact ⟨bA_3_c0, bA_3_c1, bA_3_c2, bB_3_c0, bB_3_c1, bB_3_c2, bB_3_c3⟩
  clear hK K hHeld
  have hHeld := hHeld2
  clear hHeld2
  try simp only [AP]
  refine HT 32 rfl ?_
  try simp only [AP]
  refine HT 33 rfl ?_
  try simp only [AP]
  refine wpAnyH_done (by kernel_rfl) ?_ _
  go_wp2
  go_ret
  exact ⟨retB D.out.symm, N3⟩
set_option maxHeartbeats 2000000 in
theorem implV {w : World} {lo hi lo' hi' : Nat} {ta tb tc mr ma mb : Value} {pc : Int} {xa xb yr ya : List Int} {x : List Ins} {yb : List (List Int)} (sa : IntsR w lo hi ta xa) (sb : IntsR w lo hi tb xb) (s : InssR w lo hi tc x) (rr : IntsR w lo' hi' mr yr) (ra : IntsR w lo' hi' ma ya) (rb : MatR w lo' hi' mb yb) (h1 : hi ≤ w.heap.size) (h2 : hi' ≤ w.heap.size) :
    Calls Try.prog 19 #[.agg #[ta, tb, tc], .agg #[.int .i64 pc, mr, ma, mb]] w fun e w' => e = .returned (.bool (machB xa xb x pc yr ya yb)) ∧ New w w' := by
  obtain ⟨a, c, rfl, m1⟩ := sa.len
  obtain ⟨a1, c1, rfl, m2⟩ := sb.len
  obtain ⟨a2, c2, rfl, m3⟩ := s.len
  obtain ⟨a3, c3, rfl, m4⟩ := rr.len
  obtain ⟨a4, c4, rfl, m5⟩ := ra.len
  obtain ⟨a5, c5, rfl, m6⟩ := rb.len
  go_enter Try.func19, Try.ntmps19
  go_wp2_with fail
  have N0 : New w ((w.alloc (.cells #[.slice a xa.length c, .slice a1 xb.length c1, .slice a2 x.length c2] 26)).alloc (.cells #[.int .i64 pc, .slice a3 yr.length c3, .slice a4 ya.length c4, .slice a5 yb.length c5] 31)) := (((Kp.refl _ _).alloc _).alloc _)
  have bA_0 : ((w.alloc (.cells #[.slice a xa.length c, .slice a1 xb.length c1, .slice a2 x.length c2] 26)).alloc (.cells #[.int .i64 pc, .slice a3 yr.length c3, .slice a4 ya.length c4, .slice a5 yb.length c5] 31)).heap[w.heap.size]? = some (.cells #[.slice a xa.length c, .slice a1 xb.length c1, .slice a2 x.length c2] 26) := heap_old (alloc_heap _ _)
  have bB_0 : ((w.alloc (.cells #[.slice a xa.length c, .slice a1 xb.length c1, .slice a2 x.length c2] 26)).alloc (.cells #[.int .i64 pc, .slice a3 yr.length c3, .slice a4 ya.length c4, .slice a5 yb.length c5] 31)).heap[w.heap.size + 1]? = some (.cells #[.int .i64 pc, .slice a3 yr.length c3, .slice a4 ya.length c4, .slice a5 yb.length c5] 31) := heap_at (by simp)
  have z0 : w.heap.size + 1 < ((w.alloc (.cells #[.slice a xa.length c, .slice a1 xb.length c1, .slice a2 x.length c2] 26)).alloc (.cells #[.int .i64 pc, .slice a3 yr.length c3, .slice a4 ya.length c4, .slice a5 yb.length c5] 31)).heap.size := by simp
  generalize ((w.alloc (.cells #[.slice a xa.length c, .slice a1 xb.length c1, .slice a2 x.length c2] 26)).alloc (.cells #[.int .i64 pc, .slice a3 yr.length c3, .slice a4 ya.length c4, .slice a5 yb.length c5] 31)) = w0 at *
  obtain ⟨bA_0_c0, bA_0_c1, bA_0_c2⟩ := cells3 bA_0
  obtain ⟨bB_0_c0, bB_0_c1, bB_0_c2, bB_0_c3⟩ := cells4 bB_0
  refine (CodeW.implV (sa.new h1 N0) (sb.new h1 N0) (s.new h1 N0) (by omega)).mono ?_
  rintro e w1 ⟨rfl, hn1⟩
  have z1 := hn1.size
  have N1 : New w w1 := N0.trans hn1
  have bA_1 := heap_new hn1 bA_0
  have bB_1 := heap_new hn1 bB_0
  clear bA_0_c0 bA_0_c1 bA_0_c2 bB_0_c0 bB_0_c1 bB_0_c2 bB_0_c3
  clear bA_0 bB_0 hn1
  obtain ⟨bA_1_c0, bA_1_c1, bA_1_c2⟩ := cells3 bA_1
  obtain ⟨bB_1_c0, bB_1_c1, bB_1_c2, bB_1_c3⟩ := cells4 bB_1
  cases hcv : codeB xa xb x
  · have D := Lib.hid (show machB xa xb x pc yr ya yb = false by rw [machB, hcv]; rfl)
    clear hcv
    go_wp2
    go_ret
    exact ⟨retB D.out.symm, N1⟩
  have E0 := Lib.hid (show machB xa xb x pc yr ya yb = (Lab.inside pc 0 ((x.length : Int) - 1) && decide (yr.length = 14) && okVs yr && fitB xa.length xb.length ya yb) by
    have e : Lab.inside pc 0 ((x.length : Int) - 1) = (decide (0 ≤ pc) && decide (pc < (x.length : Int))) := by rw [Bool.eq_iff_iff]; simp [Lab.inside]; omega
    rw [machB, hcv, e]; simp)
  clear hcv
  go_wp2_with fail
  refine (Lab.within _ _ _ _).mono ?_
  rintro e w' ⟨rfl, rfl⟩
  cases hin : Lab.inside pc 0 ((x.length : Int) - 1)
  · have D := Lib.hid (show machB xa xb x pc yr ya yb = false by rw [E0.out, hin]; rfl)
    clear hin E0
    go_wp2
    go_ret
    exact ⟨retB D.out.symm, N1⟩
  have E := Lib.hid (show machB xa xb x pc yr ya yb = (decide (yr.length = 14) && okVs yr && fitB xa.length xb.length ya yb) by rw [E0.out, hin]; rfl)
  clear hin E0
  by_cases g3 : yr.length = 14
  rotate_left
  · have D := Lib.hid (show machB xa xb x pc yr ya yb = false by
      have e : decide (yr.length = 14) = false := by rw [decide_eq_false_iff_not]; exact g3
      rw [E.out, e]; rfl)
    have e14 : ((yr.length : Int) == 14) = false := by rw [beq_eq_false_iff_ne]; omega
    clear g3 E
    go_wp2
    go_ret
    exact ⟨retB D.out.symm, N1⟩
  have e14 : ((yr.length : Int) == 14) = true := by rw [beq_iff_eq]; omega
  have E2 := Lib.hid (show machB xa xb x pc yr ya yb = (okVs yr && fitB xa.length xb.length ya yb) by
    have d3 : decide (yr.length = 14) = true := by rw [decide_eq_true_eq]; exact g3
    rw [E.out, d3]; rfl)
  clear g3 E
  have RR := Lib.hid (rr.new h2 N1)
  go_wp2_with fail
  refine (Cont.areValues _ _ _ _ _ RR.out).mono ?_
  rintro e w' ⟨rfl, rfl⟩
  cases hv : okVs yr
  · have D := Lib.hid (show machB xa xb x pc yr ya yb = false by rw [E2.out, hv]; rfl)
    clear hv E2
    go_wp2
    go_ret
    exact ⟨retB D.out.symm, N1⟩
  have D := Lib.hid (show machB xa xb x pc yr ya yb = fitB xa.length xb.length ya yb by rw [E2.out, hv]; rfl)
  clear hv E2
  go_wp2_with fail
  refine (Decl.isMemory (ra.new h2 N1) (rb.new h2 N1) (by omega)).mono ?_
  rintro e w2 ⟨rfl, hn2⟩
  have z2 := hn2.size
  have N2 : New w w2 := N1.trans hn2
  have bA_2 := heap_new hn2 bA_1
  have bB_2 := heap_new hn2 bB_1
  clear bA_1_c0 bA_1_c1 bA_1_c2 bB_1_c0 bB_1_c1 bB_1_c2 bB_1_c3
  clear bA_1 bB_1 hn2
  go_wp2
  go_ret
  exact ⟨retB D.out.symm, N2⟩
end Go.Proofs.Ytljokgoghphgdaa.MachV
