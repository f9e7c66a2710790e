/- MachineValid of spec and of impl. No conditions. -/
import Derived.Test.YtbicpkmlionldaaVP5
import Derived.Deep.RegionHeld3
import Derived.Test.YtbicpkmlionldaaVP1
namespace Go.Proofs.Ytbicpkmlionldaa.Val
def machB (xa xb : List Int) (x : List Ins) (pc : Int) (yr ya : List Int) (yb : List (List Int)) : Bool := codeB xa xb x && decide (0 ≤ pc) && decide (pc < x.length) && decide (yr.length = 14) && okVs yr && fitB xa.length xb.length ya yb
end Go.Proofs.Ytbicpkmlionldaa.Val
namespace Go.Proofs.Ytbicpkmlionldaa.MachV
open Go.RowKit Kit Val
set_option linter.unusedVariables false
set_option maxHeartbeats 2000000 in
theorem implV {w : World} {lo hi lo' hi' : Nat} {ta tb tc mr ma mb : Value} {pc : Int} {xa xb yr ya : List Int} {x : List Ins} {yb : List (List Int)} (sa : IntsR w lo hi ta xa) (sb : IntsR w lo hi tb xb) (s : InssR w lo hi tc x) (rr : IntsR w lo' hi' mr yr) (ra : IntsR w lo' hi' ma ya) (rb : MatR w lo' hi' mb yb) (h1 : hi ≤ w.heap.size) (h2 : hi' ≤ w.heap.size) :
    Calls Try.prog 13 #[.agg #[ta, tb, tc], .agg #[.int .i64 pc, mr, ma, mb]] w fun e w' => e = .returned (.bool (machB xa xb x pc yr ya yb)) ∧ New w w' := by
  obtain ⟨a, c, rfl, m1⟩ := sa.len
  obtain ⟨a1, c1, rfl, m2⟩ := sb.len
  obtain ⟨a2, c2, rfl, m3⟩ := s.len
  obtain ⟨a3, c3, rfl, m4⟩ := rr.len
  obtain ⟨a4, c4, rfl, m5⟩ := ra.len
  obtain ⟨a5, c5, rfl, m6⟩ := rb.len
  go_enter Try.func13, Try.ntmps13
  go_wp2_with fail
  have N0 : New w ((w.alloc (.cells #[.slice a xa.length c, .slice a1 xb.length c1, .slice a2 x.length c2] 26)).alloc (.cells #[.int .i64 pc, .slice a3 yr.length c3, .slice a4 ya.length c4, .slice a5 yb.length c5] 38)) := (((Kp.refl _ _).alloc _).alloc _)
  have bA_0 : ((w.alloc (.cells #[.slice a xa.length c, .slice a1 xb.length c1, .slice a2 x.length c2] 26)).alloc (.cells #[.int .i64 pc, .slice a3 yr.length c3, .slice a4 ya.length c4, .slice a5 yb.length c5] 38)).heap[w.heap.size]? = some (.cells #[.slice a xa.length c, .slice a1 xb.length c1, .slice a2 x.length c2] 26) := heap_old (alloc_heap _ _)
  have bB_0 : ((w.alloc (.cells #[.slice a xa.length c, .slice a1 xb.length c1, .slice a2 x.length c2] 26)).alloc (.cells #[.int .i64 pc, .slice a3 yr.length c3, .slice a4 ya.length c4, .slice a5 yb.length c5] 38)).heap[w.heap.size + 1]? = some (.cells #[.int .i64 pc, .slice a3 yr.length c3, .slice a4 ya.length c4, .slice a5 yb.length c5] 38) := heap_at (by simp)
  have z0 : w.heap.size + 1 < ((w.alloc (.cells #[.slice a xa.length c, .slice a1 xb.length c1, .slice a2 x.length c2] 26)).alloc (.cells #[.int .i64 pc, .slice a3 yr.length c3, .slice a4 ya.length c4, .slice a5 yb.length c5] 38)).heap.size := by simp
  generalize ((w.alloc (.cells #[.slice a xa.length c, .slice a1 xb.length c1, .slice a2 x.length c2] 26)).alloc (.cells #[.int .i64 pc, .slice a3 yr.length c3, .slice a4 ya.length c4, .slice a5 yb.length c5] 38)) = w0 at *
  obtain ⟨bA_0_c0, bA_0_c1, bA_0_c2⟩ := cells3 bA_0
  obtain ⟨bB_0_c0, bB_0_c1, bB_0_c2, bB_0_c3⟩ := cells4 bB_0
  refine (CodeW.implV (sa.new h1 N0) (sb.new h1 N0) (s.new h1 N0) (by omega)).mono ?_
  rintro e w1 ⟨rfl, hn1⟩
  have z1 := hn1.size
  have N1 : New w w1 := N0.trans hn1
  have bA_1 := heap_new hn1 bA_0
  have bB_1 := heap_new hn1 bB_0
  clear bA_0_c0 bA_0_c1 bA_0_c2 bB_0_c0 bB_0_c1 bB_0_c2 bB_0_c3
  clear bA_0 bB_0 hn1
  obtain ⟨bA_1_c0, bA_1_c1, bA_1_c2⟩ := cells3 bA_1
  obtain ⟨bB_1_c0, bB_1_c1, bB_1_c2, bB_1_c3⟩ := cells4 bB_1
  cases hcv : codeB xa xb x
  · have D := Lib.hid (show machB xa xb x pc yr ya yb = false by rw [machB, hcv]; rfl)
    clear hcv
    go_wp2
    go_ret
    exact ⟨retB D.out.symm, N1⟩
  have E0 := Lib.hid (show machB xa xb x pc yr ya yb = (Lab.inside pc 0 ((x.length : Int) - 1) && decide (yr.length = 14) && okVs yr && fitB xa.length xb.length ya yb) by
    have e : Lab.inside pc 0 ((x.length : Int) - 1) = (decide (0 ≤ pc) && decide (pc < (x.length : Int))) := by rw [Bool.eq_iff_iff]; simp [Lab.inside]; omega
    rw [machB, hcv, e]; simp)
  clear hcv
  go_wp2_with fail
  refine (Lab.within _ _ _ _).mono ?_
  rintro e w' ⟨rfl, rfl⟩
  cases hin : Lab.inside pc 0 ((x.length : Int) - 1)
  · have D := Lib.hid (show machB xa xb x pc yr ya yb = false by rw [E0.out, hin]; rfl)
    clear hin E0
    go_wp2
    go_ret
    exact ⟨retB D.out.symm, N1⟩
  have E := Lib.hid (show machB xa xb x pc yr ya yb = (decide (yr.length = 14) && okVs yr && fitB xa.length xb.length ya yb) by rw [E0.out, hin]; rfl)
  clear hin E0
  by_cases g3 : yr.length = 14
  rotate_left
  · have D := Lib.hid (show machB xa xb x pc yr ya yb = false by
      have e : decide (yr.length = 14) = false := by rw [decide_eq_false_iff_not]; exact g3
      rw [E.out, e]; rfl)
    have e14 : ((yr.length : Int) == 14) = false := by rw [beq_eq_false_iff_ne]; omega
    clear g3 E
    go_wp2
    go_ret
    exact ⟨retB D.out.symm, N1⟩
  have e14 : ((yr.length : Int) == 14) = true := by rw [beq_iff_eq]; omega
  have E2 := Lib.hid (show machB xa xb x pc yr ya yb = (okVs yr && fitB xa.length xb.length ya yb) by
    have d3 : decide (yr.length = 14) = true := by rw [decide_eq_true_eq]; exact g3
    rw [E.out, d3]; rfl)
  clear g3 E
  have RR := Lib.hid (rr.new h2 N1)
  go_wp2_with fail
  refine (Cont.areValues _ _ _ _ _ RR.out).mono ?_
  rintro e w' ⟨rfl, rfl⟩
  cases hv : okVs yr
  · have D := Lib.hid (show machB xa xb x pc yr ya yb = false by rw [E2.out, hv]; rfl)
    clear hv E2
    go_wp2
    go_ret
    exact ⟨retB D.out.symm, N1⟩
  have D := Lib.hid (show machB xa xb x pc yr ya yb = fitB xa.length xb.length ya yb by rw [E2.out, hv]; rfl)
  clear hv E2
  go_wp2_with fail
  refine (Decl.isMemory (ra.new h2 N1) (rb.new h2 N1) (by omega)).mono ?_
  rintro e w2 ⟨rfl, hn2⟩
  have z2 := hn2.size
  have N2 : New w w2 := N1.trans hn2
  have bA_2 := heap_new hn2 bA_1
  have bB_2 := heap_new hn2 bB_1
  clear bA_1_c0 bA_1_c1 bA_1_c2 bB_1_c0 bB_1_c1 bB_1_c2 bB_1_c3
  clear bA_1 bB_1 hn2
  go_wp2
  go_ret
  exact ⟨retB D.out.symm, N2⟩
end Go.Proofs.Ytbicpkmlionldaa.MachV
