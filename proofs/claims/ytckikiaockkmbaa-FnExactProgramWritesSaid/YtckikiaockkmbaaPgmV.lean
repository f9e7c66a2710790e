/- ProgramValid, MemoryValid of spec and of impl. Conditions (spec): at most 2^20 nodes. -/
import Derived.Test.YtckikiaockkmbaaStmtV
import Derived.Test.YtckikiaockkmbaaDecl
import Derived.Test.YtckikiaockkmbaaBlockV
import Derived.Test.YtckikiaockkmbaaSizeV
import Derived.Test.YtckikiaockkmbaaShort
namespace Go.Proofs.Ytckikiaockkmbaa.PgmV
open Go.RowKit Kit Val
set_option linter.unusedVariables false
set_option maxHeartbeats 4000000 in
theorem specP {w : World} {lo hi : Nat} {ta tb tc : Value} {xa xb : List Int} {l : List St} (sa : IntsR w lo hi ta xa) (sb : IntsR w lo hi tb xb) (s : StsR w lo hi tc l) (h1 : hi ≤ w.heap.size) (hm : St.sizes l ≤ 1048576) :
    Calls Try.prog 24 #[.agg #[ta, tb, tc]] w fun e w' => e = .returned (.bool (progB xa xb l)) ∧ New w w' := by
  obtain ⟨a1, d1, rfl, m1⟩ := sa.len
  obtain ⟨a2, d2, rfl, m2⟩ := sb.len
  obtain ⟨a3, d3, rfl, m3⟩ := s.len
  go_enter Try.func24, Try.ntmps24
  go_wp2_with fail
  have N0 : New w (w.alloc (.cells #[.slice a1 xa.length d1, .slice a2 xb.length d2, .slice a3 l.length d3] 37)) := ((Kp.refl _ _).alloc _)
  have bA_0 : (w.alloc (.cells #[.slice a1 xa.length d1, .slice a2 xb.length d2, .slice a3 l.length d3] 37)).heap[w.heap.size]? = some (.cells #[.slice a1 xa.length d1, .slice a2 xb.length d2, .slice a3 l.length d3] 37) := alloc_heap _ _
  have z0 : w.heap.size < (w.alloc (.cells #[.slice a1 xa.length d1, .slice a2 xb.length d2, .slice a3 l.length d3] 37)).heap.size := by simp
  generalize (w.alloc (.cells #[.slice a1 xa.length d1, .slice a2 xb.length d2, .slice a3 l.length d3] 37)) = w0 at *
  obtain ⟨bA_0_c0, bA_0_c1, bA_0_c2⟩ := cells3 bA_0
  go_wp2_with fail
  refine (Decl.heads (tc := .slice a3 l.length d3) (sa.new h1 N0) (sb.new h1 N0) (by omega)).mono ?_
  rintro e w1 ⟨rfl, hn1⟩
  have z1 := hn1.size
  have N1 : New w w1 := N0.trans hn1
  have bA_1 := heap_new hn1 bA_0
  clear bA_0_c0 bA_0_c1 bA_0_c2
  clear bA_0 hn1
  obtain ⟨bA_1_c0, bA_1_c1, bA_1_c2⟩ := cells3 bA_1
  cases b1 : declB xa xb
  · have D := Lib.hid (show progB xa xb l = false by rw [progB, b1]; rfl)
    clear b1
    go_wp2
    go_ret
    exact ⟨retB D.out.symm, N1⟩
  have Hb1 := Lib.hid b1
  clear b1
  go_wp2_with fail
  refine (BlockV.does _ _ lo hi _ _ _ _ _ _ _ _ l 5 (Nat.lt_succ_self _) hm (s.new h1 N1) (by omega) (by omega) (by omega) (by omega) (by omega)).mono ?_
  rintro e w2 ⟨rfl, hn2⟩
  have z2 := hn2.size
  have N2 : New w w2 := N1.trans hn2
  have bA_2 := heap_new hn2 bA_1
  clear bA_1_c0 bA_1_c1 bA_1_c2
  clear bA_1 hn2
  obtain ⟨bA_2_c0, bA_2_c1, bA_2_c2⟩ := cells3 bA_2
  rw [show (5 : Int).toNat = 5 from rfl]
  cases b2 : blB xa.length xb.length l 5
  · have D := Lib.hid (show progB xa xb l = false by rw [progB, b2]; simp)
    clear b2
    go_wp2
    go_ret
    exact ⟨retB D.out.symm, N2⟩
  have Hb2 := Lib.hid b2
  clear b2
  go_wp2_with fail
  refine (SizeV.does _ w2 lo hi _ l 5 (Nat.lt_succ_self _) hm (s.new h1 N2) (by omega) (by omega) (by omega)).mono ?_
  rintro e w' ⟨rfl, kk, rfl⟩
  rw [show (5 : Int).toNat = 5 from rfl]
  have NZ : New w (w2.drewN kk) := N2.trans (drewN_kp _ kk (Kp.refl _ _))
  have D := Lib.hid (show progB xa xb l = decide ((stsZ l 5 : Int) ≤ 60) by rw [progB, Hb1.out, Hb2.out, Bool.true_and, Bool.true_and, Bool.eq_iff_iff, decide_eq_true_eq, decide_eq_true_eq]; omega)
  clear Hb1 Hb2
  go_wp2
  go_ret
  exact ⟨retB D.out.symm, NZ⟩
set_option maxHeartbeats 4000000 in
theorem implP {w : World} {lo hi : Nat} {ta tb tc : Value} {xa xb : List Int} {l : List St} (sa : IntsR w lo hi ta xa) (sb : IntsR w lo hi tb xb) (s : StsR w lo hi tc l) (h1 : hi ≤ w.heap.size) :
    Calls Try.prog 61 #[.agg #[ta, tb, tc]] w fun e w' => e = .returned (.bool (progB xa xb l)) ∧ New w w' := by
  obtain ⟨a1, d1, rfl, m1⟩ := sa.len
  obtain ⟨a2, d2, rfl, m2⟩ := sb.len
  obtain ⟨a3, d3, rfl, m3⟩ := s.len
  go_enter Try.func61, Try.ntmps61
  go_wp2_with fail
  have N0 : New w ((w.alloc (.cells #[.slice a1 xa.length d1, .slice a2 xb.length d2, .slice a3 l.length d3] 37)).alloc (.cells #[.int .i64 0] 3)) := (((Kp.refl _ _).alloc _).alloc _)
  have bA_0 : ((w.alloc (.cells #[.slice a1 xa.length d1, .slice a2 xb.length d2, .slice a3 l.length d3] 37)).alloc (.cells #[.int .i64 0] 3)).heap[w.heap.size]? = some (.cells #[.slice a1 xa.length d1, .slice a2 xb.length d2, .slice a3 l.length d3] 37) := heap_old (alloc_heap _ _)
  have bQ_0 : ((w.alloc (.cells #[.slice a1 xa.length d1, .slice a2 xb.length d2, .slice a3 l.length d3] 37)).alloc (.cells #[.int .i64 0] 3)).heap[w.heap.size + 1]? = some (.cells #[.int .i64 0] 3) := heap_at (by simp)
  have z0 : w.heap.size + 1 < ((w.alloc (.cells #[.slice a1 xa.length d1, .slice a2 xb.length d2, .slice a3 l.length d3] 37)).alloc (.cells #[.int .i64 0] 3)).heap.size := by simp
  generalize ((w.alloc (.cells #[.slice a1 xa.length d1, .slice a2 xb.length d2, .slice a3 l.length d3] 37)).alloc (.cells #[.int .i64 0] 3)) = w0 at *
  obtain ⟨bA_0_c0, bA_0_c1, bA_0_c2⟩ := cells3 bA_0
  have bQ_0_c0 := cell_of_heap bQ_0 0
  go_wp2_with fail
  refine (Decl.declared (sa.new h1 N0) (sb.new h1 N0)).mono ?_
  rintro e w' ⟨rfl, rfl⟩
  cases b1 : declB xa xb
  · have D := Lib.hid (show progB xa xb l = false by rw [progB_scan, b1]; rfl)
    clear b1
    go_wp2
    go_ret
    exact ⟨retB D.out.symm, N0⟩
  have Hb1 := Lib.hid b1
  clear b1
  go_wp2_with fail
  refine (StmtV.does _ w0 lo hi _ _ _ _ _ _ _ _ l 1 (w.heap.size + 1) 0 (Nat.lt_succ_self _) (s.new h1 N0) (by omega) (by omega) (by omega) (by omega) (by omega) bQ_0 (by omega) (by omega) (by omega)).mono ?_
  rintro e w1 ⟨rfl, hk, _⟩
  have NZ : New w w1 := New.one N0 hk (by omega)
  rw [show (6 - 1 : Int).toNat = 5 from rfl, show (0 : Int).toNat = 0 from rfl]
  have D := Lib.hid (show progB xa xb l = blScan xa.length xb.length l 5 0 by rw [progB_scan, Hb1.out, Bool.true_and])
  clear Hb1
  go_wp2
  go_ret
  exact ⟨retB D.out.symm, NZ⟩
set_option maxHeartbeats 4000000 in
theorem specM {w : World} {lo hi : Nat} {ta tb tc : Value} {xa xb : List Int} {l : List St} (sa : IntsR w lo hi ta xa) (sb : IntsR w lo hi tb xb) (s : StsR w lo hi tc l) (h1 : hi ≤ w.heap.size) {lo' hi' : Nat} {ma mb : Value} {ya : List Int} {yb : List (List Int)} (ra : IntsR w lo' hi' ma ya) (rb : MatR w lo' hi' mb yb) (h2 : hi' ≤ w.heap.size) (hm : St.sizes l ≤ 1048576) :
    Calls Try.prog 91 #[.agg #[ta, tb, tc], .agg #[ma, mb]] w fun e w' => e = .returned (.bool (progB xa xb l && fitB xa.length xb.length ya yb)) ∧ New w w' := by
  obtain ⟨a1, d1, rfl, m1⟩ := sa.len
  obtain ⟨a2, d2, rfl, m2⟩ := sb.len
  obtain ⟨a3, d3, rfl, m3⟩ := s.len
  go_enter Try.func91, Try.ntmps91
  go_wp2_with fail
  have N0 : New w ((w.alloc (.cells #[.slice a1 xa.length d1, .slice a2 xb.length d2, .slice a3 l.length d3] 37)).alloc (.cells #[ma, mb] 79)) := (((Kp.refl _ _).alloc _).alloc _)
  have bA_0 : ((w.alloc (.cells #[.slice a1 xa.length d1, .slice a2 xb.length d2, .slice a3 l.length d3] 37)).alloc (.cells #[ma, mb] 79)).heap[w.heap.size]? = some (.cells #[.slice a1 xa.length d1, .slice a2 xb.length d2, .slice a3 l.length d3] 37) := heap_old (alloc_heap _ _)
  have bM_0 : ((w.alloc (.cells #[.slice a1 xa.length d1, .slice a2 xb.length d2, .slice a3 l.length d3] 37)).alloc (.cells #[ma, mb] 79)).heap[w.heap.size + 1]? = some (.cells #[ma, mb] 79) := heap_at (by simp)
  have z0 : w.heap.size + 1 < ((w.alloc (.cells #[.slice a1 xa.length d1, .slice a2 xb.length d2, .slice a3 l.length d3] 37)).alloc (.cells #[ma, mb] 79)).heap.size := by simp
  generalize ((w.alloc (.cells #[.slice a1 xa.length d1, .slice a2 xb.length d2, .slice a3 l.length d3] 37)).alloc (.cells #[ma, mb] 79)) = w0 at *
  obtain ⟨bA_0_c0, bA_0_c1, bA_0_c2⟩ := cells3 bA_0
  obtain ⟨bM_0_c0, bM_0_c1⟩ := cells2 bM_0
  go_wp2_with fail
  refine (specP (sa.new h1 N0) (sb.new h1 N0) (s.new h1 N0) (by omega) hm).mono ?_
  rintro e w1 ⟨rfl, hn1⟩
  have z1 := hn1.size
  have N1 : New w w1 := N0.trans hn1
  have bA_1 := heap_new hn1 bA_0
  have bM_1 := heap_new hn1 bM_0
  clear bA_0_c0 bA_0_c1 bA_0_c2 bM_0_c0 bM_0_c1
  clear bA_0 bM_0 hn1
  obtain ⟨bA_1_c0, bA_1_c1, bA_1_c2⟩ := cells3 bA_1
  obtain ⟨bM_1_c0, bM_1_c1⟩ := cells2 bM_1
  cases b1 : progB xa xb l
  · have D := Lib.hid (show (progB xa xb l && fitB xa.length xb.length ya yb) = false by rw [b1]; rfl)
    clear b1
    go_wp2
    go_ret
    exact ⟨retB D.out.symm, N1⟩
  have Hb1 := Lib.hid b1
  clear b1
  go_wp2_with fail
  refine (Decl.fits (tc := .slice a3 l.length d3) (ra.new h2 N1) (rb.new h2 N1) (by omega)).mono ?_
  rintro e w2 ⟨rfl, hn2⟩
  have z2 := hn2.size
  have N2 : New w w2 := N1.trans hn2
  have bA_2 := heap_new hn2 bA_1
  have bM_2 := heap_new hn2 bM_1
  clear bA_1_c0 bA_1_c1 bA_1_c2 bM_1_c0 bM_1_c1
  clear bA_1 bM_1 hn2
  obtain ⟨bA_2_c0, bA_2_c1, bA_2_c2⟩ := cells3 bA_2
  obtain ⟨bM_2_c0, bM_2_c1⟩ := cells2 bM_2
  have D := Lib.hid (show ((progB xa xb l && fitB xa.length xb.length ya yb)) = fitB xa.length xb.length ya yb by rw [Hb1.out, Bool.true_and])
  clear Hb1
  go_wp2
  go_ret
  exact ⟨retB D.out.symm, N2⟩
set_option maxHeartbeats 4000000 in
theorem implM {w : World} {lo hi : Nat} {ta tb tc : Value} {xa xb : List Int} {l : List St} (sa : IntsR w lo hi ta xa) (sb : IntsR w lo hi tb xb) (s : StsR w lo hi tc l) (h1 : hi ≤ w.heap.size) {lo' hi' : Nat} {ma mb : Value} {ya : List Int} {yb : List (List Int)} (ra : IntsR w lo' hi' ma ya) (rb : MatR w lo' hi' mb yb) (h2 : hi' ≤ w.heap.size) :
    Calls Try.prog 89 #[.agg #[ta, tb, tc], .agg #[ma, mb]] w fun e w' => e = .returned (.bool (progB xa xb l && fitB xa.length xb.length ya yb)) ∧ New w w' := by
  obtain ⟨a1, d1, rfl, m1⟩ := sa.len
  obtain ⟨a2, d2, rfl, m2⟩ := sb.len
  obtain ⟨a3, d3, rfl, m3⟩ := s.len
  go_enter Try.func89, Try.ntmps89
  go_wp2_with fail
  have N0 : New w ((w.alloc (.cells #[.slice a1 xa.length d1, .slice a2 xb.length d2, .slice a3 l.length d3] 37)).alloc (.cells #[ma, mb] 79)) := (((Kp.refl _ _).alloc _).alloc _)
  have bA_0 : ((w.alloc (.cells #[.slice a1 xa.length d1, .slice a2 xb.length d2, .slice a3 l.length d3] 37)).alloc (.cells #[ma, mb] 79)).heap[w.heap.size]? = some (.cells #[.slice a1 xa.length d1, .slice a2 xb.length d2, .slice a3 l.length d3] 37) := heap_old (alloc_heap _ _)
  have bM_0 : ((w.alloc (.cells #[.slice a1 xa.length d1, .slice a2 xb.length d2, .slice a3 l.length d3] 37)).alloc (.cells #[ma, mb] 79)).heap[w.heap.size + 1]? = some (.cells #[ma, mb] 79) := heap_at (by simp)
  have z0 : w.heap.size + 1 < ((w.alloc (.cells #[.slice a1 xa.length d1, .slice a2 xb.length d2, .slice a3 l.length d3] 37)).alloc (.cells #[ma, mb] 79)).heap.size := by simp
  generalize ((w.alloc (.cells #[.slice a1 xa.length d1, .slice a2 xb.length d2, .slice a3 l.length d3] 37)).alloc (.cells #[ma, mb] 79)) = w0 at *
  obtain ⟨bA_0_c0, bA_0_c1, bA_0_c2⟩ := cells3 bA_0
  obtain ⟨bM_0_c0, bM_0_c1⟩ := cells2 bM_0
  go_wp2_with fail
  refine (implP (sa.new h1 N0) (sb.new h1 N0) (s.new h1 N0) (by omega)).mono ?_
  rintro e w1 ⟨rfl, hn1⟩
  have z1 := hn1.size
  have N1 : New w w1 := N0.trans hn1
  have bA_1 := heap_new hn1 bA_0
  have bM_1 := heap_new hn1 bM_0
  clear bA_0_c0 bA_0_c1 bA_0_c2 bM_0_c0 bM_0_c1
  clear bA_0 bM_0 hn1
  obtain ⟨bA_1_c0, bA_1_c1, bA_1_c2⟩ := cells3 bA_1
  obtain ⟨bM_1_c0, bM_1_c1⟩ := cells2 bM_1
  cases b1 : progB xa xb l
  · have D := Lib.hid (show (progB xa xb l && fitB xa.length xb.length ya yb) = false by rw [b1]; rfl)
    clear b1
    go_wp2
    go_ret
    exact ⟨retB D.out.symm, N1⟩
  have Hb1 := Lib.hid b1
  clear b1
  go_wp2_with fail
  refine (Decl.isMemory (ra.new h2 N1) (rb.new h2 N1) (by omega)).mono ?_
  rintro e w2 ⟨rfl, hn2⟩
  have z2 := hn2.size
  have N2 : New w w2 := N1.trans hn2
  have bA_2 := heap_new hn2 bA_1
  have bM_2 := heap_new hn2 bM_1
  clear bA_1_c0 bA_1_c1 bA_1_c2 bM_1_c0 bM_1_c1
  clear bA_1 bM_1 hn2
  obtain ⟨bA_2_c0, bA_2_c1, bA_2_c2⟩ := cells3 bA_2
  obtain ⟨bM_2_c0, bM_2_c1⟩ := cells2 bM_2
  have D := Lib.hid (show ((progB xa xb l && fitB xa.length xb.length ya yb)) = fitB xa.length xb.length ya yb by rw [Hb1.out, Bool.true_and])
  clear Hb1
  go_wp2
  go_ret
  exact ⟨retB D.out.symm, N2⟩
end Go.Proofs.Ytckikiaockkmbaa.PgmV
