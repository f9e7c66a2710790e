/- CodeValid of spec and of impl. No conditions. -/
import Derived.Test.YtljokgoghphgdaaDecl
import Derived.Test.YtljokgoghphgdaaValC
import Derived.Test.YtljokgoghphgdaaInsV
import Derived.Test.YtljokgoghphgdaaInsW
import Derived.StillTailTactics
namespace Go.Proofs.Ytljokgoghphgdaa.CodeW
open Go.RowKit Kit Val
set_option linter.unusedVariables false
set_option maxHeartbeats 2000000 in
theorem specV {w : World} {lo hi : Nat} {ta tb tc : Value} {xa xb : List Int} {x : List Ins} (sa : IntsR w lo hi ta xa) (sb : IntsR w lo hi tb xb) (s : InssR w lo hi tc x) (h1 : hi ≤ w.heap.size) :
    Calls Try.prog 61 #[.agg #[ta, tb, tc]] w fun e w' => e = .returned (.bool (codeB xa xb x)) ∧ New w w' := by
  obtain ⟨a, c, rfl, m1⟩ := sa.len
  obtain ⟨a1, c1, rfl, m2⟩ := sb.len
  obtain ⟨a2, c2, rfl, m3⟩ := s.len
  go_enter Try.func61, Try.ntmps61
  go_wp2_with fail
  have N0 : New w (w.alloc (.cells #[.slice a xa.length c, .slice a1 xb.length c1, .slice a2 x.length c2] 26)) := ((Kp.refl _ _).alloc _)
  have bA_0 : (w.alloc (.cells #[.slice a xa.length c, .slice a1 xb.length c1, .slice a2 x.length c2] 26)).heap[w.heap.size]? = some (.cells #[.slice a xa.length c, .slice a1 xb.length c1, .slice a2 x.length c2] 26) := alloc_heap _ _
  have z0 : w.heap.size < (w.alloc (.cells #[.slice a xa.length c, .slice a1 xb.length c1, .slice a2 x.length c2] 26)).heap.size := by simp
  generalize (w.alloc (.cells #[.slice a xa.length c, .slice a1 xb.length c1, .slice a2 x.length c2] 26)) = w0 at *
  have bA_0_c0 := cell_of_heap bA_0 0
  have bA_0_c1 := cell_of_heap bA_0 1
  have bA_0_c2 := cell_of_heap bA_0 2
  refine (Decl.l6Heads _ _ _ _ _ _ _).mono ?_
  rintro e w1 ⟨rfl, hn1⟩
  have z1 : w0.heap.size ≤ w1.heap.size := hn1.size
  have N1 : New w w1 := N0.trans hn1
  have bA_1 := heap_new hn1 bA_0
  clear bA_0_c0 bA_0_c1 bA_0_c2
  clear bA_0 hn1
  have bA_1_c0 := cell_of_heap bA_1 0
  have bA_1_c1 := cell_of_heap bA_1 1
  have bA_1_c2 := cell_of_heap bA_1 2
  go_wp2_with fail
  refine (Decl.heads (sa.new h1 N1) (sb.new h1 N1) (by omega)).mono ?_
  rintro e w2 ⟨rfl, hn2⟩
  have z2 : w1.heap.size ≤ w2.heap.size := hn2.size
  have N2 : New w w2 := N1.trans hn2
  have bA_2 := heap_new hn2 bA_1
  clear bA_1_c0 bA_1_c1 bA_1_c2
  clear bA_1 hn2
  have bA_2_c0 := cell_of_heap bA_2 0
  have bA_2_c1 := cell_of_heap bA_2 1
  have bA_2_c2 := cell_of_heap bA_2 2
  cases hd : declB xa xb
  · have D := Lib.hid (show codeB xa xb x = false by rw [codeB, hd]; rfl)
    go_wp2
    go_ret
    exact ⟨retB D.out.symm, N2⟩
  have HD := Lib.hid hd
  clear hd
  by_cases g1 : (1 : Int) ≤ x.length
  rotate_left
  · have D := Lib.hid (show codeB xa xb x = false by
      have : decide (1 ≤ x.length) = false := by rw [decide_eq_false_iff_not]; omega
      rw [codeB, this]; simp)
    go_wp2
    go_ret
    exact ⟨retB D.out.symm, N2⟩
  by_cases g2 : (x.length : Int) ≤ 400
  rotate_left
  · have D := Lib.hid (show codeB xa xb x = false by
      have : decide (x.length ≤ 400) = false := by rw [decide_eq_false_iff_not]; omega
      rw [codeB, this]; simp)
    go_wp2
    go_ret
    exact ⟨retB D.out.symm, N2⟩
  have C := Lib.hid (show codeB xa xb x = (x.all (insS xa.length xb.length x.length) && (lastOp x == 13 || lastOp x == 8)) by
    have e1 : decide (1 ≤ x.length) = true := by rw [decide_eq_true_eq]; omega
    have e2 : decide (x.length ≤ 400) = true := by rw [decide_eq_true_eq]; omega
    rw [codeB, HD.out, e1, e2]; simp)
  go_wp2_with fail
  go_loopw [4] (fun i wr => ∃ j : Nat, j ≤ x.length ∧ i = .int .i64 j ∧ New w2 wr ∧ Hid ((x.take j).all (insS xa.length xb.length x.length) = true)) (fun i _ => x.length - (intOf i).toNat)
  case atStart => exact ⟨0, Nat.zero_le _, rfl, Kp.refl _ _, Lib.hid rfl⟩
  case round =>
    obtain ⟨j, hj, rfl, hNA, hG⟩ := hrel
    have N3 := N2.trans hNA
    have bA3 := heap_new hNA bA_2
    have cA0 := cell_of_heap bA3 0
    have cA1 := cell_of_heap bA3 1
    have cA2 := cell_of_heap bA3 2
    by_cases hlt : j < x.length
    · obtain ⟨b, o, rfl, hb1, hb2, c0, c1, c2, c3, c4⟩ := InssR.at (s.new h1 N3) j hlt
      have hB := Lib.hid (all_bad (p := insS xa.length xb.length x.length) (xs := x) hlt)
      have hT := Lib.hid (all_take (p := insS xa.length xb.length x.length) (xs := x) hlt)
      clear s
      generalize x[j] = y at *
      go_wp2_with fail
      set_option maxRecDepth 100000 in go_still_tail 6, (by kernel_rfl)
      change wpList _ _ _ _ _ wr.drew
      go_wp2_with fail
      refine (InsV.l6Instr y m1 m2 m3).mono ?_
      rintro r w3 ⟨rfl, hn3⟩
      have N4 := N3.drew.trans hn3
      have hNA2 := hNA.drew.trans hn3
      cases hp : insS xa.length xb.length x.length y
      · have hfin := Lib.hid (show codeB xa xb x = false by rw [C.out, hB.out hp]; rfl)
        clear hB hT hG hp
        go_wp2
        go_ret
        exact ⟨retB hfin.out.symm, N4⟩
      · have hG2 := Lib.hid (show (x.take (j + 1)).all (insS xa.length xb.length x.length) = true by rw [hT.out, hG.out, hp]; rfl)
        clear hB hT hG hp
        go_wp2
        go_roundw
        case rel => exact ⟨j + 1, by omega, by go_num, hNA2, hG2⟩
        case measure => simp [intOf]; omega
    · have E := Lib.hid (show codeB xa xb x = (lastOp x == 13 || lastOp x == 8) by
        have h := hG.out
        rw [List.take_of_length_le (by omega)] at h
        rw [C.out, h]; rfl)
      have hge : x.length ≤ j := by omega
      clear hG C
      have hlast : x.length - 1 < x.length := by omega
      obtain ⟨b, o, rfl, hb1, hb2, c0, k1, k2, k3, k4⟩ := InssR.at (s.new h1 N3) (x.length - 1) hlast
      clear k1 k2 k3 k4
      have hl0 := Lib.hid (lastOp_get hlast)
      have hge1 : 1 ≤ x.length := by omega
      have hi1 : ((x.length : Int) - 1).toNat = x.length - 1 := by omega
      generalize x[x.length - 1].op = op at *
      clear s hlast
      by_cases g13 : op = 13
      · have D := Lib.hid (show codeB xa xb x = true by rw [E.out, hl0.out, g13]; rfl)
        have e13 : (op == 13) = true := by simp [g13]
        clear g13 E hl0
        go_wp2
        go_ret
        exact ⟨retB D.out.symm, N3⟩
      · by_cases g8 : op = 8
        · have D := Lib.hid (show codeB xa xb x = true by rw [E.out, hl0.out, g8]; rfl)
          have e13 : (op == 13) = false := by simp [g13]
          have e8 : (op == 8) = true := by simp [g8]
          clear g13 g8 E hl0
          go_wp2
          go_ret
          exact ⟨retB D.out.symm, N3⟩
        · have D := Lib.hid (show codeB xa xb x = false by rw [E.out, hl0.out]; simp [g13, g8])
          have e13 : (op == 13) = false := by simp [g13]
          have e8 : (op == 8) = false := by simp [g8]
          clear g13 g8 E hl0
          go_wp2
          go_ret
          exact ⟨retB D.out.symm, N3⟩
set_option maxHeartbeats 2000000 in
theorem implV {w : World} {lo hi : Nat} {ta tb tc : Value} {xa xb : List Int} {x : List Ins} (sa : IntsR w lo hi ta xa) (sb : IntsR w lo hi tb xb) (s : InssR w lo hi tc x) (h1 : hi ≤ w.heap.size) :
    Calls Try.prog 55 #[.agg #[ta, tb, tc]] w fun e w' => e = .returned (.bool (codeB xa xb x)) ∧ New w w' := by
  obtain ⟨a, c, rfl, m1⟩ := sa.len
  obtain ⟨a1, c1, rfl, m2⟩ := sb.len
  obtain ⟨a2, c2, rfl, m3⟩ := s.len
  go_enter Try.func55, Try.ntmps55
  go_wp2_with fail
  have N0 : New w (w.alloc (.cells #[.slice a xa.length c, .slice a1 xb.length c1, .slice a2 x.length c2] 26)) := ((Kp.refl _ _).alloc _)
  have bA_0 : (w.alloc (.cells #[.slice a xa.length c, .slice a1 xb.length c1, .slice a2 x.length c2] 26)).heap[w.heap.size]? = some (.cells #[.slice a xa.length c, .slice a1 xb.length c1, .slice a2 x.length c2] 26) := alloc_heap _ _
  have z0 : w.heap.size < (w.alloc (.cells #[.slice a xa.length c, .slice a1 xb.length c1, .slice a2 x.length c2] 26)).heap.size := by simp
  generalize (w.alloc (.cells #[.slice a xa.length c, .slice a1 xb.length c1, .slice a2 x.length c2] 26)) = w0 at *
  have bA_0_c0 := cell_of_heap bA_0 0
  have bA_0_c1 := cell_of_heap bA_0 1
  have bA_0_c2 := cell_of_heap bA_0 2
  have sa0 := Lib.hid (sa.new h1 N0)
  have sb0 := Lib.hid (sb.new h1 N0)
  refine (Decl.declared sa0.out sb0.out).mono ?_
  rintro e w' ⟨rfl, rfl⟩
  cases hd : declB xa xb
  · have D := Lib.hid (show codeB xa xb x = false by rw [codeB, hd]; rfl)
    go_wp2
    go_ret
    exact ⟨retB D.out.symm, N0⟩
  have HD := Lib.hid hd
  clear hd
  go_wp2_with fail
  refine (Lab.within _ _ _ _).mono ?_
  rintro e w' ⟨rfl, rfl⟩
  cases hin : Lab.inside (x.length : Int) 1 400
  · have D := Lib.hid (show codeB xa xb x = false by
      have : (decide (1 ≤ x.length) && decide (x.length ≤ 400)) = false := by rw [← hin]; rw [Bool.eq_iff_iff]; simp [Lab.inside]; omega
      simp only [codeB, HD.out, Bool.true_and, this]; simp)
    go_wp2
    go_ret
    exact ⟨retB D.out.symm, N0⟩
  have hin2 : 1 ≤ x.length ∧ x.length ≤ 400 := by simp [Lab.inside] at hin; omega
  obtain ⟨g1, g2⟩ := hin2
  have C := Lib.hid (show codeB xa xb x = ((!(x.any fun y => !insI xa.length xb.length x.length y)) && (lastOp x == 13 || lastOp x == 8)) by
    have e1 : decide (1 ≤ x.length) = true := by rw [decide_eq_true_eq]; omega
    have e2 : decide (x.length ≤ 400) = true := by rw [decide_eq_true_eq]; omega
    have e3 : x.all (insS xa.length xb.length x.length) = !(x.any fun y => !insI xa.length xb.length x.length y) := by
      rw [List.all_eq_not_any_not]; congr 2; funext y; rw [ins_eq]
    rw [codeB, HD.out, e1, e2, e3]; simp)
  clear hin
  go_wp2_with fail
  refine (InsW.containsFuncN 101 (enters_of Try.func101 (by kernel_rfl) rfl) w.heap.size (fun y => !insI xa.length xb.length x.length y) _ (fun w1 y hnw => InsW.lit y m1 m2 m3 (heap_new hnw bA_0)) lo hi _ x (s.new h1 N0) (by omega)).mono ?_
  rintro e w1 ⟨rfl, hn1⟩
  have N1 := N0.trans hn1
  have z1 := hn1.size
  have bA_1 := heap_new hn1 bA_0
  have d0 := cell_of_heap bA_1 0
  have d1 := cell_of_heap bA_1 1
  have d2 := cell_of_heap bA_1 2
  cases hany : x.any fun y => !insI xa.length xb.length x.length y
  rotate_left
  · have D := Lib.hid (show codeB xa xb x = false by rw [C.out, hany]; rfl)
    clear C hany
    go_wp2
    go_ret
    exact ⟨retB D.out.symm, N1⟩
  have E := Lib.hid (show codeB xa xb x = (lastOp x == 13 || lastOp x == 8) by rw [C.out, hany]; rfl)
  clear C hany
  have hlast : x.length - 1 < x.length := by omega
  obtain ⟨b, o, rfl, hb1, hb2, c0, k1, k2, k3, k4⟩ := InssR.at (s.new h1 N1) (x.length - 1) hlast
  clear k1 k2 k3 k4
  have hl0 := Lib.hid (lastOp_get hlast)
  have hge1 : 1 ≤ x.length := by omega
  have hi1 : ((x.length : Int) - 1).toNat = x.length - 1 := by omega
  generalize x[x.length - 1].op = op at *
  clear s hlast
  by_cases g13 : op = 13
  · have D := Lib.hid (show codeB xa xb x = true by rw [E.out, hl0.out, g13]; rfl)
    have e13 : (op == 13) = true := by simp [g13]
    clear g13 E hl0
    go_wp2
    go_ret
    exact ⟨retB D.out.symm, N1⟩
  · by_cases g8 : op = 8
    · have D := Lib.hid (show codeB xa xb x = true by rw [E.out, hl0.out, g8]; rfl)
      have e13 : (op == 13) = false := by simp [g13]
      have e8 : (op == 8) = true := by simp [g8]
      clear g13 g8 E hl0
      go_wp2
      go_ret
      exact ⟨retB D.out.symm, N1⟩
    · have D := Lib.hid (show codeB xa xb x = false by rw [E.out, hl0.out]; simp [g13, g8])
      have e13 : (op == 13) = false := by simp [g13]
      have e8 : (op == 8) = false := by simp [g8]
      clear g13 g8 E hl0
      go_wp2
      go_ret
      exact ⟨retB D.out.symm, N1⟩
end Go.Proofs.Ytljokgoghphgdaa.CodeW
