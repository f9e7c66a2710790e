/- FnFirstDifference: for every input the law returns true, and the arguments read as they did. No conditions. -/
import Derived.Test.YtckikiaockkmbaaRows
import Derived.Test.YtckikiaockkmbaaRDrawO
import Derived.Test.YtckikiaockkmbaaRLawK
import Derived.Test.YtckikiaockkmbaaRP1
import Derived.Deep.RegionHeld3
import Derived.RegionTactic
import Derived.WalkKit
import Derived.ProofKit
import Derived.OpenShut
import Derived.ShutString
import Derived.ChangeOld
import Derived.Below
namespace Go.Proofs.Ytckikiaockkmbaa.fnFirstDifference
open Go.ChangeShapes Go.WideShapes Go.ChangeAt Go.RowKit Kit MarkC
open Go.ChangeMaps (open_string shut_string)
set_option linter.unusedVariables false
theorem own : ownKnob Try.prog.godebug = none := by kernel_rfl
theorem laidOut : laidOutB Try.prog = true := by kernel_rfl
set_option maxHeartbeats 8000000 in
set_option maxRecDepth 100000 in
theorem walk (a0 : Option Addr) (l0 c0 : Nat) (w : World) (s0 : Kit.Src w a0 l0 c0) :
    Calls Try.prog 4 #[.slice a0 l0 c0] w fun e w' => e = .returned (.bool true) ∧ Below w.heap.size w w' := by
  by_cases hl : 1048576 < l0
  · go_enter Try.func4, Try.ntmps4
    go_wp2
    go_ret
    exact ⟨rfl, Below.refl _ _⟩
  · go_enter Try.func4, Try.ntmps4
    go_wp2_with fail
    refine (DrawO.drawFirst _ a0 l0 c0 s0).mono ?_
    rintro e w1 ⟨va, vb, xs, ys, rfl, N1, hA, hB, hx6, hy6⟩
    obtain ⟨aA, dA, rfl, hx63⟩ := hA.len
    obtain ⟨aB, dB, rfl, hy63⟩ := hB.len
    have hca := LawK.cap_r hA
    have hcb := LawK.cap_r hB
    have oA_1 := Lib.hid hA
    have oB_1 := Lib.hid hB
    clear hA hB hx6 hy6
    rcases LawK.fd_spec xs ys 0 with ⟨hK, he⟩ | ⟨m, hK, hm1, hm2, htk, hne, h3⟩
    · subst he
      have hKh := Lib.hid hK
      clear hK
      go_wp2_with fail
      refine (Diff.implFirst w1 _ _ _ _ _ _ xs xs oA_1.out oB_1.out).mono ?_
      rintro e wd ⟨rfl, kd, rfl⟩
      rw [hKh.out]
      have hn2 : New w1 (w1.drewN kd) := drewN_kp _ kd (Kp.refl _ _)
      generalize w1.drewN kd = w2 at *
      have z2 := hn2.size
      have oA_2 := Lib.hid (oA_1.out.new (by omega) hn2)
      have oB_2 := Lib.hid (oB_1.out.new (by omega) hn2)
      have N2 : New w w2 := N1.trans hn2
      clear oA_1 oB_1 N1 hn2
      go_wp2_with fail
      refine (Diff.specFirst w2 _ _ _ _ _ _ xs xs oA_2.out oB_2.out).mono ?_
      rintro e wd ⟨rfl, kd, rfl⟩
      rw [hKh.out]
      have hn3 : New w2 (w2.drewN kd) := drewN_kp _ kd (Kp.refl _ _)
      generalize w2.drewN kd = w3 at *
      have z3 := hn3.size
      have oA_3 := Lib.hid (oA_2.out.new (by omega) hn3)
      have oB_3 := Lib.hid (oB_2.out.new (by omega) hn3)
      have N3 : New w w3 := N2.trans hn3
      clear oA_2 oB_2 N2 hn3
      go_wp2_with fail
      refine (Diff.implFirst w3 _ _ _ _ _ _ xs xs oB_3.out oA_3.out).mono ?_
      rintro e wd ⟨rfl, kd, rfl⟩
      rw [hKh.out]
      have hn4 : New w3 (w3.drewN kd) := drewN_kp _ kd (Kp.refl _ _)
      generalize w3.drewN kd = w4 at *
      have z4 := hn4.size
      have oA_4 := Lib.hid (oA_3.out.new (by omega) hn4)
      have oB_4 := Lib.hid (oB_3.out.new (by omega) hn4)
      have N4 : New w w4 := N3.trans hn4
      clear oA_3 oB_3 N3 hn4
      go_wp2_with fail
      refine (Diff.implSame w4 _ _ _ _ _ _ xs xs oA_4.out oB_4.out).mono ?_
      rintro e w5 ⟨rfl, hn5⟩
      have z5 := hn5.size
      have oA_5 := Lib.hid (oA_4.out.new (by omega) hn5)
      have oB_5 := Lib.hid (oB_4.out.new (by omega) hn5)
      have N5 : New w w5 := N4.trans hn5
      clear oA_4 oB_4 N4 hn5
      rw [show decide (xs = xs) = true by simp]
      go_wp2_with fail
      refine (Diff.implSame w5 _ _ _ _ _ _ xs xs oA_5.out oB_5.out).mono ?_
      rintro e w6 ⟨rfl, hn6⟩
      have z6 := hn6.size
      have oA_6 := Lib.hid (oA_5.out.new (by omega) hn6)
      have oB_6 := Lib.hid (oB_5.out.new (by omega) hn6)
      have N6 : New w w6 := N5.trans hn6
      clear oA_5 oB_5 N5 hn6
      rw [show decide (xs = xs) = true by simp]
      go_wp2_with fail
      refine (Diff.specSame w6 _ _ _ _ _ _ xs xs oA_6.out oB_6.out).mono ?_
      rintro e w7 ⟨rfl, hn7⟩
      have z7 := hn7.size
      have oA_7 := Lib.hid (oA_6.out.new (by omega) hn7)
      have oB_7 := Lib.hid (oB_6.out.new (by omega) hn7)
      have N7 : New w w7 := N6.trans hn7
      clear oA_6 oB_6 N6 hn7
      rw [show decide (xs = xs) = true by simp]
      go_wp2
      go_ret
      exact ⟨rfl, N7.toBelow⟩
    · have hKh := Lib.hid (show Diff.fd xs ys 0 = (m : Int) by rw [hK, Nat.zero_add])
      have hK2 := Lib.hid ((LawK.fd_comm ys xs 0).trans hKh.out)
      have hs := Lib.hid (show decide (xs = ys) = false by simp [hne])
      have hmm : ((m : Int) == -1) = false := by rw [beq_eq_false_iff_ne]; omega
      have hneg : decide ((m : Int) < 0) = false := by rw [decide_eq_false_iff_not]; omega
      have htkh := Lib.hid htk
      have h3h := Lib.hid h3
      clear hK hne htk h3
      go_wp2_with fail
      refine (Diff.implFirst w1 _ _ _ _ _ _ xs ys oA_1.out oB_1.out).mono ?_
      rintro e wd ⟨rfl, kd, rfl⟩
      rw [hKh.out]
      have hn2 : New w1 (w1.drewN kd) := drewN_kp _ kd (Kp.refl _ _)
      generalize w1.drewN kd = w2 at *
      have z2 := hn2.size
      have oA_2 := Lib.hid (oA_1.out.new (by omega) hn2)
      have oB_2 := Lib.hid (oB_1.out.new (by omega) hn2)
      have N2 : New w w2 := N1.trans hn2
      clear oA_1 oB_1 N1 hn2
      go_wp2_with fail
      refine (Diff.specFirst w2 _ _ _ _ _ _ xs ys oA_2.out oB_2.out).mono ?_
      rintro e wd ⟨rfl, kd, rfl⟩
      rw [hKh.out]
      have hn3 : New w2 (w2.drewN kd) := drewN_kp _ kd (Kp.refl _ _)
      generalize w2.drewN kd = w3 at *
      have z3 := hn3.size
      have oA_3 := Lib.hid (oA_2.out.new (by omega) hn3)
      have oB_3 := Lib.hid (oB_2.out.new (by omega) hn3)
      have N3 : New w w3 := N2.trans hn3
      clear oA_2 oB_2 N2 hn3
      go_wp2_with fail
      refine (Diff.implFirst w3 _ _ _ _ _ _ ys xs oB_3.out oA_3.out).mono ?_
      rintro e wd ⟨rfl, kd, rfl⟩
      rw [hK2.out]
      have hn4 : New w3 (w3.drewN kd) := drewN_kp _ kd (Kp.refl _ _)
      generalize w3.drewN kd = w4 at *
      have z4 := hn4.size
      have oA_4 := Lib.hid (oA_3.out.new (by omega) hn4)
      have oB_4 := Lib.hid (oB_3.out.new (by omega) hn4)
      have N4 : New w w4 := N3.trans hn4
      clear oA_3 oB_3 N3 hn4
      go_wp2_with fail
      refine (Diff.implSame w4 _ _ _ _ _ _ xs ys oA_4.out oB_4.out).mono ?_
      rintro e w5 ⟨rfl, hn5⟩
      have z5 := hn5.size
      have oA_5 := Lib.hid (oA_4.out.new (by omega) hn5)
      have oB_5 := Lib.hid (oB_4.out.new (by omega) hn5)
      have N5 : New w w5 := N4.trans hn5
      clear oA_4 oB_4 N4 hn5
      rw [hs.out]
      go_wp2_with fail
      refine (Diff.implSame w5 _ _ _ _ _ _ xs ys oA_5.out oB_5.out).mono ?_
      rintro e w6 ⟨rfl, hn6⟩
      have z6 := hn6.size
      have oA_6 := Lib.hid (oA_5.out.new (by omega) hn6)
      have oB_6 := Lib.hid (oB_5.out.new (by omega) hn6)
      have N6 : New w w6 := N5.trans hn6
      clear oA_5 oB_5 N5 hn6
      rw [hs.out]
      go_wp2_with fail
      refine (Diff.specSame w6 _ _ _ _ _ _ xs ys oA_6.out oB_6.out).mono ?_
      rintro e w7 ⟨rfl, hn7⟩
      have z7 := hn7.size
      have oA_7 := Lib.hid (oA_6.out.new (by omega) hn7)
      have oB_7 := Lib.hid (oB_6.out.new (by omega) hn7)
      have N7 : New w w7 := N6.trans hn7
      clear oA_6 oB_6 N6 hn7
      rw [hs.out]
      have hma : m ≤ dA := by omega
      have hmb : m ≤ dB := by omega
      go_upto_region 9 with fail
      clear hmm hneg
      have G1 : decide (m ≤ xs.length) = true := by simp; omega
      have G2 : decide (m ≤ ys.length) = true := by simp; omega
      have hg1 : decide ((m : Int) ≤ (xs.length : Int)) = true := by rw [decide_eq_true_eq]; omega
      have hg2 : decide ((m : Int) ≤ (ys.length : Int)) = true := by rw [decide_eq_true_eq]; omega
      have zk := N7.size
      by_cases he1 : m = xs.length
      · subst he1
        have hnd : New w7 w7.drew := (Kp.refl _ _).drew
        have zd : w7.drew.heap.size = w7.heap.size := rfl
        refine wp_region_held_drew (S := fun w' => True) (by kernel_rfl) ?_ (fun hHeld => ?_)
        · trivial
        refine HT 0 rfl ?_
        try simp only [AP]
        refine HT 1 rfl ?_
        try simp only [AP]
        refine HT 2 rfl ?_
        try simp only [AP]
        refine HT 3 rfl ?_
        try simp only [AP]
        refine HT 4 rfl ?_
        try simp only [AP]
        refine HT 5 rfl ?_
        try simp only [AP]
        refine HT 6 rfl ?_
        try simp only [AP]
        refine HT 7 rfl ?_
        try simp only [AP]
        refine HT 8 rfl ?_
        try simp only [AP]
        refine HT 9 rfl ?_
        try simp only [AP]
        refine HT 10 rfl ?_
        try simp only [AP]
        refine HT 11 rfl ?_
        try simp only [AP]
        refine HT 12 rfl ?_
        try simp only [AP]
        refine HT 13 rfl ?_
        try simp only [AP]
        refine HT 14 rfl ?_
        try simp only [AP]
        refine HT 15 rfl ?_
        try simp only [AP]
        refine HT 16 rfl ?_
        try simp only [AP]
        refine HR 17 rfl fun K hK => ?_
        go_simp
        refine (Diff.implSame w7.drew _ _ _ _ _ _ (xs.take xs.length) (xs.take xs.length) (DrawO.take_r (oA_7.out.new (by omega) hnd) xs.length (by omega)) (by rw [htkh.out]; exact DrawO.take_r (oB_7.out.new (by omega) hnd) xs.length (by omega))).mono ?_
        rintro e w9 ⟨rfl, hn9⟩
        rw [show decide (xs.take xs.length = xs.take xs.length) = true by simp]
        have hq9 := hnd.trans hn9
        refine hK.out _ _ ?_ (fun hHeld2 => ?_)
        · trivial
        clear hK K hHeld
        have hHeld := hHeld2
        clear hHeld2
        try simp only [AP]
        refine HT 18 rfl ?_
        try simp only [AP]
        refine HT 19 rfl ?_
        try simp only [AP]
        refine HT 20 rfl ?_
        try simp only [AP]
        refine HT 21 rfl ?_
        try simp only [AP]
        refine HT 22 rfl ?_
        try simp only [AP]
        refine HT 23 rfl ?_
        try simp only [AP]
        refine HT 24 rfl ?_
        try simp only [AP]
        refine HS 25 rfl ?_
        try simp only [AP]
        refine HS 26 rfl ?_
        try simp only [AP]
        refine HS 27 rfl ?_
        try simp only [AP]
        refine HS 28 rfl ?_
        try simp only [AP]
        refine HT 29 rfl ?_
        try simp only [AP]
        refine HT 30 rfl ?_
        try simp only [AP]
        refine HS 31 rfl ?_
        try simp only [AP]
        refine HS 32 rfl ?_
        try simp only [AP]
        refine HS 33 rfl ?_
        try simp only [AP]
        refine HS 34 rfl ?_
        try simp only [AP]
        refine HS 35 rfl ?_
        try simp only [AP]
        refine HS 36 rfl ?_
        try simp only [AP]
        refine HS 37 rfl ?_
        try simp only [AP]
        refine HS 38 rfl ?_
        try simp only [AP]
        refine HS 39 rfl ?_
        try simp only [AP]
        refine HT 40 rfl ?_
        try simp only [AP]
        refine HT 41 rfl ?_
        try simp only [AP]
        refine HT 42 rfl ?_
        try simp only [AP]
        refine wpAnyH_done (by kernel_rfl) ?_ _
        go_wp2
        go_ret
        exact ⟨rfl, (N7.trans hq9).toBelow⟩
      have E1 : ((m : Int) == (xs.length : Int)) = false := by rw [beq_eq_false_iff_ne]; omega
      have E1n : (m == xs.length) = false := by rw [beq_eq_false_iff_ne]; exact he1
      have E1d : decide (m = xs.length) = false := by simp [he1]
      by_cases he2 : m = ys.length
      · subst he2
        have hnd : New w7 w7.drew := (Kp.refl _ _).drew
        have zd : w7.drew.heap.size = w7.heap.size := rfl
        refine wp_region_held_drew (S := fun w' => True) (by kernel_rfl) ?_ (fun hHeld => ?_)
        · trivial
        refine HT 0 rfl ?_
        try simp only [AP]
        refine HT 1 rfl ?_
        try simp only [AP]
        refine HT 2 rfl ?_
        try simp only [AP]
        refine HT 3 rfl ?_
        try simp only [AP]
        refine HT 4 rfl ?_
        try simp only [AP]
        refine HT 5 rfl ?_
        try simp only [AP]
        refine HT 6 rfl ?_
        try simp only [AP]
        refine HT 7 rfl ?_
        try simp only [AP]
        refine HT 8 rfl ?_
        try simp only [AP]
        refine HT 9 rfl ?_
        try simp only [AP]
        refine HT 10 rfl ?_
        try simp only [AP]
        refine HT 11 rfl ?_
        try simp only [AP]
        refine HT 12 rfl ?_
        try simp only [AP]
        refine HT 13 rfl ?_
        try simp only [AP]
        refine HT 14 rfl ?_
        try simp only [AP]
        refine HT 15 rfl ?_
        try simp only [AP]
        refine HT 16 rfl ?_
        try simp only [AP]
        refine HR 17 rfl fun K hK => ?_
        go_simp
        refine (Diff.implSame w7.drew _ _ _ _ _ _ (xs.take ys.length) (xs.take ys.length) (DrawO.take_r (oA_7.out.new (by omega) hnd) ys.length (by omega)) (by rw [htkh.out]; exact DrawO.take_r (oB_7.out.new (by omega) hnd) ys.length (by omega))).mono ?_
        rintro e w9 ⟨rfl, hn9⟩
        rw [show decide (xs.take ys.length = xs.take ys.length) = true by simp]
        have hq9 := hnd.trans hn9
        refine hK.out _ _ ?_ (fun hHeld2 => ?_)
        · trivial
        clear hK K hHeld
        have hHeld := hHeld2
        clear hHeld2
        try simp only [AP]
        refine HT 18 rfl ?_
        try simp only [AP]
        refine HT 19 rfl ?_
        try simp only [AP]
        refine HT 20 rfl ?_
        try simp only [AP]
        refine HT 21 rfl ?_
        try simp only [AP]
        refine HT 22 rfl ?_
        try simp only [AP]
        refine HT 23 rfl ?_
        try simp only [AP]
        refine HT 24 rfl ?_
        try simp only [AP]
        refine HT 25 rfl ?_
        try simp only [AP]
        refine HT 26 rfl ?_
        try simp only [AP]
        refine HT 27 rfl ?_
        try simp only [AP]
        refine HT 28 rfl ?_
        try simp only [AP]
        refine HT 29 rfl ?_
        try simp only [AP]
        refine HT 30 rfl ?_
        try simp only [AP]
        refine HS 31 rfl ?_
        try simp only [AP]
        refine HS 32 rfl ?_
        try simp only [AP]
        refine HS 33 rfl ?_
        try simp only [AP]
        refine HS 34 rfl ?_
        try simp only [AP]
        refine HS 35 rfl ?_
        try simp only [AP]
        refine HS 36 rfl ?_
        try simp only [AP]
        refine HS 37 rfl ?_
        try simp only [AP]
        refine HS 38 rfl ?_
        try simp only [AP]
        refine HS 39 rfl ?_
        try simp only [AP]
        refine HT 40 rfl ?_
        try simp only [AP]
        refine HT 41 rfl ?_
        try simp only [AP]
        refine HT 42 rfl ?_
        try simp only [AP]
        refine wpAnyH_done (by kernel_rfl) ?_ _
        go_wp2
        go_ret
        exact ⟨rfl, (N7.trans hq9).toBelow⟩
      have E2 : ((m : Int) == (ys.length : Int)) = false := by rw [beq_eq_false_iff_ne]; omega
      have E2n : (m == ys.length) = false := by rw [beq_eq_false_iff_ne]; exact he2
      obtain ⟨p1, p2, hxy⟩ : ∃ (h1 : m < xs.length) (h2 : m < ys.length), xs[m] ≠ ys[m] := by
        rcases h3h.out with h | h | h
        · exact absurd h he1
        · exact absurd h he2
        · exact h
      obtain ⟨b1, o1, x1, r1, r2, pc0, pc1⟩ := EvsR.at oA_7.out m p1
      obtain ⟨b2, o2, x2, r3, r4, pc2, pc3⟩ := EvsR.at oB_7.out m p2
      cases x1
      cases x2
      by_cases hx1 : xs[m].1 = ys[m].1
      · have hx2 : (xs[m].2 == ys[m].2) = false := by rw [beq_eq_false_iff_ne]; intro h2; exact hxy (Prod.ext hx1 h2)
        rw [← hx1] at pc2
        clear hxy hx1 he1 he2
        generalize hux : xs[m].1 = ux at *
        generalize huy : xs[m].2 = uy at *
        generalize hvy : ys[m].2 = vy at *
        clear hux huy hvy
        have hnd : New w7 w7.drew := (Kp.refl _ _).drew
        have zd : w7.drew.heap.size = w7.heap.size := rfl
        refine wp_region_held_drew (S := fun w' => w'.cell? ⟨b1, o1 + m * 2, none⟩ = some (.int .i64 ux) ∧ w'.cell? ⟨b1, o1 + m * 2 + 1, none⟩ = some (.int .i64 uy) ∧ w'.cell? ⟨b2, o2 + m * 2, none⟩ = some (.int .i64 ux) ∧ w'.cell? ⟨b2, o2 + m * 2 + 1, none⟩ = some (.int .i64 vy)) (by kernel_rfl) ?_ (fun hHeld => ?_)
        · exact ⟨pc0, pc1, pc2, pc3⟩
        refine HT 0 rfl ?_
        try simp only [AP]
        refine HT 1 rfl ?_
        try simp only [AP]
        refine HT 2 rfl ?_
        try simp only [AP]
        refine HT 3 rfl ?_
        try simp only [AP]
        refine HT 4 rfl ?_
        try simp only [AP]
        refine HT 5 rfl ?_
        try simp only [AP]
        refine HT 6 rfl ?_
        try simp only [AP]
        refine HT 7 rfl ?_
        try simp only [AP]
        refine HT 8 rfl ?_
        try simp only [AP]
        refine HT 9 rfl ?_
        try simp only [AP]
        refine HT 10 rfl ?_
        try simp only [AP]
        refine HT 11 rfl ?_
        try simp only [AP]
        refine HT 12 rfl ?_
        try simp only [AP]
        refine HT 13 rfl ?_
        try simp only [AP]
        refine HT 14 rfl ?_
        try simp only [AP]
        refine HT 15 rfl ?_
        try simp only [AP]
        refine HT 16 rfl ?_
        try simp only [AP]
        refine HR 17 rfl fun K hK => ?_
        go_simp
        refine (Diff.implSame w7.drew _ _ _ _ _ _ (xs.take m) (xs.take m) (DrawO.take_r (oA_7.out.new (by omega) hnd) m (by omega)) (by rw [htkh.out]; exact DrawO.take_r (oB_7.out.new (by omega) hnd) m (by omega))).mono ?_
        rintro e w9 ⟨rfl, hn9⟩
        rw [show decide (xs.take m = xs.take m) = true by simp]
        have hq9 := hnd.trans hn9
        have qc0 := (hq9.cell (by omega) (fun f => f) _).trans pc0
        have qc1 := (hq9.cell (by omega) (fun f => f) _).trans pc1
        have qc2 := (hq9.cell (by omega) (fun f => f) _).trans pc2
        have qc3 := (hq9.cell (by omega) (fun f => f) _).trans pc3
        refine hK.out _ _ ?_ (fun hHeld2 => ?_)
        · exact ⟨qc0, qc1, qc2, qc3⟩
        clear hK K hHeld
        have hHeld := hHeld2
        clear hHeld2
        try simp only [AP]
        refine HT 18 rfl ?_
        try simp only [AP]
        refine HT 19 rfl ?_
        try simp only [AP]
        refine HT 20 rfl ?_
        try simp only [AP]
        refine HT 21 rfl ?_
        try simp only [AP]
        refine HT 22 rfl ?_
        try simp only [AP]
        refine HT 23 rfl ?_
        try simp only [AP]
        refine HT 24 rfl ?_
        try simp only [AP]
        refine HT 25 rfl ?_
        try simp only [AP]
        refine HT 26 rfl ?_
        try simp only [AP]
        refine HT 27 rfl ?_
        try simp only [AP]
        refine HT 28 rfl ?_
        try simp only [AP]
        refine HT 29 rfl ?_
        try simp only [AP]
        refine HT 30 rfl ?_
        try simp only [AP]
        refine HT 31 rfl ?_
        try simp only [AP]
        refine HT 32 rfl ?_
        try simp only [AP]
        refine HT 33 rfl ?_
        try simp only [AP]
        refine HT 34 rfl ?_
        try simp only [AP]
        refine HT 35 rfl ?_
        try simp only [AP]
        refine HT 36 rfl ?_
        try simp only [AP]
        refine HT 37 rfl ?_
        try simp only [AP]
        refine HT 38 rfl ?_
        try simp only [AP]
        refine HT 39 rfl ?_
        try simp only [AP]
        refine HT 40 rfl ?_
        try simp only [AP]
        refine HT 41 rfl ?_
        try simp only [AP]
        refine HT 42 rfl ?_
        try simp only [AP]
        refine wpAnyH_done (by kernel_rfl) ?_ _
        go_wp2
        go_ret
        exact ⟨rfl, (N7.trans hq9).toBelow⟩
      · have hx2 : (xs[m].1 == ys[m].1) = false := by rw [beq_eq_false_iff_ne]; exact hx1
        clear hxy hx1 he1 he2
        generalize hux : xs[m].1 = ux at *
        generalize huy : xs[m].2 = uy at *
        generalize hvx : ys[m].1 = vx at *
        generalize hvy : ys[m].2 = vy at *
        clear hux huy hvx hvy
        have hnd : New w7 w7.drew := (Kp.refl _ _).drew
        have zd : w7.drew.heap.size = w7.heap.size := rfl
        refine wp_region_held_drew (S := fun w' => w'.cell? ⟨b1, o1 + m * 2, none⟩ = some (.int .i64 ux) ∧ w'.cell? ⟨b1, o1 + m * 2 + 1, none⟩ = some (.int .i64 uy) ∧ w'.cell? ⟨b2, o2 + m * 2, none⟩ = some (.int .i64 vx) ∧ w'.cell? ⟨b2, o2 + m * 2 + 1, none⟩ = some (.int .i64 vy)) (by kernel_rfl) ?_ (fun hHeld => ?_)
        · exact ⟨pc0, pc1, pc2, pc3⟩
        refine HT 0 rfl ?_
        try simp only [AP]
        refine HT 1 rfl ?_
        try simp only [AP]
        refine HT 2 rfl ?_
        try simp only [AP]
        refine HT 3 rfl ?_
        try simp only [AP]
        refine HT 4 rfl ?_
        try simp only [AP]
        refine HT 5 rfl ?_
        try simp only [AP]
        refine HT 6 rfl ?_
        try simp only [AP]
        refine HT 7 rfl ?_
        try simp only [AP]
        refine HT 8 rfl ?_
        try simp only [AP]
        refine HT 9 rfl ?_
        try simp only [AP]
        refine HT 10 rfl ?_
        try simp only [AP]
        refine HT 11 rfl ?_
        try simp only [AP]
        refine HT 12 rfl ?_
        try simp only [AP]
        refine HT 13 rfl ?_
        try simp only [AP]
        refine HT 14 rfl ?_
        try simp only [AP]
        refine HT 15 rfl ?_
        try simp only [AP]
        refine HT 16 rfl ?_
        try simp only [AP]
        refine HR 17 rfl fun K hK => ?_
        go_simp
        refine (Diff.implSame w7.drew _ _ _ _ _ _ (xs.take m) (xs.take m) (DrawO.take_r (oA_7.out.new (by omega) hnd) m (by omega)) (by rw [htkh.out]; exact DrawO.take_r (oB_7.out.new (by omega) hnd) m (by omega))).mono ?_
        rintro e w9 ⟨rfl, hn9⟩
        rw [show decide (xs.take m = xs.take m) = true by simp]
        have hq9 := hnd.trans hn9
        have qc0 := (hq9.cell (by omega) (fun f => f) _).trans pc0
        have qc1 := (hq9.cell (by omega) (fun f => f) _).trans pc1
        have qc2 := (hq9.cell (by omega) (fun f => f) _).trans pc2
        have qc3 := (hq9.cell (by omega) (fun f => f) _).trans pc3
        refine hK.out _ _ ?_ (fun hHeld2 => ?_)
        · exact ⟨qc0, qc1, qc2, qc3⟩
        clear hK K hHeld
        have hHeld := hHeld2
        clear hHeld2
        try simp only [AP]
        refine HT 18 rfl ?_
        try simp only [AP]
        refine HT 19 rfl ?_
        try simp only [AP]
        refine HT 20 rfl ?_
        try simp only [AP]
        refine HT 21 rfl ?_
        try simp only [AP]
        refine HT 22 rfl ?_
        try simp only [AP]
        refine HT 23 rfl ?_
        try simp only [AP]
        refine HT 24 rfl ?_
        try simp only [AP]
        refine HT 25 rfl ?_
        try simp only [AP]
        refine HT 26 rfl ?_
        try simp only [AP]
        refine HT 27 rfl ?_
        try simp only [AP]
        refine HT 28 rfl ?_
        try simp only [AP]
        refine HT 29 rfl ?_
        try simp only [AP]
        refine HT 30 rfl ?_
        try simp only [AP]
        refine HT 31 rfl ?_
        try simp only [AP]
        refine HT 32 rfl ?_
        try simp only [AP]
        refine HT 33 rfl ?_
        try simp only [AP]
        refine HT 34 rfl ?_
        try simp only [AP]
        refine HT 35 rfl ?_
        try simp only [AP]
        refine HT 36 rfl ?_
        try simp only [AP]
        refine HT 37 rfl ?_
        try simp only [AP]
        refine HT 38 rfl ?_
        try simp only [AP]
        refine HT 39 rfl ?_
        try simp only [AP]
        refine HT 40 rfl ?_
        try simp only [AP]
        refine HT 41 rfl ?_
        try simp only [AP]
        refine HT 42 rfl ?_
        try simp only [AP]
        refine wpAnyH_done (by kernel_rfl) ?_ _
        go_wp2
        go_ret
        exact ⟨rfl, (N7.trans hq9).toBelow⟩
set_option maxRecDepth 100000 in
theorem lifted (os : Os) (started : os.Started) (H : Type) (enc : TypeId × Value → H) :
    ReturnsInHanded {} Try.checked os 4 .any (Rows.fnFirstDifferenceSpec.pre6 enc Try.prog Try.f4 Rows.fnFirstDifferenceRow.domain false) (Rows.fnFirstDifferenceSpec.post enc Try.prog Try.f4 false true false false) := by
  refine returnsInHanded_of_change (C := Try.checked) own started (by kernel_rfl) Try.func4
    (ChangeSpec.witness6 (enc := enc) (C := Try.checked) false ⟨#[], #[.slice none 0 0], []⟩ 8 (by kernel_rfl) (by kernel_rfl) (by kernel_rfl) (by kernel_rfl)) ?_
  intro W base args ds gs before hval0 hW hcnd _
  have hval : ∀ (j : Nat) t v, Try.f4.params[j]? = some t → args[j]? = some v → Value.okWide Try.prog W .any base t v := hval0
  have hW' := hW
  obtain ⟨p, q, hA0, hV, rfl, hfz, hnd⟩ := hW
  have hA : DataW.TrodAll enc Try.prog W 0 (fun _ => true) true Try.f4.params.toList args.toList ds p := hA0
  rw [Try.params4] at hA hval
  obtain ⟨v0, vs0, d0, ds0, p0, q0, hargs, rfl, rfl, h0, r0⟩ := trodAll_cons hA
  obtain ⟨rfl, rfl, rfl⟩ := trodAll_nil r0
  obtain rfl : args = #[v0] := by cases args; simp_all
  obtain ⟨rfl, rfl⟩ := trodVars_none hV
  have kk0 := h0
  have lt0 : ∀ x ∈ p0, x.block < W.heap.size := by obtain ⟨m, hm⟩ := kk0; exact DataW.trod_lt m _ _ _ hm
  obtain ⟨a0, l0, c0, rfl, s0⟩ := Kit.open_bytes Try.underlying22 Try.underlying5 (by kernel_rfl) (hval 0 22 v0 rfl rfl) h0
  clear hA0 hval0
  refine (walk a0 l0 c0 W s0).mono fun e W' ⟨he, bel⟩ => ?_
  subst he
  exact ⟨_, rfl, _, _, _, [], _, [], hW', trodAll_mk1 (shut_bool Try.underlying4 _), (trodAll_cons_mk (Below.trod laidOut (by kernel_rfl) (of_decide_eq_true (by kernel_rfl)) kk0 bel lt0) trodAll_mk0), rfl, bel.frame _, fun h => by cases h⟩
theorem over : Rows.fnFirstDifferenceRow.holds Try.pinned (OpenSpec.ofChange Rows.fnFirstDifferenceSpec) :=
  OpenClaim.holds_of_wide 4 Try.f4 rfl rfl rfl rfl rfl rfl rfl ⟨rfl, rfl, rfl, rfl, rfl⟩ rfl rfl rfl rfl rfl (by kernel_rfl) Try.func4 (by kernel_rfl)
    (of_decide_eq_true (by kernel_rfl)) (by unfold Func.isWrapper; first | (rw [if_pos (by decide +kernel)]; kernel_rfl) | (rw [if_neg (by decide +kernel)]; exact ⟨rfl, rfl⟩))
    (fun os started H enc _ => lifted os started H enc)
theorem proved : Rows.FnFirstDifferenceSaid := over
#print axioms proved
end Go.Proofs.Ytckikiaockkmbaa.fnFirstDifference
