/- FnProgramWrites: for every input the law returns true, and the arguments read as they did. No conditions. -/
import Derived.Test.YtckikiaockkmbaaRows
import Derived.Test.YtckikiaockkmbaaDrawY
import Derived.Test.YtckikiaockkmbaaPgmV
import Derived.Test.YtckikiaockkmbaaWrI
import Derived.Test.YtckikiaockkmbaaCtB
import Derived.Test.YtckikiaockkmbaaLawW
import Derived.Test.YtckikiaockkmbaaLawT
import Derived.Test.YtckikiaockkmbaaShort
import Derived.WalkKit
import Derived.ProofKit
import Derived.OpenShut
import Derived.ShutString
import Derived.ChangeOld
import Derived.Below
namespace Go.Proofs.Ytckikiaockkmbaa.fnProgramWrites
open Go.ChangeShapes Go.WideShapes Go.ChangeAt Go.RowKit Kit MarkC
open Go.ChangeMaps (open_string shut_string)
set_option linter.unusedVariables false
theorem own : ownKnob Try.prog.godebug = none := by kernel_rfl
theorem laidOut : laidOutB Try.prog = true := by kernel_rfl
set_option maxHeartbeats 16000000 in
theorem walk (a0 : Option Addr) (l0 c0 : Nat) (a1 : Option Addr) (l1 c1 : Nat) (w : World) (s0 : Kit.Src w a0 l0 c0) (s1 : Kit.Src w a1 l1 c1) :
    Calls Try.prog 5 #[.slice a0 l0 c0, .slice a1 l1 c1] w fun e w' => e = .returned (.bool true) ∧ Below w.heap.size w w' := by
  by_cases hl : 1048576 < l0
  · go_enter Try.func5, Try.ntmps5
    go_wp2
    go_ret
    exact ⟨rfl, Below.refl _ _⟩
  have hl1 : ¬ 1048576 < l0 := hl
  clear hl
  by_cases hl : 1048576 < l1
  · go_enter Try.func5, Try.ntmps5
    go_wp2
    go_ret
    exact ⟨rfl, Below.refl _ _⟩
  · go_enter Try.func5, Try.ntmps5
    go_wp2_with fail
    refine (DrawY.drawWrites _ a0 l0 c0 s0).mono ?_
    rintro e w1 ⟨va, vb, vc, ya, yb, m, rfl, N1, hA, hB, hC, hl2⟩
    obtain ⟨e1, f1, rfl, _⟩ := hA.len
    obtain ⟨e2, f2, rfl, _⟩ := hB.len
    obtain ⟨e3, f3, rfl, _⟩ := hC.len
    have hml : m.length ≤ 1000000 := by have := St.length_sizes m; omega
    have oA_1 := Lib.hid hA
    have oB_1 := Lib.hid hB
    have oC_1 := Lib.hid hC
    clear hA hB hC
    have zw := N1.size
    have hn2 : New w1 (w1.alloc (.cells #[.slice e1 ya.length f1, .slice e2 yb.length f2, .slice e3 m.length f3] 37)) := (Kp.refl _ _).alloc _
    have bA_2 : (w1.alloc (.cells #[.slice e1 ya.length f1, .slice e2 yb.length f2, .slice e3 m.length f3] 37)).heap[w1.heap.size]? = some (.cells #[.slice e1 ya.length f1, .slice e2 yb.length f2, .slice e3 m.length f3] 37) := alloc_heap _ _
    have y2 : w1.heap.size < (w1.alloc (.cells #[.slice e1 ya.length f1, .slice e2 yb.length f2, .slice e3 m.length f3] 37)).heap.size := by simp
    go_upto_region 4 with fail
    generalize (w1.alloc (.cells #[.slice e1 ya.length f1, .slice e2 yb.length f2, .slice e3 m.length f3] 37)) = w2 at *
    have z2 := hn2.size
    have oA_2 := Lib.hid (oA_1.out.new (by omega) hn2)
    have oB_2 := Lib.hid (oB_1.out.new (by omega) hn2)
    have oC_2 := Lib.hid (oC_1.out.new (by omega) hn2)
    have N2 : New w w2 := N1.trans hn2
    clear oA_1 oB_1 oC_1 N1 hn2
    obtain ⟨cA0, cA1, cA2⟩ := cells3 bA_2
    have lA := heap_lt bA_2
    go_wp2_with fail
    clear cA0 cA1 cA2 lA
    refine (WrI.implW (xa := ya) (xb := yb) (l := m) oA_2.out oB_2.out oC_2.out (by omega)).mono ?_
    rintro e w3 ⟨vVX, vUX, rfl, hn3, hVX, hUX, -⟩
    have z3 := hn3.size
    have bA_3 := hn3.bk bA_2
    have oA_3 := Lib.hid (oA_2.out.new (by omega) hn3)
    have oB_3 := Lib.hid (oB_2.out.new (by omega) hn3)
    have oC_3 := Lib.hid (oC_2.out.new (by omega) hn3)
    have N3 : New w w3 := N2.trans hn3
    clear bA_2 oA_2 oB_2 oC_2 N2 hn3
    obtain ⟨aVX, dVX, rfl, _⟩ := hVX.reads.len
    obtain ⟨aUX, dUX, rfl, _⟩ := hUX.reads.len
    have oVX_3 := Lib.hid hVX.reads
    have oUX_3 := Lib.hid hUX.reads
    clear hVX hUX
    obtain ⟨cA0, cA1, cA2⟩ := cells3 bA_3
    have lA := heap_lt bA_3
    go_wp2_with fail
    clear cA0 cA1 cA2 lA
    refine (WrI.specW (xa := ya) (xb := yb) (l := m) oA_3.out oB_3.out oC_3.out (by omega) (by omega)).mono ?_
    rintro e w4 ⟨vVY, vUY, rfl, hn4, hVY, hUY, -⟩
    have z4 := hn4.size
    have bA_4 := hn4.bk bA_3
    have oA_4 := Lib.hid (oA_3.out.new (by omega) hn4)
    have oB_4 := Lib.hid (oB_3.out.new (by omega) hn4)
    have oC_4 := Lib.hid (oC_3.out.new (by omega) hn4)
    have oVX_4 := Lib.hid (oVX_3.out.new (by omega) hn4)
    have oUX_4 := Lib.hid (oUX_3.out.new (by omega) hn4)
    have N4 : New w w4 := N3.trans hn4
    clear bA_3 oA_3 oB_3 oC_3 oVX_3 oUX_3 N3 hn4
    obtain ⟨aVY, dVY, rfl, _⟩ := hVY.reads.len
    obtain ⟨aUY, dUY, rfl, _⟩ := hUY.reads.len
    have oVY_4 := Lib.hid hVY.reads
    have oUY_4 := Lib.hid hUY.reads
    clear hVY hUY
    obtain ⟨cA0, cA1, cA2⟩ := cells3 bA_4
    have lA := heap_lt bA_4
    go_wp2_with fail
    clear cA0 cA1 cA2 lA
    refine (CtB.ctBools _ _ _ _ _ _ _ _ _ oVX_4.out oVY_4.out).mono ?_
    rintro e wd ⟨rfl, kd, rfl⟩
    have hn5 : New w4 (w4.drewN kd) := drewN_kp _ kd (Kp.refl _ _)
    generalize w4.drewN kd = w5 at *
    have z5 := hn5.size
    have bA_5 := hn5.bk bA_4
    have oA_5 := Lib.hid (oA_4.out.new (by omega) hn5)
    have oB_5 := Lib.hid (oB_4.out.new (by omega) hn5)
    have oC_5 := Lib.hid (oC_4.out.new (by omega) hn5)
    have oVX_5 := Lib.hid (oVX_4.out.new (by omega) hn5)
    have oUX_5 := Lib.hid (oUX_4.out.new (by omega) hn5)
    have oVY_5 := Lib.hid (oVY_4.out.new (by omega) hn5)
    have oUY_5 := Lib.hid (oUY_4.out.new (by omega) hn5)
    have N5 : New w w5 := N4.trans hn5
    clear bA_4 oA_4 oB_4 oC_4 oVX_4 oUX_4 oVY_4 oUY_4 N4 hn5
    rw [decide_eq_true rfl]
    obtain ⟨cA0, cA1, cA2⟩ := cells3 bA_5
    have lA := heap_lt bA_5
    go_wp2_with fail
    clear cA0 cA1 cA2 lA
    refine (CtB.ctBools _ _ _ _ _ _ _ _ _ oUX_5.out oUY_5.out).mono ?_
    rintro e wd ⟨rfl, kd, rfl⟩
    have hn6 : New w5 (w5.drewN kd) := drewN_kp _ kd (Kp.refl _ _)
    generalize w5.drewN kd = w6 at *
    have z6 := hn6.size
    have bA_6 := hn6.bk bA_5
    have oA_6 := Lib.hid (oA_5.out.new (by omega) hn6)
    have oB_6 := Lib.hid (oB_5.out.new (by omega) hn6)
    have oC_6 := Lib.hid (oC_5.out.new (by omega) hn6)
    have oVX_6 := Lib.hid (oVX_5.out.new (by omega) hn6)
    have oUX_6 := Lib.hid (oUX_5.out.new (by omega) hn6)
    have oVY_6 := Lib.hid (oVY_5.out.new (by omega) hn6)
    have oUY_6 := Lib.hid (oUY_5.out.new (by omega) hn6)
    have N6 : New w w6 := N5.trans hn6
    clear bA_5 oA_5 oB_5 oC_5 oVX_5 oUX_5 oVY_5 oUY_5 N5 hn6
    rw [decide_eq_true rfl]
    obtain ⟨cA0, cA1, cA2⟩ := cells3 bA_6
    have lA := heap_lt bA_6
    go_wp2_with fail
    clear cA0 cA1 cA2 lA
    refine (PgmV.specP (xa := ya) (xb := yb) (l := m) oA_6.out oB_6.out oC_6.out (by omega) (by omega)).mono ?_
    rintro e w7 ⟨rfl, hn7⟩
    have z7 := hn7.size
    have bA_7 := hn7.bk bA_6
    have oA_7 := Lib.hid (oA_6.out.new (by omega) hn7)
    have oB_7 := Lib.hid (oB_6.out.new (by omega) hn7)
    have oC_7 := Lib.hid (oC_6.out.new (by omega) hn7)
    have oVX_7 := Lib.hid (oVX_6.out.new (by omega) hn7)
    have oUX_7 := Lib.hid (oUX_6.out.new (by omega) hn7)
    have oVY_7 := Lib.hid (oVY_6.out.new (by omega) hn7)
    have oUY_7 := Lib.hid (oUY_6.out.new (by omega) hn7)
    have N7 : New w w7 := N6.trans hn7
    clear bA_6 oA_6 oB_6 oC_6 oVX_6 oUX_6 oVY_6 oUY_6 N6 hn7
    cases hp : Val.progB ya yb m
    · clear hp
      obtain ⟨cA0, cA1, cA2⟩ := cells3 bA_7
      have lA := heap_lt bA_7
      go_wp2_with fail
      clear cA0 cA1 cA2 lA
      refine (CtB.ctBools _ _ _ _ _ _ _ _ _ oVX_7.out oVY_7.out).mono ?_
      rintro e wd ⟨rfl, kd, rfl⟩
      have hn8 : New w7 (w7.drewN kd) := drewN_kp _ kd (Kp.refl _ _)
      generalize w7.drewN kd = w8 at *
      have z8 := hn8.size
      have bA_8 := hn8.bk bA_7
      have oA_8 := Lib.hid (oA_7.out.new (by omega) hn8)
      have oB_8 := Lib.hid (oB_7.out.new (by omega) hn8)
      have oC_8 := Lib.hid (oC_7.out.new (by omega) hn8)
      have oVX_8 := Lib.hid (oVX_7.out.new (by omega) hn8)
      have oUX_8 := Lib.hid (oUX_7.out.new (by omega) hn8)
      have oVY_8 := Lib.hid (oVY_7.out.new (by omega) hn8)
      have oUY_8 := Lib.hid (oUY_7.out.new (by omega) hn8)
      have N8 : New w w8 := N7.trans hn8
      clear bA_7 oA_7 oB_7 oC_7 oVX_7 oUX_7 oVY_7 oUY_7 N7 hn8
      rw [decide_eq_true rfl]
      obtain ⟨cA0, cA1, cA2⟩ := cells3 bA_8
      have lA := heap_lt bA_8
      go_wp2_with fail
      clear cA0 cA1 cA2 lA
      refine (CtB.ctBools _ _ _ _ _ _ _ _ _ oUX_8.out oUY_8.out).mono ?_
      rintro e wd ⟨rfl, kd, rfl⟩
      have hn9 : New w8 (w8.drewN kd) := drewN_kp _ kd (Kp.refl _ _)
      generalize w8.drewN kd = w9 at *
      have z9 := hn9.size
      have bA_9 := hn9.bk bA_8
      have oA_9 := Lib.hid (oA_8.out.new (by omega) hn9)
      have oB_9 := Lib.hid (oB_8.out.new (by omega) hn9)
      have oC_9 := Lib.hid (oC_8.out.new (by omega) hn9)
      have oVX_9 := Lib.hid (oVX_8.out.new (by omega) hn9)
      have oUX_9 := Lib.hid (oUX_8.out.new (by omega) hn9)
      have oVY_9 := Lib.hid (oVY_8.out.new (by omega) hn9)
      have oUY_9 := Lib.hid (oUY_8.out.new (by omega) hn9)
      have N9 : New w w9 := N8.trans hn9
      clear bA_8 oA_8 oB_8 oC_8 oVX_8 oUX_8 oVY_8 oUY_8 N8 hn9
      rw [decide_eq_true rfl]
      obtain ⟨cA0, cA1, cA2⟩ := cells3 bA_9
      have lA := heap_lt bA_9
      go_wp2
      go_ret
      exact ⟨rfl, N9.toBelow⟩
    · clear oVY_7
      clear oUY_7
      obtain ⟨kk, hkk⟩ : ∃ kk, l1 % (m.length + 1) = kk := ⟨_, rfl⟩
      have hkl : kk ≤ m.length := hkk ▸ Nat.le_of_lt_succ (Nat.mod_lt l1 (Nat.succ_pos _))
      have hw : (l1 : Int) % ((m.length : Int) + 1) = (kk : Int) := by rw [← hkk]; simp
      clear hkk
      have hcap := LawT.sts_cap oC_7.out
      have hkf : kk ≤ f3 := Nat.le_trans hkl hcap
      obtain ⟨hp1, hp2⟩ := LawT.progB_split kk hp
      have hq0 := Lib.hid (WrI.wrB_len hp)
      have hq1 := Lib.hid (WrI.wrB_len hp1)
      have hq2 := Lib.hid (WrI.wrB_len hp2)
      have hs1 := Lib.hid (fun i h0 h1 h2 => LawW.wrB_get1 kk hp i h0 h1 h2)
      have hs2 := Lib.hid (fun i h0 h1 h2 => LawW.wrB_get2 kk hp i h0 h1 h2)
      clear hp hp1 hp2
      obtain ⟨cA0, cA1, cA2⟩ := cells3 bA_7
      have lA := heap_lt bA_7
      go_wp2_with fail
      rw [hw]
      clear hw
      clear cA0 cA1 cA2 lA
      have hnd : New w7 w7.drew := (Kp.refl _ _).drew
      have zd := hnd.size
      refine wp_region_held_drew (S := fun w' => w'.cell? ⟨w1.heap.size, 0, none⟩ = some (.slice e1 ya.length f1) ∧ w'.cell? ⟨w1.heap.size, 1, none⟩ = some (.slice e2 yb.length f2) ∧ w'.cell? ⟨w1.heap.size, 2, none⟩ = some (.slice e3 m.length f3)) (by kernel_rfl) ?_ (fun hHeld => ?_)
      · exact ⟨cell_of_heap bA_7 0, cell_of_heap bA_7 1, cell_of_heap bA_7 2⟩
      refine HT 0 rfl ?_
      try simp only [AP]
      refine HT 1 rfl ?_
      try simp only [AP]
      refine HT 2 rfl ?_
      try simp only [AP]
      refine HT 3 rfl ?_
      try simp only [AP]
      refine HT 4 rfl ?_
      try simp only [AP]
      refine HT 5 rfl ?_
      try simp only [AP]
      refine HT 6 rfl ?_
      try simp only [AP]
      refine HT 7 rfl ?_
      try simp only [AP]
      refine HT 8 rfl ?_
      try simp only [AP]
      refine HR 9 rfl fun K hK => ?_
      go_simp
      refine (WrI.implW (xa := ya) (xb := yb) (l := m.take kk) (oA_7.out.new (by omega) hnd) (oB_7.out.new (by omega) hnd) (LawT.sts_take (oC_7.out.new (by omega) hnd) kk hkl) (by have := hnd.size; omega)).mono ?_
      rintro e w8 ⟨vVT, vUT, rfl, hn8, hVT, hUT, -⟩
      have hq8 := hnd.trans hn8
      have bA_8 := hq8.bk bA_7
      go_simp
      refine hK.out _ _ ?_ (fun hHeld2 => ?_)
      · exact ⟨cell_of_heap bA_8 0, cell_of_heap bA_8 1, cell_of_heap bA_8 2⟩
      clear hK K hHeld
      have hHeld := hHeld2
      clear hHeld2
      try simp only [AP]
      refine HT 10 rfl ?_
      try simp only [AP]
      refine HT 11 rfl ?_
      try simp only [AP]
      refine HT 12 rfl ?_
      try simp only [AP]
      refine HT 13 rfl ?_
      try simp only [AP]
      refine HT 14 rfl ?_
      try simp only [AP]
      refine wpAnyH_done (by kernel_rfl) ?_ _
      have hn8 := hq8
      clear hnd hq8 bA_8
      have z8 := hn8.size
      have bA_8 := hn8.bk bA_7
      have oA_8 := Lib.hid (oA_7.out.new (by omega) hn8)
      have oB_8 := Lib.hid (oB_7.out.new (by omega) hn8)
      have oC_8 := Lib.hid (oC_7.out.new (by omega) hn8)
      have oVX_8 := Lib.hid (oVX_7.out.new (by omega) hn8)
      have oUX_8 := Lib.hid (oUX_7.out.new (by omega) hn8)
      have N8 : New w w8 := N7.trans hn8
      clear bA_7 oA_7 oB_7 oC_7 oVX_7 oUX_7 N7 hn8
      obtain ⟨aVT, dVT, rfl, _⟩ := hVT.reads.len
      obtain ⟨aUT, dUT, rfl, _⟩ := hUT.reads.len
      have oVT_8 := Lib.hid hVT.reads
      have oUT_8 := Lib.hid hUT.reads
      clear hVT hUT
      obtain ⟨cA0, cA1, cA2⟩ := cells3 bA_8
      have lA := heap_lt bA_8
      go_wp2_with fail
      clear cA0 cA1 cA2 lA
      have hnd : New w8 w8.drew := (Kp.refl _ _).drew
      have zd := hnd.size
      refine wp_region_held_drew (S := fun w' => w'.cell? ⟨w1.heap.size, 0, none⟩ = some (.slice e1 ya.length f1) ∧ w'.cell? ⟨w1.heap.size, 1, none⟩ = some (.slice e2 yb.length f2) ∧ w'.cell? ⟨w1.heap.size, 2, none⟩ = some (.slice e3 m.length f3)) (by kernel_rfl) ?_ (fun hHeld => ?_)
      · exact ⟨cell_of_heap bA_8 0, cell_of_heap bA_8 1, cell_of_heap bA_8 2⟩
      refine HT 0 rfl ?_
      try simp only [AP]
      refine HT 1 rfl ?_
      try simp only [AP]
      refine HT 2 rfl ?_
      try simp only [AP]
      refine HT 3 rfl ?_
      try simp only [AP]
      refine HT 4 rfl ?_
      try simp only [AP]
      refine HT 5 rfl ?_
      try simp only [AP]
      refine HT 6 rfl ?_
      try simp only [AP]
      refine HT 7 rfl ?_
      try simp only [AP]
      refine HT 8 rfl ?_
      try simp only [AP]
      refine HR 9 rfl fun K hK => ?_
      go_simp
      refine (WrI.implW (xa := ya) (xb := yb) (l := m.drop kk) (oA_8.out.new (by omega) hnd) (oB_8.out.new (by omega) hnd) (LawT.sts_from (oC_8.out.new (by omega) hnd) kk hkl) (by have := hnd.size; omega)).mono ?_
      rintro e w9 ⟨vVD, vUD, rfl, hn9, hVD, hUD, -⟩
      have hq9 := hnd.trans hn9
      have bA_9 := hq9.bk bA_8
      go_simp
      refine hK.out _ _ ?_ (fun hHeld2 => ?_)
      · exact ⟨cell_of_heap bA_9 0, cell_of_heap bA_9 1, cell_of_heap bA_9 2⟩
      clear hK K hHeld
      have hHeld := hHeld2
      clear hHeld2
      try simp only [AP]
      refine HT 10 rfl ?_
      try simp only [AP]
      refine HT 11 rfl ?_
      try simp only [AP]
      refine HT 12 rfl ?_
      try simp only [AP]
      refine HT 13 rfl ?_
      try simp only [AP]
      refine HT 14 rfl ?_
      try simp only [AP]
      refine wpAnyH_done (by kernel_rfl) ?_ _
      have hn9 := hq9
      clear hnd hq9 bA_9
      have z9 := hn9.size
      have bA_9 := hn9.bk bA_8
      have oA_9 := Lib.hid (oA_8.out.new (by omega) hn9)
      have oB_9 := Lib.hid (oB_8.out.new (by omega) hn9)
      have oC_9 := Lib.hid (oC_8.out.new (by omega) hn9)
      have oVX_9 := Lib.hid (oVX_8.out.new (by omega) hn9)
      have oUX_9 := Lib.hid (oUX_8.out.new (by omega) hn9)
      have oVT_9 := Lib.hid (oVT_8.out.new (by omega) hn9)
      have oUT_9 := Lib.hid (oUT_8.out.new (by omega) hn9)
      have N9 : New w w9 := N8.trans hn9
      clear bA_8 oA_8 oB_8 oC_8 oVX_8 oUX_8 oVT_8 oUT_8 N8 hn9
      obtain ⟨aVD, dVD, rfl, _⟩ := hVD.reads.len
      obtain ⟨aUD, dUD, rfl, _⟩ := hUD.reads.len
      have oVD_9 := Lib.hid hVD.reads
      have oUD_9 := Lib.hid hUD.reads
      clear hVD hUD
      go_wp2_with fail
      all_goals
        go_loopw [15] (fun i wr => ∃ j : Nat, j ≤ (WrC.wrB ya yb m).1.length ∧ i = .int .i64 j ∧ ∃ k, wr = w9.drewN k) (fun i _ => (WrC.wrB ya yb m).1.length - (intOf i).toNat)
        case atStart => exact ⟨0, Nat.zero_le _, rfl, 0, rfl⟩
        case round =>
          obtain ⟨j, hj, rfl, kd, rfl⟩ := hrel
          by_cases hlt : j < (WrC.wrB ya yb m).1.length
          · have t1 : j < (WrC.wrB ya yb (m.take kk)).1.length := by have := hq0.out; have := hq1.out; omega
            have t2 : j < (WrC.wrB ya yb (m.drop kk)).1.length := by have := hq0.out; have := hq2.out; omega
            have hb := hs1.out j hlt t1 t2
            obtain ⟨g0, p0, x0, -, -, c0⟩ := BoolsR.at oVX_9.out j hlt
            obtain ⟨g1, p1, x1, -, -, c1⟩ := BoolsR.at oVT_9.out j t1
            obtain ⟨g2, p2, x2, -, -, c2⟩ := BoolsR.at oVD_9.out j t2
            cases x0
            cases x1
            cases x2
            rw [hb] at c0
            clear hb
            generalize (WrC.wrB ya yb (m.take kk)).1[j] = y1 at *
            generalize (WrC.wrB ya yb (m.drop kk)).1[j] = y2 at *
            cases y1
            all_goals
              cases y2
            all_goals
              go_wp2_with fail
              go_quiet (fail)
              go_wp2
              go_roundw
              case rel => exact ⟨j + 1, by omega, by go_num, _, by first | rfl | exact World.drewN_drewN _ _ _⟩
              case measure => simp [intOf]; omega
          · have hge : (WrC.wrB ya yb m).1.length ≤ j := by omega
            clear hlt
            have hn10 : New w9 (w9.drewN kd) := drewN_kp _ kd (Kp.refl _ _)
            go_upto_region 16 with fail
            generalize w9.drewN kd = w10 at *
            have z10 := hn10.size
            have bA_10 := hn10.bk bA_9
            have oA_10 := Lib.hid (oA_9.out.new (by omega) hn10)
            have oB_10 := Lib.hid (oB_9.out.new (by omega) hn10)
            have oC_10 := Lib.hid (oC_9.out.new (by omega) hn10)
            have oVX_10 := Lib.hid (oVX_9.out.new (by omega) hn10)
            have oUX_10 := Lib.hid (oUX_9.out.new (by omega) hn10)
            have oVT_10 := Lib.hid (oVT_9.out.new (by omega) hn10)
            have oUT_10 := Lib.hid (oUT_9.out.new (by omega) hn10)
            have oVD_10 := Lib.hid (oVD_9.out.new (by omega) hn10)
            have oUD_10 := Lib.hid (oUD_9.out.new (by omega) hn10)
            have N10 : New w w10 := N9.trans hn10
            clear bA_9 oA_9 oB_9 oC_9 oVX_9 oUX_9 oVT_9 oUT_9 oVD_9 oUD_9 N9 hn10
            go_wp2_with fail
            go_loopw [16] (fun i wr => ∃ j : Nat, j ≤ (WrC.wrB ya yb m).2.length ∧ i = .int .i64 j ∧ ∃ k, wr = w10.drewN k) (fun i _ => (WrC.wrB ya yb m).2.length - (intOf i).toNat)
            case atStart => exact ⟨0, Nat.zero_le _, rfl, 0, rfl⟩
            case round =>
              obtain ⟨j, hj, rfl, kd, rfl⟩ := hrel
              by_cases hlt : j < (WrC.wrB ya yb m).2.length
              · have t1 : j < (WrC.wrB ya yb (m.take kk)).2.length := by have := hq0.out; have := hq1.out; omega
                have t2 : j < (WrC.wrB ya yb (m.drop kk)).2.length := by have := hq0.out; have := hq2.out; omega
                have hb := hs2.out j hlt t1 t2
                obtain ⟨g0, p0, x0, -, -, c0⟩ := BoolsR.at oUX_10.out j hlt
                obtain ⟨g1, p1, x1, -, -, c1⟩ := BoolsR.at oUT_10.out j t1
                obtain ⟨g2, p2, x2, -, -, c2⟩ := BoolsR.at oUD_10.out j t2
                cases x0
                cases x1
                cases x2
                rw [hb] at c0
                clear hb
                generalize (WrC.wrB ya yb (m.take kk)).2[j] = y1 at *
                generalize (WrC.wrB ya yb (m.drop kk)).2[j] = y2 at *
                cases y1
                all_goals
                  cases y2
                all_goals
                  go_wp2_with fail
                  go_quiet (fail)
                  go_wp2
                  go_roundw
                  case rel => exact ⟨j + 1, by omega, by go_num, _, by first | rfl | exact World.drewN_drewN _ _ _⟩
                  case measure => simp [intOf]; omega
              · have hge : (WrC.wrB ya yb m).2.length ≤ j := by omega
                clear hlt
                have hn11 : New w10 (w10.drewN kd) := drewN_kp _ kd (Kp.refl _ _)
                go_wp2
                go_ret
                exact ⟨rfl, (N10.trans hn11).toBelow⟩
set_option maxRecDepth 100000 in
theorem lifted (os : Os) (started : os.Started) (H : Type) (enc : TypeId × Value → H) :
    ReturnsInHanded {} Try.checked os 5 .any (Rows.fnProgramWritesSpec.pre6 enc Try.prog Try.f5 Rows.fnProgramWritesRow.domain false) (Rows.fnProgramWritesSpec.post enc Try.prog Try.f5 false true false false) := by
  refine returnsInHanded_of_change (C := Try.checked) own started (by kernel_rfl) Try.func5
    (ChangeSpec.witness6 (enc := enc) (C := Try.checked) false ⟨#[], #[.slice none 0 0, .slice none 0 0], []⟩ 8 (by kernel_rfl) (by kernel_rfl) (by kernel_rfl) (by kernel_rfl)) ?_
  intro W base args ds gs before hval0 hW hcnd _
  have hval : ∀ (j : Nat) t v, Try.f5.params[j]? = some t → args[j]? = some v → Value.okWide Try.prog W .any base t v := hval0
  have hW' := hW
  obtain ⟨p, q, hA0, hV, rfl, hfz, hnd⟩ := hW
  have hA : DataW.TrodAll enc Try.prog W 0 (fun _ => true) true Try.f5.params.toList args.toList ds p := hA0
  rw [Try.params5] at hA hval
  obtain ⟨v0, vs0, d0, ds0, p0, q0, hargs, rfl, rfl, h0, r0⟩ := trodAll_cons hA
  obtain ⟨v1, vs1, d1, ds1, p1, q1, rfl, rfl, rfl, h1, r1⟩ := trodAll_cons r0
  obtain ⟨rfl, rfl, rfl⟩ := trodAll_nil r1
  obtain rfl : args = #[v0, v1] := by cases args; simp_all
  obtain ⟨rfl, rfl⟩ := trodVars_none hV
  have kk0 := h0
  have lt0 : ∀ x ∈ p0, x.block < W.heap.size := by obtain ⟨m, hm⟩ := kk0; exact DataW.trod_lt m _ _ _ hm
  obtain ⟨a0, l0, c0, rfl, s0⟩ := Kit.open_bytes Try.underlying22 Try.underlying5 (by kernel_rfl) (hval 0 22 v0 rfl rfl) h0
  have kk1 := h1
  have lt1 : ∀ x ∈ p1, x.block < W.heap.size := by obtain ⟨m, hm⟩ := kk1; exact DataW.trod_lt m _ _ _ hm
  obtain ⟨a1, l1, c1, rfl, s1⟩ := Kit.open_bytes Try.underlying22 Try.underlying5 (by kernel_rfl) (hval 1 22 v1 rfl rfl) h1
  clear hA0 hval0
  refine (walk a0 l0 c0 a1 l1 c1 W s0 s1).mono fun e W' ⟨he, bel⟩ => ?_
  subst he
  exact ⟨_, rfl, _, _, _, [], _, [], hW', trodAll_mk1 (shut_bool Try.underlying4 _), (trodAll_cons_mk (Below.trod laidOut (by kernel_rfl) (of_decide_eq_true (by kernel_rfl)) kk0 bel lt0) (trodAll_cons_mk (Below.trod laidOut (by kernel_rfl) (of_decide_eq_true (by kernel_rfl)) kk1 bel lt1) trodAll_mk0)), rfl, bel.frame _, fun h => by cases h⟩
theorem over : Rows.fnProgramWritesRow.holds Try.pinned (OpenSpec.ofChange Rows.fnProgramWritesSpec) :=
  OpenClaim.holds_of_wide 5 Try.f5 rfl rfl rfl rfl rfl rfl rfl ⟨rfl, rfl, rfl, rfl, rfl⟩ rfl rfl rfl rfl rfl (by kernel_rfl) Try.func5 (by kernel_rfl)
    (of_decide_eq_true (by kernel_rfl)) (by unfold Func.isWrapper; first | (rw [if_pos (by decide +kernel)]; kernel_rfl) | (rw [if_neg (by decide +kernel)]; exact ⟨rfl, rfl⟩))
    (fun os started H enc _ => lifted os started H enc)
theorem proved : Rows.FnProgramWritesSaid := over
#print axioms proved
end Go.Proofs.Ytckikiaockkmbaa.fnProgramWrites
