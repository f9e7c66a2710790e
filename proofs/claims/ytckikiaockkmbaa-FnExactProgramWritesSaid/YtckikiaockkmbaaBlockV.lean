/- l2Stmt, l2Block, l2Size of spec. Condition: at most 2^20 nodes. -/
import Derived.Test.YtckikiaockkmbaaValS
import Derived.Test.YtckikiaockkmbaaPartsV
import Derived.Test.YtckikiaockkmbaaShapeV
import Derived.Test.YtckikiaockkmbaaStF
import Derived.StillTailTactics
import Derived.Deep.QuietTactic
import Derived.BigQuiet
import Derived.Test.YtckikiaockkmbaaShort
namespace Go.Proofs.Ytckikiaockkmbaa.BlockV
open Go.RowKit Kit Val
set_option linter.unusedVariables false
def Does (n : Nat) : Prop := ∀ (w : World) (lo hi : Nat) (a a' : Option Addr) (nv c1 na c1' : Nat) (tc : Value) (s : Value) (l : List St) (d : Int), St.sizes l < n → St.sizes l ≤ 1048576 → StsR w lo hi s l → hi ≤ w.heap.size → 0 ≤ d → d ≤ 10 → nv ≤ 9223372036854775807 → na ≤ 9223372036854775807 →
  Calls Try.prog 66 #[.agg #[.slice a nv c1, .slice a' na c1', tc], s, .int .i64 d] w fun e w' => e = .returned (.bool (blB nv na l d.toNat)) ∧ New w w'
set_option maxHeartbeats 8000000 in
set_option maxRecDepth 100000 in
theorem stmt_step (n : Nat) (H : Does n) (w : World) (lo hi : Nat) (a a' : Option Addr) (nv c1 na c1' : Nat) (tc : Value) (k t ik iv vk vv c : Int) (si sv sb se : Value) (li lv : List Ex) (lb le : List St) (d : Int) (q1 : St.sizes lb < n) (q2 : St.sizes le < n) (hm : Ex.sizes li + Ex.sizes lv + St.sizes lb + St.sizes le ≤ 1048576) (ri : KidsR w lo hi si li) (rv : KidsR w lo hi sv lv) (rb : StsR w lo hi sb lb) (re : StsR w lo hi se le) (h1 : hi ≤ w.heap.size) (hd0 : 0 ≤ d) (hd10 : d ≤ 10) (hnv : nv ≤ 9223372036854775807) (hna : na ≤ 9223372036854775807) :
    Calls Try.prog 109 #[.agg #[.slice a nv c1, .slice a' na c1', tc], .agg #[.int .i64 k, .int .i64 t, .int .i64 ik, .int .i64 iv, si, .int .i64 vk, .int .i64 vv, sv, .int .i64 c, sb, se], .int .i64 d] w fun e w' => e = .returned (.bool (stB nv na (.node k t (.node ik iv li) (.node vk vv lv) c lb le) d.toNat)) ∧ New w w' := by
  have hmv : Ex.sizes lv + 1 ≤ 2097152 := by omega
  have hmi : Ex.sizes li + 1 ≤ 2097152 := by omega
  have HH := Lib.hid H; clear H
  have U := Lib.hid (show stB nv na (.node k t (.node ik iv li) (.node vk vv lv) c lb le) d.toNat = (decide (1 ≤ d.toNat) && partsB (.node k t (.node ik iv li) (.node vk vv lv) c lb le) && (if k = 1 ∨ k = 5 then decide (0 ≤ t) && decide (t < nv) && right nv na (.node vk vv lv) else if k = 2 then decide (0 ≤ t) && decide (t < na) && right nv na (.node ik iv li) && atom (.node ik iv li) && right nv na (.node vk vv lv) else if k = 3 then right nv na (.node vk vv lv) && blB nv na lb (d.toNat - 1) && blB nv na le (d.toNat - 1) else if k = 4 then blB nv na lb (d.toNat - 1) else false)) by rw [stB])
  by_cases g0 : d < 1
  · have D := Lib.hid (show stB nv na (.node k t (.node ik iv li) (.node vk vv lv) c lb le) d.toNat = false by
      have e : decide (1 ≤ d.toNat) = false := by rw [decide_eq_false_iff_not]; omega
      rw [U.out, e]; rfl)
    clear HH
    go_enter Try.func109, Try.ntmps109
    go_wp2
    go_ret
    exact ⟨retB D.out.symm, ((Kp.refl _ _).alloc _).alloc _⟩
  have g0b : 1 ≤ d := by omega
  have g0c : decide (d < 1) = false := by rw [decide_eq_false_iff_not]; exact g0
  clear g0
  go_enter Try.func109, Try.ntmps109
  go_wp2_with fail
  have N0 : New w ((w.alloc (.cells #[.slice a nv c1, .slice a' na c1', tc] 37)).alloc (.cells #[.int .i64 k, .int .i64 t, .int .i64 ik, .int .i64 iv, si, .int .i64 vk, .int .i64 vv, sv, .int .i64 c, sb, se] 74)) := (((Kp.refl _ _).alloc _).alloc _)
  have bA_0 : ((w.alloc (.cells #[.slice a nv c1, .slice a' na c1', tc] 37)).alloc (.cells #[.int .i64 k, .int .i64 t, .int .i64 ik, .int .i64 iv, si, .int .i64 vk, .int .i64 vv, sv, .int .i64 c, sb, se] 74)).heap[w.heap.size]? = some (.cells #[.slice a nv c1, .slice a' na c1', tc] 37) := heap_old (alloc_heap _ _)
  have bB_0 : ((w.alloc (.cells #[.slice a nv c1, .slice a' na c1', tc] 37)).alloc (.cells #[.int .i64 k, .int .i64 t, .int .i64 ik, .int .i64 iv, si, .int .i64 vk, .int .i64 vv, sv, .int .i64 c, sb, se] 74)).heap[w.heap.size + 1]? = some (.cells #[.int .i64 k, .int .i64 t, .int .i64 ik, .int .i64 iv, si, .int .i64 vk, .int .i64 vv, sv, .int .i64 c, sb, se] 74) := heap_at (by simp)
  have z0 : w.heap.size + 1 < ((w.alloc (.cells #[.slice a nv c1, .slice a' na c1', tc] 37)).alloc (.cells #[.int .i64 k, .int .i64 t, .int .i64 ik, .int .i64 iv, si, .int .i64 vk, .int .i64 vv, sv, .int .i64 c, sb, se] 74)).heap.size := by simp
  generalize ((w.alloc (.cells #[.slice a nv c1, .slice a' na c1', tc] 37)).alloc (.cells #[.int .i64 k, .int .i64 t, .int .i64 ik, .int .i64 iv, si, .int .i64 vk, .int .i64 vv, sv, .int .i64 c, sb, se] 74)) = w0 at *
  obtain ⟨bA_0_c0, bA_0_c1, bA_0_c2⟩ := cells3 bA_0
  obtain ⟨bB_0_c0, bB_0_c1, bB_0_c2, bB_0_c3, bB_0_c4, bB_0_c5, bB_0_c6, bB_0_c7⟩ := cells8 bB_0
  have bB_0_c8 := cell_of_heap bB_0 8
  have bB_0_c9 := cell_of_heap bB_0 9
  have bB_0_c10 := cell_of_heap bB_0 10
  refine (PartsV.l2Parts _ _ _ _ _ _ _ _ _ _ _ _ _ _ _ (ri.new h1 N0) (rv.new h1 N0) (rb.new h1 N0) (re.new h1 N0) (by omega)).mono ?_
  rintro e w1 ⟨rfl, hn1⟩
  have z1 := hn1.size
  have N1 : New w w1 := N0.trans hn1
  have bA_1 := heap_new hn1 bA_0
  have bB_1 := heap_new hn1 bB_0
  clear bA_0_c0 bA_0_c1 bA_0_c2 bB_0_c0 bB_0_c1 bB_0_c2 bB_0_c3 bB_0_c4 bB_0_c5 bB_0_c6 bB_0_c7 bB_0_c8 bB_0_c9 bB_0_c10
  clear bA_0 bB_0 hn1
  obtain ⟨bA_1_c0, bA_1_c1, bA_1_c2⟩ := cells3 bA_1
  obtain ⟨bB_1_c0, bB_1_c1, bB_1_c2, bB_1_c3, bB_1_c4, bB_1_c5, bB_1_c6, bB_1_c7⟩ := cells8 bB_1
  have bB_1_c8 := cell_of_heap bB_1 8
  have bB_1_c9 := cell_of_heap bB_1 9
  have bB_1_c10 := cell_of_heap bB_1 10
  cases hp : partsB (.node k t (.node ik iv li) (.node vk vv lv) c lb le)
  · have D := Lib.hid (show stB nv na (.node k t (.node ik iv li) (.node vk vv lv) c lb le) d.toNat = false by rw [U.out, hp]; simp)
    clear hp HH
    go_wp2
    go_ret
    exact ⟨retB D.out.symm, N1⟩
  have V := Lib.hid (show stB nv na (.node k t (.node ik iv li) (.node vk vv lv) c lb le) d.toNat = (if k = 1 ∨ k = 5 then decide (0 ≤ t) && decide (t < nv) && right nv na (.node vk vv lv) else if k = 2 then decide (0 ≤ t) && decide (t < na) && right nv na (.node ik iv li) && atom (.node ik iv li) && right nv na (.node vk vv lv) else if k = 3 then right nv na (.node vk vv lv) && blB nv na lb (d.toNat - 1) && blB nv na le (d.toNat - 1) else if k = 4 then blB nv na lb (d.toNat - 1) else false) by
    have e : decide (1 ≤ d.toNat) = true := by rw [decide_eq_true_eq]; omega
    rw [U.out, hp, e]; rfl)
  clear hp U g0c
  by_cases k1 : k = 1
  · have e1 : (k == 1) = true := by simp [k1]
    have W1 := Lib.hid k1
    clear k1
    have V1 := Lib.hid (show stB nv na (.node k t (.node ik iv li) (.node vk vv lv) c lb le) d.toNat = (decide (0 ≤ t) && decide (t < (nv : Int)) && right nv na (.node vk vv lv)) by rw [V.out, if_pos (.inl W1.out)])
    clear V
    by_cases g1 : 0 ≤ t
    rotate_left
    · have D := Lib.hid (show stB nv na (.node k t (.node ik iv li) (.node vk vv lv) c lb le) d.toNat = false by
        have e : decide (0 ≤ t) = false := by rw [decide_eq_false_iff_not]; exact g1
        rw [V1.out, e]; simp)
      have g1b : t < 0 := by omega
      have g1c : decide (0 ≤ t) = false := by rw [decide_eq_false_iff_not]; exact g1
      clear g1 HH
      go_wp2
      go_ret
      exact ⟨retB D.out.symm, N1⟩
    by_cases g2 : t < (nv : Int)
    rotate_left
    · have D := Lib.hid (show stB nv na (.node k t (.node ik iv li) (.node vk vv lv) c lb le) d.toNat = false by
        have e : decide (t < (nv : Int)) = false := by rw [decide_eq_false_iff_not]; exact g2
        rw [V1.out, e]; simp)
      have g2b : (nv : Int) ≤ t := by omega
      have g2c : decide (t < (nv : Int)) = false := by rw [decide_eq_false_iff_not]; exact g2
      clear g2 HH
      go_wp2
      go_ret
      exact ⟨retB D.out.symm, N1⟩
    have G1 : decide (0 ≤ t) = true := by rw [decide_eq_true_eq]; exact g1
    have G2 : decide (t < (nv : Int)) = true := by rw [decide_eq_true_eq]; exact g2
    have V2 := Lib.hid (show stB nv na (.node k t (.node ik iv li) (.node vk vv lv) c lb le) d.toNat = right nv na (.node vk vv lv) by rw [V1.out, G1, G2]; rfl)
    clear V1 G1 G2
    go_wp2_with fail
    refine (ShapeV.l2Right hmv (rv.new h1 N1) (by omega) hnv hna).mono ?_
    rintro e w2 ⟨rfl, hn2⟩
    have z2 := hn2.size
    have N2 : New w w2 := N1.trans hn2
    have bA_2 := heap_new hn2 bA_1
    have bB_2 := heap_new hn2 bB_1
    clear bA_1_c0 bA_1_c1 bA_1_c2 bB_1_c0 bB_1_c1 bB_1_c2 bB_1_c3 bB_1_c4 bB_1_c5 bB_1_c6 bB_1_c7 bB_1_c8 bB_1_c9 bB_1_c10
    clear bA_1 bB_1 hn2
    obtain ⟨bA_2_c0, bA_2_c1, bA_2_c2⟩ := cells3 bA_2
    obtain ⟨bB_2_c0, bB_2_c1, bB_2_c2, bB_2_c3, bB_2_c4, bB_2_c5, bB_2_c6, bB_2_c7⟩ := cells8 bB_2
    have bB_2_c8 := cell_of_heap bB_2 8
    have bB_2_c9 := cell_of_heap bB_2 9
    have bB_2_c10 := cell_of_heap bB_2 10
    clear HH
    go_wp2
    go_ret
    exact ⟨retB V2.out.symm, N2⟩
  have e1 : (k == 1) = false := by simp [k1]
  by_cases k5 : k = 5
  · have e5 : (k == 5) = true := by simp [k5]
    clear k1
    have W1 := Lib.hid k5
    clear k5
    have V1 := Lib.hid (show stB nv na (.node k t (.node ik iv li) (.node vk vv lv) c lb le) d.toNat = (decide (0 ≤ t) && decide (t < (nv : Int)) && right nv na (.node vk vv lv)) by rw [V.out, if_pos (.inr W1.out)])
    clear V
    by_cases g1 : 0 ≤ t
    rotate_left
    · have D := Lib.hid (show stB nv na (.node k t (.node ik iv li) (.node vk vv lv) c lb le) d.toNat = false by
        have e : decide (0 ≤ t) = false := by rw [decide_eq_false_iff_not]; exact g1
        rw [V1.out, e]; simp)
      have g1b : t < 0 := by omega
      have g1c : decide (0 ≤ t) = false := by rw [decide_eq_false_iff_not]; exact g1
      clear g1 HH
      go_wp2
      go_ret
      exact ⟨retB D.out.symm, N1⟩
    by_cases g2 : t < (nv : Int)
    rotate_left
    · have D := Lib.hid (show stB nv na (.node k t (.node ik iv li) (.node vk vv lv) c lb le) d.toNat = false by
        have e : decide (t < (nv : Int)) = false := by rw [decide_eq_false_iff_not]; exact g2
        rw [V1.out, e]; simp)
      have g2b : (nv : Int) ≤ t := by omega
      have g2c : decide (t < (nv : Int)) = false := by rw [decide_eq_false_iff_not]; exact g2
      clear g2 HH
      go_wp2
      go_ret
      exact ⟨retB D.out.symm, N1⟩
    have G1 : decide (0 ≤ t) = true := by rw [decide_eq_true_eq]; exact g1
    have G2 : decide (t < (nv : Int)) = true := by rw [decide_eq_true_eq]; exact g2
    have V2 := Lib.hid (show stB nv na (.node k t (.node ik iv li) (.node vk vv lv) c lb le) d.toNat = right nv na (.node vk vv lv) by rw [V1.out, G1, G2]; rfl)
    clear V1 G1 G2
    go_wp2_with fail
    refine (ShapeV.l2Right hmv (rv.new h1 N1) (by omega) hnv hna).mono ?_
    rintro e w2 ⟨rfl, hn2⟩
    have z2 := hn2.size
    have N2 : New w w2 := N1.trans hn2
    have bA_2 := heap_new hn2 bA_1
    have bB_2 := heap_new hn2 bB_1
    clear bA_1_c0 bA_1_c1 bA_1_c2 bB_1_c0 bB_1_c1 bB_1_c2 bB_1_c3 bB_1_c4 bB_1_c5 bB_1_c6 bB_1_c7 bB_1_c8 bB_1_c9 bB_1_c10
    clear bA_1 bB_1 hn2
    obtain ⟨bA_2_c0, bA_2_c1, bA_2_c2⟩ := cells3 bA_2
    obtain ⟨bB_2_c0, bB_2_c1, bB_2_c2, bB_2_c3, bB_2_c4, bB_2_c5, bB_2_c6, bB_2_c7⟩ := cells8 bB_2
    have bB_2_c8 := cell_of_heap bB_2 8
    have bB_2_c9 := cell_of_heap bB_2 9
    have bB_2_c10 := cell_of_heap bB_2 10
    clear HH
    go_wp2
    go_ret
    exact ⟨retB V2.out.symm, N2⟩
  have e5 : (k == 5) = false := by simp [k5]
  have V1 := Lib.hid (show stB nv na (.node k t (.node ik iv li) (.node vk vv lv) c lb le) d.toNat = (if k = 2 then decide (0 ≤ t) && decide (t < na) && right nv na (.node ik iv li) && atom (.node ik iv li) && right nv na (.node vk vv lv) else if k = 3 then right nv na (.node vk vv lv) && blB nv na lb (d.toNat - 1) && blB nv na le (d.toNat - 1) else if k = 4 then blB nv na lb (d.toNat - 1) else false) by rw [V.out, if_neg (by omega)])
  clear V k1 k5
  by_cases k2 : k = 2
  · have e2 : (k == 2) = true := by simp [k2]
    have V2 := Lib.hid (show stB nv na (.node k t (.node ik iv li) (.node vk vv lv) c lb le) d.toNat = (decide (0 ≤ t) && decide (t < (na : Int)) && right nv na (.node ik iv li) && atom (.node ik iv li) && right nv na (.node vk vv lv)) by rw [V1.out, if_pos k2])
    clear V1 k2
    by_cases g1 : 0 ≤ t
    rotate_left
    · have D := Lib.hid (show stB nv na (.node k t (.node ik iv li) (.node vk vv lv) c lb le) d.toNat = false by
        have e : decide (0 ≤ t) = false := by rw [decide_eq_false_iff_not]; exact g1
        rw [V2.out, e]; simp)
      have g1b : t < 0 := by omega
      have g1c : decide (0 ≤ t) = false := by rw [decide_eq_false_iff_not]; exact g1
      clear g1 HH
      go_wp2
      go_ret
      exact ⟨retB D.out.symm, N1⟩
    by_cases g2 : t < (na : Int)
    rotate_left
    · have D := Lib.hid (show stB nv na (.node k t (.node ik iv li) (.node vk vv lv) c lb le) d.toNat = false by
        have e : decide (t < (na : Int)) = false := by rw [decide_eq_false_iff_not]; exact g2
        rw [V2.out, e]; simp)
      have g2b : (na : Int) ≤ t := by omega
      have g2c : decide (t < (na : Int)) = false := by rw [decide_eq_false_iff_not]; exact g2
      clear g2 HH
      go_wp2
      go_ret
      exact ⟨retB D.out.symm, N1⟩
    have G1 : decide (0 ≤ t) = true := by rw [decide_eq_true_eq]; exact g1
    have G2 : decide (t < (na : Int)) = true := by rw [decide_eq_true_eq]; exact g2
    have V3 := Lib.hid (show stB nv na (.node k t (.node ik iv li) (.node vk vv lv) c lb le) d.toNat = (right nv na (.node ik iv li) && atom (.node ik iv li) && right nv na (.node vk vv lv)) by rw [V2.out, G1, G2]; rfl)
    clear V2 G1 G2
    go_wp2_with fail
    refine (ShapeV.l2Right hmi (ri.new h1 N1) (by omega) hnv hna).mono ?_
    rintro e w2 ⟨rfl, hn2⟩
    have z2 := hn2.size
    have N2 : New w w2 := N1.trans hn2
    have bA_2 := heap_new hn2 bA_1
    have bB_2 := heap_new hn2 bB_1
    clear bA_1_c0 bA_1_c1 bA_1_c2 bB_1_c0 bB_1_c1 bB_1_c2 bB_1_c3 bB_1_c4 bB_1_c5 bB_1_c6 bB_1_c7 bB_1_c8 bB_1_c9 bB_1_c10
    clear bA_1 bB_1 hn2
    obtain ⟨bA_2_c0, bA_2_c1, bA_2_c2⟩ := cells3 bA_2
    obtain ⟨bB_2_c0, bB_2_c1, bB_2_c2, bB_2_c3, bB_2_c4, bB_2_c5, bB_2_c6, bB_2_c7⟩ := cells8 bB_2
    have bB_2_c8 := cell_of_heap bB_2 8
    have bB_2_c9 := cell_of_heap bB_2 9
    have bB_2_c10 := cell_of_heap bB_2 10
    cases r1 : right nv na (.node ik iv li)
    · have D := Lib.hid (show stB nv na (.node k t (.node ik iv li) (.node vk vv lv) c lb le) d.toNat = false by rw [V3.out, r1]; simp)
      clear r1 HH
      go_wp2
      go_ret
      exact ⟨retB D.out.symm, N2⟩
    have V4 := Lib.hid (show stB nv na (.node k t (.node ik iv li) (.node vk vv lv) c lb le) d.toNat = (atom (.node ik iv li) && right nv na (.node vk vv lv)) by rw [V3.out, r1]; rfl)
    clear V3 r1
    go_wp2_with fail
    refine (ShapeV.l2Atom _ _ _).mono ?_
    rintro e w3 ⟨rfl, hn3⟩
    have z3 := hn3.size
    have N3 : New w w3 := N2.trans hn3
    have bA_3 := heap_new hn3 bA_2
    have bB_3 := heap_new hn3 bB_2
    clear bA_2_c0 bA_2_c1 bA_2_c2 bB_2_c0 bB_2_c1 bB_2_c2 bB_2_c3 bB_2_c4 bB_2_c5 bB_2_c6 bB_2_c7 bB_2_c8 bB_2_c9 bB_2_c10
    clear bA_2 bB_2 hn3
    obtain ⟨bA_3_c0, bA_3_c1, bA_3_c2⟩ := cells3 bA_3
    obtain ⟨bB_3_c0, bB_3_c1, bB_3_c2, bB_3_c3, bB_3_c4, bB_3_c5, bB_3_c6, bB_3_c7⟩ := cells8 bB_3
    have bB_3_c8 := cell_of_heap bB_3 8
    have bB_3_c9 := cell_of_heap bB_3 9
    have bB_3_c10 := cell_of_heap bB_3 10
    have A0 := Lib.hid (show atom (.node ik iv li) = (ik == 1 || ik == 2) from rfl)
    cases r2 : (ik == 1 || ik == 2)
    · have D := Lib.hid (show stB nv na (.node k t (.node ik iv li) (.node vk vv lv) c lb le) d.toNat = false by rw [V4.out, A0.out, r2]; rfl)
      clear r2 HH
      go_wp2
      go_ret
      exact ⟨retB D.out.symm, N3⟩
    have V5 := Lib.hid (show stB nv na (.node k t (.node ik iv li) (.node vk vv lv) c lb le) d.toNat = right nv na (.node vk vv lv) by rw [V4.out, A0.out, r2]; rfl)
    clear V4 r2 A0
    go_wp2_with fail
    refine (ShapeV.l2Right hmv (rv.new h1 N3) (by omega) hnv hna).mono ?_
    rintro e w4 ⟨rfl, hn4⟩
    have z4 := hn4.size
    have N4 : New w w4 := N3.trans hn4
    have bA_4 := heap_new hn4 bA_3
    have bB_4 := heap_new hn4 bB_3
    clear bA_3_c0 bA_3_c1 bA_3_c2 bB_3_c0 bB_3_c1 bB_3_c2 bB_3_c3 bB_3_c4 bB_3_c5 bB_3_c6 bB_3_c7 bB_3_c8 bB_3_c9 bB_3_c10
    clear bA_3 bB_3 hn4
    clear HH
    go_wp2
    go_ret
    exact ⟨retB V5.out.symm, N4⟩
  have e2 : (k == 2) = false := by simp [k2]
  have V2 := Lib.hid (show stB nv na (.node k t (.node ik iv li) (.node vk vv lv) c lb le) d.toNat = (if k = 3 then right nv na (.node vk vv lv) && blB nv na lb (d.toNat - 1) && blB nv na le (d.toNat - 1) else if k = 4 then blB nv na lb (d.toNat - 1) else false) by rw [V1.out, if_neg k2])
  clear V1 k2
  by_cases k3 : k = 3
  · have e3 : (k == 3) = true := by simp [k3]
    have V3 := Lib.hid (show stB nv na (.node k t (.node ik iv li) (.node vk vv lv) c lb le) d.toNat = (right nv na (.node vk vv lv) && blB nv na lb (d.toNat - 1) && blB nv na le (d.toNat - 1)) by rw [V2.out, if_pos k3])
    clear V2 k3
    go_wp2_with fail
    refine (ShapeV.l2Right hmv (rv.new h1 N1) (by omega) hnv hna).mono ?_
    rintro e w2 ⟨rfl, hn2⟩
    have z2 := hn2.size
    have N2 : New w w2 := N1.trans hn2
    have bA_2 := heap_new hn2 bA_1
    have bB_2 := heap_new hn2 bB_1
    clear bA_1_c0 bA_1_c1 bA_1_c2 bB_1_c0 bB_1_c1 bB_1_c2 bB_1_c3 bB_1_c4 bB_1_c5 bB_1_c6 bB_1_c7 bB_1_c8 bB_1_c9 bB_1_c10
    clear bA_1 bB_1 hn2
    obtain ⟨bA_2_c0, bA_2_c1, bA_2_c2⟩ := cells3 bA_2
    obtain ⟨bB_2_c0, bB_2_c1, bB_2_c2, bB_2_c3, bB_2_c4, bB_2_c5, bB_2_c6, bB_2_c7⟩ := cells8 bB_2
    have bB_2_c8 := cell_of_heap bB_2 8
    have bB_2_c9 := cell_of_heap bB_2 9
    have bB_2_c10 := cell_of_heap bB_2 10
    cases r1 : right nv na (.node vk vv lv)
    · have D := Lib.hid (show stB nv na (.node k t (.node ik iv li) (.node vk vv lv) c lb le) d.toNat = false by rw [V3.out, r1]; simp)
      clear r1 HH
      go_wp2
      go_ret
      exact ⟨retB D.out.symm, N2⟩
    have V4 := Lib.hid (show stB nv na (.node k t (.node ik iv li) (.node vk vv lv) c lb le) d.toNat = (blB nv na lb (d.toNat - 1) && blB nv na le (d.toNat - 1)) by rw [V3.out, r1]; rfl)
    clear V3 r1
    go_wp2_with fail
    refine (HH.out _ lo hi _ _ _ _ _ _ _ _ _ (d - 1) q1 (by omega) (rb.new h1 N2) (by omega) (by omega) (by omega) hnv hna).mono ?_
    rintro e w3 ⟨rfl, hn3⟩
    have z3 := hn3.size
    have N3 : New w w3 := N2.trans hn3
    have bA_3 := heap_new hn3 bA_2
    have bB_3 := heap_new hn3 bB_2
    clear bA_2_c0 bA_2_c1 bA_2_c2 bB_2_c0 bB_2_c1 bB_2_c2 bB_2_c3 bB_2_c4 bB_2_c5 bB_2_c6 bB_2_c7 bB_2_c8 bB_2_c9 bB_2_c10
    clear bA_2 bB_2 hn3
    rw [show (d - 1).toNat = d.toNat - 1 by omega]
    obtain ⟨bA_3_c0, bA_3_c1, bA_3_c2⟩ := cells3 bA_3
    obtain ⟨bB_3_c0, bB_3_c1, bB_3_c2, bB_3_c3, bB_3_c4, bB_3_c5, bB_3_c6, bB_3_c7⟩ := cells8 bB_3
    have bB_3_c8 := cell_of_heap bB_3 8
    have bB_3_c9 := cell_of_heap bB_3 9
    have bB_3_c10 := cell_of_heap bB_3 10
    cases r2 : blB nv na lb (d.toNat - 1)
    · have D := Lib.hid (show stB nv na (.node k t (.node ik iv li) (.node vk vv lv) c lb le) d.toNat = false by rw [V4.out, r2]; simp)
      clear r2 HH
      go_wp2
      go_ret
      exact ⟨retB D.out.symm, N3⟩
    have V5 := Lib.hid (show stB nv na (.node k t (.node ik iv li) (.node vk vv lv) c lb le) d.toNat = blB nv na le (d.toNat - 1) by rw [V4.out, r2]; rfl)
    clear V4 r2
    go_wp2_with fail
    refine (HH.out _ lo hi _ _ _ _ _ _ _ _ _ (d - 1) q2 (by omega) (re.new h1 N3) (by omega) (by omega) (by omega) hnv hna).mono ?_
    rintro e w4 ⟨rfl, hn4⟩
    have z4 := hn4.size
    have N4 : New w w4 := N3.trans hn4
    have bA_4 := heap_new hn4 bA_3
    have bB_4 := heap_new hn4 bB_3
    clear bA_3_c0 bA_3_c1 bA_3_c2 bB_3_c0 bB_3_c1 bB_3_c2 bB_3_c3 bB_3_c4 bB_3_c5 bB_3_c6 bB_3_c7 bB_3_c8 bB_3_c9 bB_3_c10
    clear bA_3 bB_3 hn4
    rw [show (d - 1).toNat = d.toNat - 1 by omega]
    clear HH
    go_wp2
    go_ret
    exact ⟨retB V5.out.symm, N4⟩
  have e3 : (k == 3) = false := by simp [k3]
  have V3 := Lib.hid (show stB nv na (.node k t (.node ik iv li) (.node vk vv lv) c lb le) d.toNat = (if k = 4 then blB nv na lb (d.toNat - 1) else false) by rw [V2.out, if_neg k3])
  clear V2 k3
  by_cases k4 : k = 4
  · have e4 : (k == 4) = true := by simp [k4]
    have V4 := Lib.hid (show stB nv na (.node k t (.node ik iv li) (.node vk vv lv) c lb le) d.toNat = blB nv na lb (d.toNat - 1) by rw [V3.out, if_pos k4])
    clear V3 k4
    go_wp2_with fail
    refine (HH.out _ lo hi _ _ _ _ _ _ _ _ _ (d - 1) q1 (by omega) (rb.new h1 N1) (by omega) (by omega) (by omega) hnv hna).mono ?_
    rintro e w2 ⟨rfl, hn2⟩
    have z2 := hn2.size
    have N2 : New w w2 := N1.trans hn2
    have bA_2 := heap_new hn2 bA_1
    have bB_2 := heap_new hn2 bB_1
    clear bA_1_c0 bA_1_c1 bA_1_c2 bB_1_c0 bB_1_c1 bB_1_c2 bB_1_c3 bB_1_c4 bB_1_c5 bB_1_c6 bB_1_c7 bB_1_c8 bB_1_c9 bB_1_c10
    clear bA_1 bB_1 hn2
    rw [show (d - 1).toNat = d.toNat - 1 by omega]
    clear HH
    go_wp2
    go_ret
    exact ⟨retB V4.out.symm, N2⟩
  have e4 : (k == 4) = false := by simp [k4]
  have D := Lib.hid (show stB nv na (.node k t (.node ik iv li) (.node vk vv lv) c lb le) d.toNat = false by rw [V3.out, if_neg k4])
  clear V3 k4 HH
  go_wp2
  go_ret
  exact ⟨retB D.out.symm, N1⟩
set_option maxHeartbeats 2000000 in
theorem block_step (n : Nat) (H : Does n) (w : World) (lo hi : Nat) (a a' : Option Addr) (nv c1 na c1' : Nat) (tc : Value) (s : Value) (l : List St) (d : Int) (hl : St.sizes l ≤ n) (hm : St.sizes l ≤ 1048576) (hs : StsR w lo hi s l) (h1 : hi ≤ w.heap.size) (hd0 : 0 ≤ d) (hd10 : d ≤ 10) (hnv : nv ≤ 9223372036854775807) (hna : na ≤ 9223372036854775807) :
    Calls Try.prog 66 #[.agg #[.slice a nv c1, .slice a' na c1', tc], s, .int .i64 d] w fun e w' => e = .returned (.bool (blB nv na l d.toNat)) ∧ New w w' := by
  obtain ⟨aa, cc, rfl, hl1⟩ := hs.len
  have HH := Lib.hid H; clear H
  go_enter Try.func66, Try.ntmps66
  go_wp2_with fail
  have N0 : New w (w.alloc (.cells #[.slice a nv c1, .slice a' na c1', tc] 37)) := ((Kp.refl _ _).alloc _)
  have bA_0 : (w.alloc (.cells #[.slice a nv c1, .slice a' na c1', tc] 37)).heap[w.heap.size]? = some (.cells #[.slice a nv c1, .slice a' na c1', tc] 37) := alloc_heap _ _
  have z0 : w.heap.size < (w.alloc (.cells #[.slice a nv c1, .slice a' na c1', tc] 37)).heap.size := by simp
  generalize (w.alloc (.cells #[.slice a nv c1, .slice a' na c1', tc] 37)) = w0 at *
  go_loopw [7] (fun i wr => ∃ j : Nat, j ≤ l.length ∧ i = .int .i64 j ∧ New w0 wr ∧ Hid (blB nv na (l.take j) d.toNat = true)) (fun i _ => l.length - (intOf i).toNat)
  case atStart => exact ⟨0, Nat.zero_le _, rfl, Kp.refl _ _, Lib.hid (by simp [blB])⟩
  case round =>
    obtain ⟨j, hj, rfl, hNA, hG⟩ := hrel
    have hN := N0.trans hNA
    have bA3 := heap_new hNA bA_0
    obtain ⟨cA0, cA1, cA2⟩ := cells3 bA3
    by_cases hlt : j < l.length
    · obtain ⟨b, o, vi, vv, vb, ve, e, A⟩ := hs.elem j hlt
      cases e
      have hb2 := A.hhi
      have g0 := (hN.cell (b := b) (by omega) (fun f => f) (o + j * 11)).trans A.c0
      have g1 := (hN.cell (b := b) (by omega) (fun f => f) (o + j * 11 + 1)).trans A.c1
      have g2 := (hN.cell (b := b) (by omega) (fun f => f) (o + j * 11 + 2)).trans A.c2
      have g3 := (hN.cell (b := b) (by omega) (fun f => f) (o + j * 11 + 3)).trans A.c3
      have g4 := (hN.cell (b := b) (by omega) (fun f => f) (o + j * 11 + 4)).trans A.c4
      have g5 := (hN.cell (b := b) (by omega) (fun f => f) (o + j * 11 + 5)).trans A.c5
      have g6 := (hN.cell (b := b) (by omega) (fun f => f) (o + j * 11 + 6)).trans A.c6
      have g7 := (hN.cell (b := b) (by omega) (fun f => f) (o + j * 11 + 7)).trans A.c7
      have g8 := (hN.cell (b := b) (by omega) (fun f => f) (o + j * 11 + 8)).trans A.c8
      have g9 := (hN.cell (b := b) (by omega) (fun f => f) (o + j * 11 + 9)).trans A.c9
      have g10 := (hN.cell (b := b) (by omega) (fun f => f) (o + j * 11 + 10)).trans A.c10
      have k1 := A.ri.new h1 hN.drew
      have k2 := A.rv.new h1 hN.drew
      have k3 := A.rb.new h1 hN.drew
      have k4 := A.re.new h1 hN.drew
      have z1 : hi ≤ wr.drew.heap.size := by have := hN.size; simp; omega
      have hp := St.parts_get l j hlt
      have y1 : St.sizes l[j].body < n := by omega
      have y2 : St.sizes l[j].els < n := by omega
      have y3 : Ex.sizes l[j].index.kids + Ex.sizes l[j].value.kids + St.sizes l[j].body + St.sizes l[j].els ≤ 1048576 := by omega
      have hB := Lib.hid (blB_bad nv na l d.toNat j hlt)
      have hT := Lib.hid (blB_take nv na d.toNat hlt)
      have hE := Lib.hid (show St.node l[j].kind l[j].target (.node l[j].index.kind l[j].index.val l[j].index.kids) (.node l[j].value.kind l[j].value.val l[j].value.kids) l[j].count l[j].body l[j].els = l[j] by rw [Ex.eta', Ex.eta', ← St.eta])
      clear hs A hp
      generalize l[j] = x at *
      go_wp2_with fail
      set_option maxRecDepth 100000 in go_still_tail 6, (by kernel_rfl)
      change wpList _ _ _ _ _ wr.drew
      go_wp2_with fail
      refine (stmt_step n HH.out _ lo hi _ _ _ _ _ _ _ _ _ _ _ _ _ _ _ _ _ _ _ _ _ _ d y1 y2 y3 k1 k2 k3 k4 z1 hd0 hd10 hnv hna).mono ?_
      rintro r w3 ⟨rfl, hn3⟩
      have N4 := hN.drew.trans hn3
      have hNA2 := hNA.drew.trans hn3
      rw [hE.out]
      cases hp : stB nv na x d.toNat
      · have hfin := Lib.hid (hB.out hp)
        clear hB hT hG hp HH
        go_wp2
        go_ret
        exact ⟨retB hfin.out.symm, N4⟩
      · have hG2 := Lib.hid (show blB nv na (l.take (j + 1)) d.toNat = true by rw [hT.out, hG.out, hp]; rfl)
        clear hB hT hG hp
        go_wp2
        go_roundw
        case rel => exact ⟨j + 1, by omega, by go_num, hNA2, hG2⟩
        case measure => simp [intOf]; omega
    · have D := Lib.hid (show blB nv na l d.toNat = true by have h := hG.out; rwa [List.take_of_length_le (by omega)] at h)
      have hge : l.length ≤ j := by omega
      clear hG HH hs
      go_wp2
      go_ret
      exact ⟨retB D.out.symm, hN⟩
theorem does : ∀ n, Does n
  | 0 => fun w lo hi a a' nv c1 na c1' tc s l d hl => absurd hl (Nat.not_lt_zero _)
  | n + 1 => fun w lo hi a a' nv c1 na c1' tc s l d hl h2 h3 h4 h5 h6 h7 h8 => block_step n (does n) w lo hi a a' nv c1 na c1' tc s l d (Nat.le_of_lt_succ hl) h2 h3 h4 h5 h6 h7 h8
end Go.Proofs.Ytckikiaockkmbaa.BlockV
