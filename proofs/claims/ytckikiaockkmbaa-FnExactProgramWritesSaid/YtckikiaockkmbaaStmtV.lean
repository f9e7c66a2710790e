/- isNone, stmt, stmts of impl. Condition: at most 2^20 nodes. -/
import Derived.Test.YtckikiaockkmbaaValS
import Derived.Test.YtckikiaockkmbaaScanV
import Derived.Test.YtckikiaockkmbaaStF
import Derived.Test.YtckikiaockkmbaaShort
namespace Go.Proofs.Ytckikiaockkmbaa.StmtV
open Go.RowKit Kit Val
set_option linter.unusedVariables false
theorem St.eta (x : St) : St.node x.kind x.target (.node x.index.kind x.index.val x.index.kids) (.node x.value.kind x.value.val x.value.kids) x.count x.body x.els = x := by
  obtain ⟨k, t, ⟨ik, iv, li⟩, ⟨vk, vv, lv⟩, c, b, e⟩ := x
  rfl
set_option maxHeartbeats 1000000 in
theorem isNone {w : World} {lo hi : Nat} (k v : Int) {s : Value} {l : List Ex} (hs : KidsR w lo hi s l) : Calls Try.prog 154 #[.agg #[.int .i64 k, .int .i64 v, s]] w fun e w' => e = .returned (.bool (noneB (.node k v l))) ∧ New w w' := by
  obtain ⟨a2, c2, rfl, hl1⟩ := hs.len
  have U := Lib.hid (show noneB (.node k v l) = (k == 0 && v == 0 && decide (l.length = 0)) from rfl)
  clear hs
  cases h1 : (k == 0)
  · go_enter Try.func154, Try.ntmps154
    go_wp2
    go_ret
    exact ⟨retB (by rw [U.out, h1]; rfl), (Kp.refl _ _).alloc _⟩
  cases h2 : (v == 0)
  · go_enter Try.func154, Try.ntmps154
    go_wp2
    go_ret
    exact ⟨retB (by rw [U.out, h1, h2]; rfl), (Kp.refl _ _).alloc _⟩
  by_cases h3 : l.length = 0
  · have e3 : ((l.length : Int) == 0) = true := by rw [beq_iff_eq]; omega
    have D := Lib.hid (show noneB (.node k v l) = true by rw [U.out, h1, h2]; simp [h3])
    clear h3
    go_enter Try.func154, Try.ntmps154
    go_wp2
    go_ret
    exact ⟨retB D.out.symm, (Kp.refl _ _).alloc _⟩
  · have e3 : ((l.length : Int) == 0) = false := by rw [beq_eq_false_iff_ne]; omega
    have D := Lib.hid (show noneB (.node k v l) = false by rw [U.out, h1, h2]; simp [h3])
    clear h3
    go_enter Try.func154, Try.ntmps154
    go_wp2
    go_ret
    exact ⟨retB D.out.symm, (Kp.refl _ _).alloc _⟩
def Does (n : Nat) : Prop := ∀ (w : World) (lo hi : Nat) (a a' : Option Addr) (nv c1 na c1' : Nat) (tc : Value) (s : Value) (l : List St) (d : Int) (bc : Nat) (q : Int), St.sizes l < n → StsR w lo hi s l → hi ≤ w.heap.size → 1 ≤ d → d ≤ 6 → nv ≤ 9223372036854775807 → na ≤ 9223372036854775807 → ScanV.Cnt w bc q → 0 ≤ q → q ≤ 60 → (bc < lo ∨ hi ≤ bc) →
  Calls Try.prog 106 #[.agg #[.slice a nv c1, .slice a' na c1', tc], s, .int .i64 d, .pointer (some ⟨bc, 0, none⟩)] w fun e w' => e = .returned (.bool (blScan nv na l (6 - d).toNat q.toNat)) ∧ One bc w w' ∧ ∃ q', ScanV.Cnt w' bc q' ∧ (blScan nv na l (6 - d).toNat q.toNat = true → q' = q + stsN l)
set_option maxHeartbeats 16000000 in
set_option maxRecDepth 100000 in
theorem stmt_step (n : Nat) (H : Does n) (w : World) (lo hi : Nat) (a a' : Option Addr) (nv c1 na c1' : Nat) (tc : Value) (k t ik iv vk vv c : Int) (si sv sb se : Value) (li lv : List Ex) (lb le : List St) (d : Int) (bc : Nat) (q : Int) (q1 : St.sizes lb < n) (q2 : St.sizes le < n) (ri : KidsR w lo hi si li) (rv : KidsR w lo hi sv lv) (rb : StsR w lo hi sb lb) (re : StsR w lo hi se le) (h1 : hi ≤ w.heap.size) (hd0 : 1 ≤ d) (hd6 : d ≤ 6) (hnv : nv ≤ 9223372036854775807) (hna : na ≤ 9223372036854775807) (hq : ScanV.Cnt w bc q) (hq0 : 0 ≤ q) (hq60 : q ≤ 60) (hbc : bc < lo ∨ hi ≤ bc) :
    Calls Try.prog 131 #[.agg #[.slice a nv c1, .slice a' na c1', tc], .agg #[.int .i64 k, .int .i64 t, .int .i64 ik, .int .i64 iv, si, .int .i64 vk, .int .i64 vv, sv, .int .i64 c, sb, se], .int .i64 d, .pointer (some ⟨bc, 0, none⟩)] w fun e w' => e = .returned (.bool (stScan nv na (.node k t (.node ik iv li) (.node vk vv lv) c lb le) (6 - d).toNat q.toNat)) ∧ One bc w w' ∧ ∃ q', ScanV.Cnt w' bc q' ∧ (stScan nv na (.node k t (.node ik iv li) (.node vk vv lv) c lb le) (6 - d).toNat q.toNat = true → q' = q + stN (.node k t (.node ik iv li) (.node vk vv lv) c lb le)) := by
  have HH := Lib.hid H; clear H
  have SB := Lib.hid (show stScan nv na (.node k t (.node ik iv li) (.node vk vv lv) c lb le) (6 - d).toNat q.toNat = (stB nv na (.node k t (.node ik iv li) (.node vk vv lv) c lb le) (6 - d).toNat && decide (q.toNat + stN (.node k t (.node ik iv li) (.node vk vv lv) c lb le) ≤ 60)) from rfl)
  have SN := Lib.hid (show stN (.node k t (.node ik iv li) (.node vk vv lv) c lb le) = 1 + stsN lb + stsN le by rw [stN])
  have cq := cell_of_heap hq 0
  have fq := frozen_of_heap hq 0
  have hbl := heap_lt hq
  by_cases g0 : 60 < q + 1
  · have D := Lib.hid (show stScan nv na (.node k t (.node ik iv li) (.node vk vv lv) c lb le) (6 - d).toNat q.toNat = false by
      have e : decide (q.toNat + stN (.node k t (.node ik iv li) (.node vk vv lv) c lb le) ≤ 60) = false := by rw [decide_eq_false_iff_not, SN.out]; omega
      rw [SB.out, e]; simp)
    clear HH
    go_enter Try.func131, Try.ntmps131
    go_wp2
    go_ret
    exact ⟨retB D.out.symm, ((Kp.setCell (Kp.refl (fun x => x = bc) w) (.inl rfl) _).alloc _).alloc _, q + 1, heap_old (heap_old (setCell_heap hq _)), fun h => absurd (h.symm.trans D.out) (by decide)⟩
  have g0b : q + 1 ≤ 60 := by omega
  have g0c : decide (60 < q + 1) = false := by rw [decide_eq_false_iff_not]; exact g0
  clear g0
  by_cases g1 : 5 < d
  · have D := Lib.hid (show stScan nv na (.node k t (.node ik iv li) (.node vk vv lv) c lb le) (6 - d).toNat q.toNat = false by
      have e0 : (6 - d).toNat = 0 := by omega
      rw [SB.out, e0, stB]; simp)
    clear HH
    go_enter Try.func131, Try.ntmps131
    go_wp2
    go_ret
    exact ⟨retB D.out.symm, ((Kp.setCell (Kp.refl (fun x => x = bc) w) (.inl rfl) _).alloc _).alloc _, q + 1, heap_old (heap_old (setCell_heap hq _)), fun h => absurd (h.symm.trans D.out) (by decide)⟩
  have g1b : d ≤ 5 := by omega
  have g1c : decide (5 < d) = false := by rw [decide_eq_false_iff_not]; exact g1
  have E1 : decide (1 ≤ (6 - d).toNat) = true := by rw [decide_eq_true_eq]; omega
  have HE1 := Lib.hid E1
  clear g1 E1
  obtain ⟨ab, cb, ebb, mb⟩ := rb.len
  obtain ⟨ae, ce, ebe, me⟩ := re.len
  subst ebb; subst ebe
  by_cases k1 : k = 1
  · have e1 : (k == 1) = true := by simp [k1]
    have U0 := stB_assign nv na (i := (.node ik iv li)) (v := (.node vk vv lv)) (c := c) (b := lb) (e := le) (t := t) (d := (6 - d).toNat) (.inl k1)
    rw [HE1.out, Bool.true_and] at U0
    have U := Lib.hid U0
    clear U0 k1
    go_enter Try.func131, Try.ntmps131
    go_wp2_with fail
    have N0 : One bc w (((w.setCell ⟨bc, 0, none⟩ (.int .i64 (q + 1))).alloc (.cells #[.slice a nv c1, .slice a' na c1', tc] 37)).alloc (.cells #[.int .i64 k, .int .i64 t, .int .i64 ik, .int .i64 iv, si, .int .i64 vk, .int .i64 vv, sv, .int .i64 c, .slice ab lb.length cb, .slice ae le.length ce] 74)) := ((Kp.setCell (Kp.refl (fun x => x = bc) w) (.inl rfl) _).alloc _).alloc _
    have bA_0 : (((w.setCell ⟨bc, 0, none⟩ (.int .i64 (q + 1))).alloc (.cells #[.slice a nv c1, .slice a' na c1', tc] 37)).alloc (.cells #[.int .i64 k, .int .i64 t, .int .i64 ik, .int .i64 iv, si, .int .i64 vk, .int .i64 vv, sv, .int .i64 c, .slice ab lb.length cb, .slice ae le.length ce] 74)).heap[w.heap.size]? = some (.cells #[.slice a nv c1, .slice a' na c1', tc] 37) := heap_old (heap_at (World.size_setCell _ _ _))
    have bB_0 : (((w.setCell ⟨bc, 0, none⟩ (.int .i64 (q + 1))).alloc (.cells #[.slice a nv c1, .slice a' na c1', tc] 37)).alloc (.cells #[.int .i64 k, .int .i64 t, .int .i64 ik, .int .i64 iv, si, .int .i64 vk, .int .i64 vv, sv, .int .i64 c, .slice ab lb.length cb, .slice ae le.length ce] 74)).heap[w.heap.size + 1]? = some (.cells #[.int .i64 k, .int .i64 t, .int .i64 ik, .int .i64 iv, si, .int .i64 vk, .int .i64 vv, sv, .int .i64 c, .slice ab lb.length cb, .slice ae le.length ce] 74) := heap_at (by simp)
    have bQ_0 : ScanV.Cnt (((w.setCell ⟨bc, 0, none⟩ (.int .i64 (q + 1))).alloc (.cells #[.slice a nv c1, .slice a' na c1', tc] 37)).alloc (.cells #[.int .i64 k, .int .i64 t, .int .i64 ik, .int .i64 iv, si, .int .i64 vk, .int .i64 vv, sv, .int .i64 c, .slice ab lb.length cb, .slice ae le.length ce] 74)) bc (q + 1) := heap_old (heap_old (setCell_heap hq _))
    have z0 : w.heap.size + 1 < (((w.setCell ⟨bc, 0, none⟩ (.int .i64 (q + 1))).alloc (.cells #[.slice a nv c1, .slice a' na c1', tc] 37)).alloc (.cells #[.int .i64 k, .int .i64 t, .int .i64 ik, .int .i64 iv, si, .int .i64 vk, .int .i64 vv, sv, .int .i64 c, .slice ab lb.length cb, .slice ae le.length ce] 74)).heap.size := by simp
    generalize (((w.setCell ⟨bc, 0, none⟩ (.int .i64 (q + 1))).alloc (.cells #[.slice a nv c1, .slice a' na c1', tc] 37)).alloc (.cells #[.int .i64 k, .int .i64 t, .int .i64 ik, .int .i64 iv, si, .int .i64 vk, .int .i64 vv, sv, .int .i64 c, .slice ab lb.length cb, .slice ae le.length ce] 74)) = w0 at *
    obtain ⟨bA_0_c0, bA_0_c1, bA_0_c2⟩ := cells3 bA_0
    obtain ⟨bB_0_c0, bB_0_c1, bB_0_c2, bB_0_c3, bB_0_c4, bB_0_c5, bB_0_c6, bB_0_c7⟩ := cells8 bB_0
    have bB_0_c8 := cell_of_heap bB_0 8
    have bB_0_c9 := cell_of_heap bB_0 9
    have bB_0_c10 := cell_of_heap bB_0 10
    have bQ_0_c0 := cell_of_heap bQ_0 0
    refine (Lab.within _ _ _ _).mono ?_
    rintro e w' ⟨rfl, rfl⟩
    cases r0 : Lab.inside t 0 ((nv : Int) - 1)
    · have D := Lib.hid (show stScan nv na (.node k t (.node ik iv li) (.node vk vv lv) c lb le) (6 - d).toNat q.toNat = false by
        have e : stB nv na (.node k t (.node ik iv li) (.node vk vv lv) c lb le) (6 - d).toNat = false := by rw [U.out, r0]; simp
        rw [SB.out, e]; rfl)
      clear HH r0
      go_wp2
      go_ret
      exact ⟨retB D.out.symm, N0, _, bQ_0, fun h => absurd (h.symm.trans D.out) (by decide)⟩
    have Hr0 := Lib.hid r0
    clear r0
    by_cases c0 : c = 0
    rotate_left
    · have c0n : (c != 0) = true := by rw [bne_iff_ne]; exact c0
      have ec0 : decide (c = 0) = false := by rw [decide_eq_false_iff_not]; exact c0
      have Fc0 := Lib.hid ec0
      clear ec0 c0
      have D := Lib.hid (show stScan nv na (.node k t (.node ik iv li) (.node vk vv lv) c lb le) (6 - d).toNat q.toNat = false by
        have e : stB nv na (.node k t (.node ik iv li) (.node vk vv lv) c lb le) (6 - d).toNat = false := by rw [U.out, Fc0.out]; simp
        rw [SB.out, e]; rfl)
      clear HH
      go_wp2
      go_ret
      exact ⟨retB D.out.symm, N0, _, bQ_0, fun h => absurd (h.symm.trans D.out) (by decide)⟩
    have Hc0 := Lib.hid (show decide (c = 0) = true by rw [decide_eq_true_eq]; exact c0)
    have c0n : (c != 0) = false := by rw [bne_eq_false_iff_eq]; exact c0
    clear c0
    by_cases b0 : lb.length = 0
    rotate_left
    · have b0a : 0 < lb.length := by omega
      have eb0 : decide (lb.length = 0) = false := by rw [decide_eq_false_iff_not]; exact b0
      have Fb0 := Lib.hid eb0
      clear eb0 b0
      have D := Lib.hid (show stScan nv na (.node k t (.node ik iv li) (.node vk vv lv) c lb le) (6 - d).toNat q.toNat = false by
        have e : stB nv na (.node k t (.node ik iv li) (.node vk vv lv) c lb le) (6 - d).toNat = false := by rw [U.out, Fb0.out]; simp
        rw [SB.out, e]; rfl)
      clear HH
      go_wp2
      go_ret
      exact ⟨retB D.out.symm, N0, _, bQ_0, fun h => absurd (h.symm.trans D.out) (by decide)⟩
    have Hb0 := Lib.hid (show decide (lb.length = 0) = true by rw [decide_eq_true_eq]; exact b0)
    have b0a : lb.length ≤ 0 := by omega
    have b0b : decide (0 < lb.length) = false := by rw [decide_eq_false_iff_not]; omega
    have LB := Lib.hid (List.eq_nil_of_length_eq_zero b0)
    clear b0
    by_cases l0 : le.length = 0
    rotate_left
    · have l0a : 0 < le.length := by omega
      have el0 : decide (le.length = 0) = false := by rw [decide_eq_false_iff_not]; exact l0
      have Fl0 := Lib.hid el0
      clear el0 l0
      have D := Lib.hid (show stScan nv na (.node k t (.node ik iv li) (.node vk vv lv) c lb le) (6 - d).toNat q.toNat = false by
        have e : stB nv na (.node k t (.node ik iv li) (.node vk vv lv) c lb le) (6 - d).toNat = false := by rw [U.out, Fl0.out]; simp
        rw [SB.out, e]; rfl)
      clear HH
      go_wp2
      go_ret
      exact ⟨retB D.out.symm, N0, _, bQ_0, fun h => absurd (h.symm.trans D.out) (by decide)⟩
    have Hl0 := Lib.hid (show decide (le.length = 0) = true by rw [decide_eq_true_eq]; exact l0)
    have l0a : le.length ≤ 0 := by omega
    have l0b : decide (0 < le.length) = false := by rw [decide_eq_false_iff_not]; omega
    have LE := Lib.hid (List.eq_nil_of_length_eq_zero l0)
    clear l0
    go_wp2_with fail
    refine (isNone _ _ (ri.kp N0 h1 (fun x e => by omega))).mono ?_
    rintro e w1 ⟨rfl, hn1⟩
    have z1 := hn1.size
    have N1 : One bc w w1 := N0.trans (hn1.mono fun _ _ f => f.elim)
    have bA_1 := heap_new hn1 bA_0
    have bB_1 := heap_new hn1 bB_0
    have bQ_1 := heap_new hn1 bQ_0
    clear bA_0_c0 bA_0_c1 bA_0_c2 bB_0_c0 bB_0_c1 bB_0_c2 bB_0_c3 bB_0_c4 bB_0_c5 bB_0_c6 bB_0_c7 bB_0_c8 bB_0_c9 bB_0_c10 bQ_0_c0
    clear bA_0 bB_0 bQ_0 hn1
    obtain ⟨bA_1_c0, bA_1_c1, bA_1_c2⟩ := cells3 bA_1
    obtain ⟨bB_1_c0, bB_1_c1, bB_1_c2, bB_1_c3, bB_1_c4, bB_1_c5, bB_1_c6, bB_1_c7⟩ := cells8 bB_1
    have bB_1_c8 := cell_of_heap bB_1 8
    have bB_1_c9 := cell_of_heap bB_1 9
    have bB_1_c10 := cell_of_heap bB_1 10
    have bQ_1_c0 := cell_of_heap bQ_1 0
    cases r1 : noneB (.node ik iv li)
    · have D := Lib.hid (show stScan nv na (.node k t (.node ik iv li) (.node vk vv lv) c lb le) (6 - d).toNat q.toNat = false by
        have e : stB nv na (.node k t (.node ik iv li) (.node vk vv lv) c lb le) (6 - d).toNat = false := by rw [U.out, r1]; simp
        rw [SB.out, e]; rfl)
      clear HH r1
      go_wp2
      go_ret
      exact ⟨retB D.out.symm, N1, _, bQ_1, fun h => absurd (h.symm.trans D.out) (by decide)⟩
    have Hr1 := Lib.hid r1
    clear r1
    go_wp2_with fail
    refine (ScanV.expr (rv.kp N1 h1 (fun x e => by omega)) (by omega) hnv hna).mono ?_
    rintro e w2 ⟨rfl, hn2⟩
    have z2 := hn2.size
    have N2 : One bc w w2 := N1.trans (hn2.mono fun _ _ f => f.elim)
    have bA_2 := heap_new hn2 bA_1
    have bB_2 := heap_new hn2 bB_1
    have bQ_2 := heap_new hn2 bQ_1
    clear bA_1_c0 bA_1_c1 bA_1_c2 bB_1_c0 bB_1_c1 bB_1_c2 bB_1_c3 bB_1_c4 bB_1_c5 bB_1_c6 bB_1_c7 bB_1_c8 bB_1_c9 bB_1_c10 bQ_1_c0
    clear bA_1 bB_1 bQ_1 hn2
    obtain ⟨bA_2_c0, bA_2_c1, bA_2_c2⟩ := cells3 bA_2
    obtain ⟨bB_2_c0, bB_2_c1, bB_2_c2, bB_2_c3, bB_2_c4, bB_2_c5, bB_2_c6, bB_2_c7⟩ := cells8 bB_2
    have bB_2_c8 := cell_of_heap bB_2 8
    have bB_2_c9 := cell_of_heap bB_2 9
    have bB_2_c10 := cell_of_heap bB_2 10
    have bQ_2_c0 := cell_of_heap bQ_2 0
    cases r2 : right nv na (.node vk vv lv)
    · have D := Lib.hid (show stScan nv na (.node k t (.node ik iv li) (.node vk vv lv) c lb le) (6 - d).toNat q.toNat = false by
        have e : stB nv na (.node k t (.node ik iv li) (.node vk vv lv) c lb le) (6 - d).toNat = false := by rw [U.out, r2]; simp
        rw [SB.out, e]; rfl)
      clear HH r2
      go_wp2
      go_ret
      exact ⟨retB D.out.symm, N2, _, bQ_2, fun h => absurd (h.symm.trans D.out) (by decide)⟩
    have Hr2 := Lib.hid r2
    clear r2
    have V := Lib.hid (show stB nv na (.node k t (.node ik iv li) (.node vk vv lv) c lb le) (6 - d).toNat = (blB nv na lb ((6 - d).toNat - 1) && blB nv na le ((6 - d).toNat - 1)) by rw [U.out, Hr0.out, Hc0.out, Hb0.out, Hl0.out, Hr1.out, Hr2.out, LB.out, LE.out]; simp [blB])
    clear U
    go_wp2_with fail
    clear bA_2_c0 bA_2_c1 bA_2_c2 bB_2_c0 bB_2_c1 bB_2_c2 bB_2_c3 bB_2_c4 bB_2_c5 bB_2_c6 bB_2_c7 bB_2_c8 bB_2_c9 bB_2_c10 bQ_2_c0
    refine (HH.out _ lo hi _ _ _ _ _ _ _ _ _ (d + 1) bc (q + 1) q1 (rb.kp N2 h1 (fun x e => by omega)) (by omega) (by omega) (by omega) hnv hna bQ_2 (by omega) (by omega) hbc).mono ?_
    rintro e x1 ⟨rfl, hx1, q', bQ', hq'⟩
    have zx := hx1.size
    have M1 : One bc w x1 := N2.trans (hx1.mono fun _ _ e => e)
    have cA : x1.heap[w.heap.size]? = _ := (hx1.block _ (by omega) (by omega)).trans bA_2
    have cB : x1.heap[w.heap.size + 1]? = _ := (hx1.block _ (by omega) (by omega)).trans bB_2
    clear bA_2 bB_2 bQ_2 hx1
    obtain ⟨cA0, cA1, cA2⟩ := cells3 cA
    have cB10 := cell_of_heap cB 10
    rw [show (6 - (d + 1)).toNat = (6 - d).toNat - 1 by omega] at hq' ⊢
    have HQ := Lib.hid hq'
    clear hq'
    cases p1 : blScan nv na lb ((6 - d).toNat - 1) (q + 1).toNat
    · have D := Lib.hid (show stScan nv na (.node k t (.node ik iv li) (.node vk vv lv) c lb le) (6 - d).toNat q.toNat = false by
        rw [SB.out, V.out, SN.out]
        rcases Bool.and_eq_false_iff.1 p1 with h | h
        · rw [h]; rfl
        · have h2 := of_decide_eq_false h
          have e : decide (q.toNat + (1 + stsN lb + stsN le) ≤ 60) = false := by rw [decide_eq_false_iff_not]; omega
          rw [e]; simp)
      clear HH HQ p1
      go_wp2
      go_ret
      exact ⟨retB D.out.symm, M1, _, bQ', fun h => absurd (h.symm.trans D.out) (by decide)⟩
    have hq2 := HQ.out p1
    have P1 : blB nv na lb ((6 - d).toNat - 1) = true ∧ (q + 1).toNat + stsN lb ≤ 60 := by simpa [blScan] using p1
    obtain ⟨P1a, P1b⟩ := P1
    have HP1 := Lib.hid P1a
    have q0' : 0 ≤ q' := by omega
    have q60 : q' ≤ 60 := by omega
    have HQ2 := Lib.hid hq2
    clear p1 P1a hq2 HQ
    go_wp2_with fail
    refine (HH.out _ lo hi _ _ _ _ _ _ _ _ _ (d + 1) bc q' q2 (re.kp M1 h1 (fun x e => by omega)) (by omega) (by omega) (by omega) hnv hna bQ' q0' q60 hbc).mono ?_
    rintro e x2 ⟨rfl, hx2, q'', bQ'', hq''⟩
    have M2 : One bc w x2 := M1.trans (hx2.mono fun _ _ e => e)
    rw [show (6 - (d + 1)).toNat = (6 - d).toNat - 1 by omega] at hq'' ⊢
    have D := Lib.hid (show stScan nv na (.node k t (.node ik iv li) (.node vk vv lv) c lb le) (6 - d).toNat q.toNat = blScan nv na le ((6 - d).toNat - 1) q'.toNat by
      have e : decide (q.toNat + (1 + stsN lb + stsN le) ≤ 60) = decide (q'.toNat + stsN le ≤ 60) := by
        have := HQ2.out
        rw [Bool.eq_iff_iff, decide_eq_true_eq, decide_eq_true_eq]; omega
      rw [SB.out, V.out, SN.out, HP1.out, e]; rfl)
    have Z := Lib.hid (show blScan nv na le ((6 - d).toNat - 1) q'.toNat = true → q'' = q + stN (.node k t (.node ik iv li) (.node vk vv lv) c lb le) from fun h => by
      have h1 := hq'' h; have h2 := HQ2.out; have h3 := SN.out; omega)
    clear HH hq'' cA0 cA1 cA2 cB10 HQ2
    go_wp2
    go_ret
    exact ⟨retB D.out.symm, M2, q'', bQ'', fun h => Z.out (D.out ▸ h)⟩
  have e1 : (k == 1) = false := by simp [k1]
  by_cases k5 : k = 5
  · have e5 : (k == 5) = true := by simp [k5]
    clear k1
    have U0 := stB_assign nv na (i := (.node ik iv li)) (v := (.node vk vv lv)) (c := c) (b := lb) (e := le) (t := t) (d := (6 - d).toNat) (.inr k5)
    rw [HE1.out, Bool.true_and] at U0
    have U := Lib.hid U0
    clear U0 k5
    go_enter Try.func131, Try.ntmps131
    go_wp2_with fail
    have N0 : One bc w (((w.setCell ⟨bc, 0, none⟩ (.int .i64 (q + 1))).alloc (.cells #[.slice a nv c1, .slice a' na c1', tc] 37)).alloc (.cells #[.int .i64 k, .int .i64 t, .int .i64 ik, .int .i64 iv, si, .int .i64 vk, .int .i64 vv, sv, .int .i64 c, .slice ab lb.length cb, .slice ae le.length ce] 74)) := ((Kp.setCell (Kp.refl (fun x => x = bc) w) (.inl rfl) _).alloc _).alloc _
    have bA_0 : (((w.setCell ⟨bc, 0, none⟩ (.int .i64 (q + 1))).alloc (.cells #[.slice a nv c1, .slice a' na c1', tc] 37)).alloc (.cells #[.int .i64 k, .int .i64 t, .int .i64 ik, .int .i64 iv, si, .int .i64 vk, .int .i64 vv, sv, .int .i64 c, .slice ab lb.length cb, .slice ae le.length ce] 74)).heap[w.heap.size]? = some (.cells #[.slice a nv c1, .slice a' na c1', tc] 37) := heap_old (heap_at (World.size_setCell _ _ _))
    have bB_0 : (((w.setCell ⟨bc, 0, none⟩ (.int .i64 (q + 1))).alloc (.cells #[.slice a nv c1, .slice a' na c1', tc] 37)).alloc (.cells #[.int .i64 k, .int .i64 t, .int .i64 ik, .int .i64 iv, si, .int .i64 vk, .int .i64 vv, sv, .int .i64 c, .slice ab lb.length cb, .slice ae le.length ce] 74)).heap[w.heap.size + 1]? = some (.cells #[.int .i64 k, .int .i64 t, .int .i64 ik, .int .i64 iv, si, .int .i64 vk, .int .i64 vv, sv, .int .i64 c, .slice ab lb.length cb, .slice ae le.length ce] 74) := heap_at (by simp)
    have bQ_0 : ScanV.Cnt (((w.setCell ⟨bc, 0, none⟩ (.int .i64 (q + 1))).alloc (.cells #[.slice a nv c1, .slice a' na c1', tc] 37)).alloc (.cells #[.int .i64 k, .int .i64 t, .int .i64 ik, .int .i64 iv, si, .int .i64 vk, .int .i64 vv, sv, .int .i64 c, .slice ab lb.length cb, .slice ae le.length ce] 74)) bc (q + 1) := heap_old (heap_old (setCell_heap hq _))
    have z0 : w.heap.size + 1 < (((w.setCell ⟨bc, 0, none⟩ (.int .i64 (q + 1))).alloc (.cells #[.slice a nv c1, .slice a' na c1', tc] 37)).alloc (.cells #[.int .i64 k, .int .i64 t, .int .i64 ik, .int .i64 iv, si, .int .i64 vk, .int .i64 vv, sv, .int .i64 c, .slice ab lb.length cb, .slice ae le.length ce] 74)).heap.size := by simp
    generalize (((w.setCell ⟨bc, 0, none⟩ (.int .i64 (q + 1))).alloc (.cells #[.slice a nv c1, .slice a' na c1', tc] 37)).alloc (.cells #[.int .i64 k, .int .i64 t, .int .i64 ik, .int .i64 iv, si, .int .i64 vk, .int .i64 vv, sv, .int .i64 c, .slice ab lb.length cb, .slice ae le.length ce] 74)) = w0 at *
    obtain ⟨bA_0_c0, bA_0_c1, bA_0_c2⟩ := cells3 bA_0
    obtain ⟨bB_0_c0, bB_0_c1, bB_0_c2, bB_0_c3, bB_0_c4, bB_0_c5, bB_0_c6, bB_0_c7⟩ := cells8 bB_0
    have bB_0_c8 := cell_of_heap bB_0 8
    have bB_0_c9 := cell_of_heap bB_0 9
    have bB_0_c10 := cell_of_heap bB_0 10
    have bQ_0_c0 := cell_of_heap bQ_0 0
    refine (Lab.within _ _ _ _).mono ?_
    rintro e w' ⟨rfl, rfl⟩
    cases r0 : Lab.inside t 0 ((nv : Int) - 1)
    · have D := Lib.hid (show stScan nv na (.node k t (.node ik iv li) (.node vk vv lv) c lb le) (6 - d).toNat q.toNat = false by
        have e : stB nv na (.node k t (.node ik iv li) (.node vk vv lv) c lb le) (6 - d).toNat = false := by rw [U.out, r0]; simp
        rw [SB.out, e]; rfl)
      clear HH r0
      go_wp2
      go_ret
      exact ⟨retB D.out.symm, N0, _, bQ_0, fun h => absurd (h.symm.trans D.out) (by decide)⟩
    have Hr0 := Lib.hid r0
    clear r0
    by_cases c0 : c = 0
    rotate_left
    · have c0n : (c != 0) = true := by rw [bne_iff_ne]; exact c0
      have ec0 : decide (c = 0) = false := by rw [decide_eq_false_iff_not]; exact c0
      have Fc0 := Lib.hid ec0
      clear ec0 c0
      have D := Lib.hid (show stScan nv na (.node k t (.node ik iv li) (.node vk vv lv) c lb le) (6 - d).toNat q.toNat = false by
        have e : stB nv na (.node k t (.node ik iv li) (.node vk vv lv) c lb le) (6 - d).toNat = false := by rw [U.out, Fc0.out]; simp
        rw [SB.out, e]; rfl)
      clear HH
      go_wp2
      go_ret
      exact ⟨retB D.out.symm, N0, _, bQ_0, fun h => absurd (h.symm.trans D.out) (by decide)⟩
    have Hc0 := Lib.hid (show decide (c = 0) = true by rw [decide_eq_true_eq]; exact c0)
    have c0n : (c != 0) = false := by rw [bne_eq_false_iff_eq]; exact c0
    clear c0
    by_cases b0 : lb.length = 0
    rotate_left
    · have b0a : 0 < lb.length := by omega
      have eb0 : decide (lb.length = 0) = false := by rw [decide_eq_false_iff_not]; exact b0
      have Fb0 := Lib.hid eb0
      clear eb0 b0
      have D := Lib.hid (show stScan nv na (.node k t (.node ik iv li) (.node vk vv lv) c lb le) (6 - d).toNat q.toNat = false by
        have e : stB nv na (.node k t (.node ik iv li) (.node vk vv lv) c lb le) (6 - d).toNat = false := by rw [U.out, Fb0.out]; simp
        rw [SB.out, e]; rfl)
      clear HH
      go_wp2
      go_ret
      exact ⟨retB D.out.symm, N0, _, bQ_0, fun h => absurd (h.symm.trans D.out) (by decide)⟩
    have Hb0 := Lib.hid (show decide (lb.length = 0) = true by rw [decide_eq_true_eq]; exact b0)
    have b0a : lb.length ≤ 0 := by omega
    have b0b : decide (0 < lb.length) = false := by rw [decide_eq_false_iff_not]; omega
    have LB := Lib.hid (List.eq_nil_of_length_eq_zero b0)
    clear b0
    by_cases l0 : le.length = 0
    rotate_left
    · have l0a : 0 < le.length := by omega
      have el0 : decide (le.length = 0) = false := by rw [decide_eq_false_iff_not]; exact l0
      have Fl0 := Lib.hid el0
      clear el0 l0
      have D := Lib.hid (show stScan nv na (.node k t (.node ik iv li) (.node vk vv lv) c lb le) (6 - d).toNat q.toNat = false by
        have e : stB nv na (.node k t (.node ik iv li) (.node vk vv lv) c lb le) (6 - d).toNat = false := by rw [U.out, Fl0.out]; simp
        rw [SB.out, e]; rfl)
      clear HH
      go_wp2
      go_ret
      exact ⟨retB D.out.symm, N0, _, bQ_0, fun h => absurd (h.symm.trans D.out) (by decide)⟩
    have Hl0 := Lib.hid (show decide (le.length = 0) = true by rw [decide_eq_true_eq]; exact l0)
    have l0a : le.length ≤ 0 := by omega
    have l0b : decide (0 < le.length) = false := by rw [decide_eq_false_iff_not]; omega
    have LE := Lib.hid (List.eq_nil_of_length_eq_zero l0)
    clear l0
    go_wp2_with fail
    refine (isNone _ _ (ri.kp N0 h1 (fun x e => by omega))).mono ?_
    rintro e w1 ⟨rfl, hn1⟩
    have z1 := hn1.size
    have N1 : One bc w w1 := N0.trans (hn1.mono fun _ _ f => f.elim)
    have bA_1 := heap_new hn1 bA_0
    have bB_1 := heap_new hn1 bB_0
    have bQ_1 := heap_new hn1 bQ_0
    clear bA_0_c0 bA_0_c1 bA_0_c2 bB_0_c0 bB_0_c1 bB_0_c2 bB_0_c3 bB_0_c4 bB_0_c5 bB_0_c6 bB_0_c7 bB_0_c8 bB_0_c9 bB_0_c10 bQ_0_c0
    clear bA_0 bB_0 bQ_0 hn1
    obtain ⟨bA_1_c0, bA_1_c1, bA_1_c2⟩ := cells3 bA_1
    obtain ⟨bB_1_c0, bB_1_c1, bB_1_c2, bB_1_c3, bB_1_c4, bB_1_c5, bB_1_c6, bB_1_c7⟩ := cells8 bB_1
    have bB_1_c8 := cell_of_heap bB_1 8
    have bB_1_c9 := cell_of_heap bB_1 9
    have bB_1_c10 := cell_of_heap bB_1 10
    have bQ_1_c0 := cell_of_heap bQ_1 0
    cases r1 : noneB (.node ik iv li)
    · have D := Lib.hid (show stScan nv na (.node k t (.node ik iv li) (.node vk vv lv) c lb le) (6 - d).toNat q.toNat = false by
        have e : stB nv na (.node k t (.node ik iv li) (.node vk vv lv) c lb le) (6 - d).toNat = false := by rw [U.out, r1]; simp
        rw [SB.out, e]; rfl)
      clear HH r1
      go_wp2
      go_ret
      exact ⟨retB D.out.symm, N1, _, bQ_1, fun h => absurd (h.symm.trans D.out) (by decide)⟩
    have Hr1 := Lib.hid r1
    clear r1
    go_wp2_with fail
    refine (ScanV.expr (rv.kp N1 h1 (fun x e => by omega)) (by omega) hnv hna).mono ?_
    rintro e w2 ⟨rfl, hn2⟩
    have z2 := hn2.size
    have N2 : One bc w w2 := N1.trans (hn2.mono fun _ _ f => f.elim)
    have bA_2 := heap_new hn2 bA_1
    have bB_2 := heap_new hn2 bB_1
    have bQ_2 := heap_new hn2 bQ_1
    clear bA_1_c0 bA_1_c1 bA_1_c2 bB_1_c0 bB_1_c1 bB_1_c2 bB_1_c3 bB_1_c4 bB_1_c5 bB_1_c6 bB_1_c7 bB_1_c8 bB_1_c9 bB_1_c10 bQ_1_c0
    clear bA_1 bB_1 bQ_1 hn2
    obtain ⟨bA_2_c0, bA_2_c1, bA_2_c2⟩ := cells3 bA_2
    obtain ⟨bB_2_c0, bB_2_c1, bB_2_c2, bB_2_c3, bB_2_c4, bB_2_c5, bB_2_c6, bB_2_c7⟩ := cells8 bB_2
    have bB_2_c8 := cell_of_heap bB_2 8
    have bB_2_c9 := cell_of_heap bB_2 9
    have bB_2_c10 := cell_of_heap bB_2 10
    have bQ_2_c0 := cell_of_heap bQ_2 0
    cases r2 : right nv na (.node vk vv lv)
    · have D := Lib.hid (show stScan nv na (.node k t (.node ik iv li) (.node vk vv lv) c lb le) (6 - d).toNat q.toNat = false by
        have e : stB nv na (.node k t (.node ik iv li) (.node vk vv lv) c lb le) (6 - d).toNat = false := by rw [U.out, r2]; simp
        rw [SB.out, e]; rfl)
      clear HH r2
      go_wp2
      go_ret
      exact ⟨retB D.out.symm, N2, _, bQ_2, fun h => absurd (h.symm.trans D.out) (by decide)⟩
    have Hr2 := Lib.hid r2
    clear r2
    have V := Lib.hid (show stB nv na (.node k t (.node ik iv li) (.node vk vv lv) c lb le) (6 - d).toNat = (blB nv na lb ((6 - d).toNat - 1) && blB nv na le ((6 - d).toNat - 1)) by rw [U.out, Hr0.out, Hc0.out, Hb0.out, Hl0.out, Hr1.out, Hr2.out, LB.out, LE.out]; simp [blB])
    clear U
    go_wp2_with fail
    clear bA_2_c0 bA_2_c1 bA_2_c2 bB_2_c0 bB_2_c1 bB_2_c2 bB_2_c3 bB_2_c4 bB_2_c5 bB_2_c6 bB_2_c7 bB_2_c8 bB_2_c9 bB_2_c10 bQ_2_c0
    refine (HH.out _ lo hi _ _ _ _ _ _ _ _ _ (d + 1) bc (q + 1) q1 (rb.kp N2 h1 (fun x e => by omega)) (by omega) (by omega) (by omega) hnv hna bQ_2 (by omega) (by omega) hbc).mono ?_
    rintro e x1 ⟨rfl, hx1, q', bQ', hq'⟩
    have zx := hx1.size
    have M1 : One bc w x1 := N2.trans (hx1.mono fun _ _ e => e)
    have cA : x1.heap[w.heap.size]? = _ := (hx1.block _ (by omega) (by omega)).trans bA_2
    have cB : x1.heap[w.heap.size + 1]? = _ := (hx1.block _ (by omega) (by omega)).trans bB_2
    clear bA_2 bB_2 bQ_2 hx1
    obtain ⟨cA0, cA1, cA2⟩ := cells3 cA
    have cB10 := cell_of_heap cB 10
    rw [show (6 - (d + 1)).toNat = (6 - d).toNat - 1 by omega] at hq' ⊢
    have HQ := Lib.hid hq'
    clear hq'
    cases p1 : blScan nv na lb ((6 - d).toNat - 1) (q + 1).toNat
    · have D := Lib.hid (show stScan nv na (.node k t (.node ik iv li) (.node vk vv lv) c lb le) (6 - d).toNat q.toNat = false by
        rw [SB.out, V.out, SN.out]
        rcases Bool.and_eq_false_iff.1 p1 with h | h
        · rw [h]; rfl
        · have h2 := of_decide_eq_false h
          have e : decide (q.toNat + (1 + stsN lb + stsN le) ≤ 60) = false := by rw [decide_eq_false_iff_not]; omega
          rw [e]; simp)
      clear HH HQ p1
      go_wp2
      go_ret
      exact ⟨retB D.out.symm, M1, _, bQ', fun h => absurd (h.symm.trans D.out) (by decide)⟩
    have hq2 := HQ.out p1
    have P1 : blB nv na lb ((6 - d).toNat - 1) = true ∧ (q + 1).toNat + stsN lb ≤ 60 := by simpa [blScan] using p1
    obtain ⟨P1a, P1b⟩ := P1
    have HP1 := Lib.hid P1a
    have q0' : 0 ≤ q' := by omega
    have q60 : q' ≤ 60 := by omega
    have HQ2 := Lib.hid hq2
    clear p1 P1a hq2 HQ
    go_wp2_with fail
    refine (HH.out _ lo hi _ _ _ _ _ _ _ _ _ (d + 1) bc q' q2 (re.kp M1 h1 (fun x e => by omega)) (by omega) (by omega) (by omega) hnv hna bQ' q0' q60 hbc).mono ?_
    rintro e x2 ⟨rfl, hx2, q'', bQ'', hq''⟩
    have M2 : One bc w x2 := M1.trans (hx2.mono fun _ _ e => e)
    rw [show (6 - (d + 1)).toNat = (6 - d).toNat - 1 by omega] at hq'' ⊢
    have D := Lib.hid (show stScan nv na (.node k t (.node ik iv li) (.node vk vv lv) c lb le) (6 - d).toNat q.toNat = blScan nv na le ((6 - d).toNat - 1) q'.toNat by
      have e : decide (q.toNat + (1 + stsN lb + stsN le) ≤ 60) = decide (q'.toNat + stsN le ≤ 60) := by
        have := HQ2.out
        rw [Bool.eq_iff_iff, decide_eq_true_eq, decide_eq_true_eq]; omega
      rw [SB.out, V.out, SN.out, HP1.out, e]; rfl)
    have Z := Lib.hid (show blScan nv na le ((6 - d).toNat - 1) q'.toNat = true → q'' = q + stN (.node k t (.node ik iv li) (.node vk vv lv) c lb le) from fun h => by
      have h1 := hq'' h; have h2 := HQ2.out; have h3 := SN.out; omega)
    clear HH hq'' cA0 cA1 cA2 cB10 HQ2
    go_wp2
    go_ret
    exact ⟨retB D.out.symm, M2, q'', bQ'', fun h => Z.out (D.out ▸ h)⟩
  have e5 : (k == 5) = false := by simp [k5]
  by_cases k2 : k = 2
  · have e2 : (k == 2) = true := by simp [k2]
    clear k1 k5
    have U0 := stB_store nv na (i := (.node ik iv li)) (v := (.node vk vv lv)) (c := c) (b := lb) (e := le) (t := t) (d := (6 - d).toNat) k2
    rw [HE1.out, Bool.true_and] at U0
    have U := Lib.hid U0
    clear U0 k2
    go_enter Try.func131, Try.ntmps131
    go_wp2_with fail
    have N0 : One bc w (((w.setCell ⟨bc, 0, none⟩ (.int .i64 (q + 1))).alloc (.cells #[.slice a nv c1, .slice a' na c1', tc] 37)).alloc (.cells #[.int .i64 k, .int .i64 t, .int .i64 ik, .int .i64 iv, si, .int .i64 vk, .int .i64 vv, sv, .int .i64 c, .slice ab lb.length cb, .slice ae le.length ce] 74)) := ((Kp.setCell (Kp.refl (fun x => x = bc) w) (.inl rfl) _).alloc _).alloc _
    have bA_0 : (((w.setCell ⟨bc, 0, none⟩ (.int .i64 (q + 1))).alloc (.cells #[.slice a nv c1, .slice a' na c1', tc] 37)).alloc (.cells #[.int .i64 k, .int .i64 t, .int .i64 ik, .int .i64 iv, si, .int .i64 vk, .int .i64 vv, sv, .int .i64 c, .slice ab lb.length cb, .slice ae le.length ce] 74)).heap[w.heap.size]? = some (.cells #[.slice a nv c1, .slice a' na c1', tc] 37) := heap_old (heap_at (World.size_setCell _ _ _))
    have bB_0 : (((w.setCell ⟨bc, 0, none⟩ (.int .i64 (q + 1))).alloc (.cells #[.slice a nv c1, .slice a' na c1', tc] 37)).alloc (.cells #[.int .i64 k, .int .i64 t, .int .i64 ik, .int .i64 iv, si, .int .i64 vk, .int .i64 vv, sv, .int .i64 c, .slice ab lb.length cb, .slice ae le.length ce] 74)).heap[w.heap.size + 1]? = some (.cells #[.int .i64 k, .int .i64 t, .int .i64 ik, .int .i64 iv, si, .int .i64 vk, .int .i64 vv, sv, .int .i64 c, .slice ab lb.length cb, .slice ae le.length ce] 74) := heap_at (by simp)
    have bQ_0 : ScanV.Cnt (((w.setCell ⟨bc, 0, none⟩ (.int .i64 (q + 1))).alloc (.cells #[.slice a nv c1, .slice a' na c1', tc] 37)).alloc (.cells #[.int .i64 k, .int .i64 t, .int .i64 ik, .int .i64 iv, si, .int .i64 vk, .int .i64 vv, sv, .int .i64 c, .slice ab lb.length cb, .slice ae le.length ce] 74)) bc (q + 1) := heap_old (heap_old (setCell_heap hq _))
    have z0 : w.heap.size + 1 < (((w.setCell ⟨bc, 0, none⟩ (.int .i64 (q + 1))).alloc (.cells #[.slice a nv c1, .slice a' na c1', tc] 37)).alloc (.cells #[.int .i64 k, .int .i64 t, .int .i64 ik, .int .i64 iv, si, .int .i64 vk, .int .i64 vv, sv, .int .i64 c, .slice ab lb.length cb, .slice ae le.length ce] 74)).heap.size := by simp
    generalize (((w.setCell ⟨bc, 0, none⟩ (.int .i64 (q + 1))).alloc (.cells #[.slice a nv c1, .slice a' na c1', tc] 37)).alloc (.cells #[.int .i64 k, .int .i64 t, .int .i64 ik, .int .i64 iv, si, .int .i64 vk, .int .i64 vv, sv, .int .i64 c, .slice ab lb.length cb, .slice ae le.length ce] 74)) = w0 at *
    obtain ⟨bA_0_c0, bA_0_c1, bA_0_c2⟩ := cells3 bA_0
    obtain ⟨bB_0_c0, bB_0_c1, bB_0_c2, bB_0_c3, bB_0_c4, bB_0_c5, bB_0_c6, bB_0_c7⟩ := cells8 bB_0
    have bB_0_c8 := cell_of_heap bB_0 8
    have bB_0_c9 := cell_of_heap bB_0 9
    have bB_0_c10 := cell_of_heap bB_0 10
    have bQ_0_c0 := cell_of_heap bQ_0 0
    refine (Lab.within _ _ _ _).mono ?_
    rintro e w' ⟨rfl, rfl⟩
    cases r0 : Lab.inside t 0 ((na : Int) - 1)
    · have D := Lib.hid (show stScan nv na (.node k t (.node ik iv li) (.node vk vv lv) c lb le) (6 - d).toNat q.toNat = false by
        have e : stB nv na (.node k t (.node ik iv li) (.node vk vv lv) c lb le) (6 - d).toNat = false := by rw [U.out, r0]; simp
        rw [SB.out, e]; rfl)
      clear HH r0
      go_wp2
      go_ret
      exact ⟨retB D.out.symm, N0, _, bQ_0, fun h => absurd (h.symm.trans D.out) (by decide)⟩
    have Hr0 := Lib.hid r0
    clear r0
    by_cases c0 : c = 0
    rotate_left
    · have c0n : (c != 0) = true := by rw [bne_iff_ne]; exact c0
      have ec0 : decide (c = 0) = false := by rw [decide_eq_false_iff_not]; exact c0
      have Fc0 := Lib.hid ec0
      clear ec0 c0
      have D := Lib.hid (show stScan nv na (.node k t (.node ik iv li) (.node vk vv lv) c lb le) (6 - d).toNat q.toNat = false by
        have e : stB nv na (.node k t (.node ik iv li) (.node vk vv lv) c lb le) (6 - d).toNat = false := by rw [U.out, Fc0.out]; simp
        rw [SB.out, e]; rfl)
      clear HH
      go_wp2
      go_ret
      exact ⟨retB D.out.symm, N0, _, bQ_0, fun h => absurd (h.symm.trans D.out) (by decide)⟩
    have Hc0 := Lib.hid (show decide (c = 0) = true by rw [decide_eq_true_eq]; exact c0)
    have c0n : (c != 0) = false := by rw [bne_eq_false_iff_eq]; exact c0
    clear c0
    by_cases b0 : lb.length = 0
    rotate_left
    · have b0a : 0 < lb.length := by omega
      have eb0 : decide (lb.length = 0) = false := by rw [decide_eq_false_iff_not]; exact b0
      have Fb0 := Lib.hid eb0
      clear eb0 b0
      have D := Lib.hid (show stScan nv na (.node k t (.node ik iv li) (.node vk vv lv) c lb le) (6 - d).toNat q.toNat = false by
        have e : stB nv na (.node k t (.node ik iv li) (.node vk vv lv) c lb le) (6 - d).toNat = false := by rw [U.out, Fb0.out]; simp
        rw [SB.out, e]; rfl)
      clear HH
      go_wp2
      go_ret
      exact ⟨retB D.out.symm, N0, _, bQ_0, fun h => absurd (h.symm.trans D.out) (by decide)⟩
    have Hb0 := Lib.hid (show decide (lb.length = 0) = true by rw [decide_eq_true_eq]; exact b0)
    have b0a : lb.length ≤ 0 := by omega
    have b0b : decide (0 < lb.length) = false := by rw [decide_eq_false_iff_not]; omega
    have LB := Lib.hid (List.eq_nil_of_length_eq_zero b0)
    clear b0
    by_cases l0 : le.length = 0
    rotate_left
    · have l0a : 0 < le.length := by omega
      have el0 : decide (le.length = 0) = false := by rw [decide_eq_false_iff_not]; exact l0
      have Fl0 := Lib.hid el0
      clear el0 l0
      have D := Lib.hid (show stScan nv na (.node k t (.node ik iv li) (.node vk vv lv) c lb le) (6 - d).toNat q.toNat = false by
        have e : stB nv na (.node k t (.node ik iv li) (.node vk vv lv) c lb le) (6 - d).toNat = false := by rw [U.out, Fl0.out]; simp
        rw [SB.out, e]; rfl)
      clear HH
      go_wp2
      go_ret
      exact ⟨retB D.out.symm, N0, _, bQ_0, fun h => absurd (h.symm.trans D.out) (by decide)⟩
    have Hl0 := Lib.hid (show decide (le.length = 0) = true by rw [decide_eq_true_eq]; exact l0)
    have l0a : le.length ≤ 0 := by omega
    have l0b : decide (0 < le.length) = false := by rw [decide_eq_false_iff_not]; omega
    have LE := Lib.hid (List.eq_nil_of_length_eq_zero l0)
    clear l0
    go_wp2_with fail
    refine (ScanV.expr (ri.kp N0 h1 (fun x e => by omega)) (by omega) hnv hna).mono ?_
    rintro e w1 ⟨rfl, hn1⟩
    have z1 := hn1.size
    have N1 : One bc w w1 := N0.trans (hn1.mono fun _ _ f => f.elim)
    have bA_1 := heap_new hn1 bA_0
    have bB_1 := heap_new hn1 bB_0
    have bQ_1 := heap_new hn1 bQ_0
    clear bA_0_c0 bA_0_c1 bA_0_c2 bB_0_c0 bB_0_c1 bB_0_c2 bB_0_c3 bB_0_c4 bB_0_c5 bB_0_c6 bB_0_c7 bB_0_c8 bB_0_c9 bB_0_c10 bQ_0_c0
    clear bA_0 bB_0 bQ_0 hn1
    obtain ⟨bA_1_c0, bA_1_c1, bA_1_c2⟩ := cells3 bA_1
    obtain ⟨bB_1_c0, bB_1_c1, bB_1_c2, bB_1_c3, bB_1_c4, bB_1_c5, bB_1_c6, bB_1_c7⟩ := cells8 bB_1
    have bB_1_c8 := cell_of_heap bB_1 8
    have bB_1_c9 := cell_of_heap bB_1 9
    have bB_1_c10 := cell_of_heap bB_1 10
    have bQ_1_c0 := cell_of_heap bQ_1 0
    cases r1 : right nv na (.node ik iv li)
    · have D := Lib.hid (show stScan nv na (.node k t (.node ik iv li) (.node vk vv lv) c lb le) (6 - d).toNat q.toNat = false by
        have e : stB nv na (.node k t (.node ik iv li) (.node vk vv lv) c lb le) (6 - d).toNat = false := by rw [U.out, r1]; simp
        rw [SB.out, e]; rfl)
      clear HH r1
      go_wp2
      go_ret
      exact ⟨retB D.out.symm, N1, _, bQ_1, fun h => absurd (h.symm.trans D.out) (by decide)⟩
    have Hr1 := Lib.hid r1
    clear r1
    go_wp2_with fail
    refine (ScanV.isPlain _ _ _).mono ?_
    rintro e w2 ⟨rfl, hn2⟩
    have z2 := hn2.size
    have N2 : One bc w w2 := N1.trans (hn2.mono fun _ _ f => f.elim)
    have bA_2 := heap_new hn2 bA_1
    have bB_2 := heap_new hn2 bB_1
    have bQ_2 := heap_new hn2 bQ_1
    clear bA_1_c0 bA_1_c1 bA_1_c2 bB_1_c0 bB_1_c1 bB_1_c2 bB_1_c3 bB_1_c4 bB_1_c5 bB_1_c6 bB_1_c7 bB_1_c8 bB_1_c9 bB_1_c10 bQ_1_c0
    clear bA_1 bB_1 bQ_1 hn2
    obtain ⟨bA_2_c0, bA_2_c1, bA_2_c2⟩ := cells3 bA_2
    obtain ⟨bB_2_c0, bB_2_c1, bB_2_c2, bB_2_c3, bB_2_c4, bB_2_c5, bB_2_c6, bB_2_c7⟩ := cells8 bB_2
    have bB_2_c8 := cell_of_heap bB_2 8
    have bB_2_c9 := cell_of_heap bB_2 9
    have bB_2_c10 := cell_of_heap bB_2 10
    have bQ_2_c0 := cell_of_heap bQ_2 0
    have AT := Lib.hid (show (ik == 1 || ik == 2) = atom (.node ik iv li) from rfl)
    rw [AT.out]
    cases r3 : atom (.node ik iv li)
    · have D := Lib.hid (show stScan nv na (.node k t (.node ik iv li) (.node vk vv lv) c lb le) (6 - d).toNat q.toNat = false by
        have e : stB nv na (.node k t (.node ik iv li) (.node vk vv lv) c lb le) (6 - d).toNat = false := by rw [U.out, r3]; simp
        rw [SB.out, e]; rfl)
      clear HH r3
      go_wp2
      go_ret
      exact ⟨retB D.out.symm, N2, _, bQ_2, fun h => absurd (h.symm.trans D.out) (by decide)⟩
    have Hr3 := Lib.hid r3
    clear r3
    go_wp2_with fail
    refine (ScanV.expr (rv.kp N2 h1 (fun x e => by omega)) (by omega) hnv hna).mono ?_
    rintro e w3 ⟨rfl, hn3⟩
    have z3 := hn3.size
    have N3 : One bc w w3 := N2.trans (hn3.mono fun _ _ f => f.elim)
    have bA_3 := heap_new hn3 bA_2
    have bB_3 := heap_new hn3 bB_2
    have bQ_3 := heap_new hn3 bQ_2
    clear bA_2_c0 bA_2_c1 bA_2_c2 bB_2_c0 bB_2_c1 bB_2_c2 bB_2_c3 bB_2_c4 bB_2_c5 bB_2_c6 bB_2_c7 bB_2_c8 bB_2_c9 bB_2_c10 bQ_2_c0
    clear bA_2 bB_2 bQ_2 hn3
    obtain ⟨bA_3_c0, bA_3_c1, bA_3_c2⟩ := cells3 bA_3
    obtain ⟨bB_3_c0, bB_3_c1, bB_3_c2, bB_3_c3, bB_3_c4, bB_3_c5, bB_3_c6, bB_3_c7⟩ := cells8 bB_3
    have bB_3_c8 := cell_of_heap bB_3 8
    have bB_3_c9 := cell_of_heap bB_3 9
    have bB_3_c10 := cell_of_heap bB_3 10
    have bQ_3_c0 := cell_of_heap bQ_3 0
    cases r2 : right nv na (.node vk vv lv)
    · have D := Lib.hid (show stScan nv na (.node k t (.node ik iv li) (.node vk vv lv) c lb le) (6 - d).toNat q.toNat = false by
        have e : stB nv na (.node k t (.node ik iv li) (.node vk vv lv) c lb le) (6 - d).toNat = false := by rw [U.out, r2]; simp
        rw [SB.out, e]; rfl)
      clear HH r2
      go_wp2
      go_ret
      exact ⟨retB D.out.symm, N3, _, bQ_3, fun h => absurd (h.symm.trans D.out) (by decide)⟩
    have Hr2 := Lib.hid r2
    clear r2
    have V := Lib.hid (show stB nv na (.node k t (.node ik iv li) (.node vk vv lv) c lb le) (6 - d).toNat = (blB nv na lb ((6 - d).toNat - 1) && blB nv na le ((6 - d).toNat - 1)) by rw [U.out, Hr0.out, Hc0.out, Hb0.out, Hl0.out, Hr1.out, Hr3.out, Hr2.out, LB.out, LE.out]; simp [blB])
    clear U
    go_wp2_with fail
    clear bA_3_c0 bA_3_c1 bA_3_c2 bB_3_c0 bB_3_c1 bB_3_c2 bB_3_c3 bB_3_c4 bB_3_c5 bB_3_c6 bB_3_c7 bB_3_c8 bB_3_c9 bB_3_c10 bQ_3_c0
    refine (HH.out _ lo hi _ _ _ _ _ _ _ _ _ (d + 1) bc (q + 1) q1 (rb.kp N3 h1 (fun x e => by omega)) (by omega) (by omega) (by omega) hnv hna bQ_3 (by omega) (by omega) hbc).mono ?_
    rintro e x1 ⟨rfl, hx1, q', bQ', hq'⟩
    have zx := hx1.size
    have M1 : One bc w x1 := N3.trans (hx1.mono fun _ _ e => e)
    have cA : x1.heap[w.heap.size]? = _ := (hx1.block _ (by omega) (by omega)).trans bA_3
    have cB : x1.heap[w.heap.size + 1]? = _ := (hx1.block _ (by omega) (by omega)).trans bB_3
    clear bA_3 bB_3 bQ_3 hx1
    obtain ⟨cA0, cA1, cA2⟩ := cells3 cA
    have cB10 := cell_of_heap cB 10
    rw [show (6 - (d + 1)).toNat = (6 - d).toNat - 1 by omega] at hq' ⊢
    have HQ := Lib.hid hq'
    clear hq'
    cases p1 : blScan nv na lb ((6 - d).toNat - 1) (q + 1).toNat
    · have D := Lib.hid (show stScan nv na (.node k t (.node ik iv li) (.node vk vv lv) c lb le) (6 - d).toNat q.toNat = false by
        rw [SB.out, V.out, SN.out]
        rcases Bool.and_eq_false_iff.1 p1 with h | h
        · rw [h]; rfl
        · have h2 := of_decide_eq_false h
          have e : decide (q.toNat + (1 + stsN lb + stsN le) ≤ 60) = false := by rw [decide_eq_false_iff_not]; omega
          rw [e]; simp)
      clear HH HQ p1
      go_wp2
      go_ret
      exact ⟨retB D.out.symm, M1, _, bQ', fun h => absurd (h.symm.trans D.out) (by decide)⟩
    have hq2 := HQ.out p1
    have P1 : blB nv na lb ((6 - d).toNat - 1) = true ∧ (q + 1).toNat + stsN lb ≤ 60 := by simpa [blScan] using p1
    obtain ⟨P1a, P1b⟩ := P1
    have HP1 := Lib.hid P1a
    have q0' : 0 ≤ q' := by omega
    have q60 : q' ≤ 60 := by omega
    have HQ2 := Lib.hid hq2
    clear p1 P1a hq2 HQ
    go_wp2_with fail
    refine (HH.out _ lo hi _ _ _ _ _ _ _ _ _ (d + 1) bc q' q2 (re.kp M1 h1 (fun x e => by omega)) (by omega) (by omega) (by omega) hnv hna bQ' q0' q60 hbc).mono ?_
    rintro e x2 ⟨rfl, hx2, q'', bQ'', hq''⟩
    have M2 : One bc w x2 := M1.trans (hx2.mono fun _ _ e => e)
    rw [show (6 - (d + 1)).toNat = (6 - d).toNat - 1 by omega] at hq'' ⊢
    have D := Lib.hid (show stScan nv na (.node k t (.node ik iv li) (.node vk vv lv) c lb le) (6 - d).toNat q.toNat = blScan nv na le ((6 - d).toNat - 1) q'.toNat by
      have e : decide (q.toNat + (1 + stsN lb + stsN le) ≤ 60) = decide (q'.toNat + stsN le ≤ 60) := by
        have := HQ2.out
        rw [Bool.eq_iff_iff, decide_eq_true_eq, decide_eq_true_eq]; omega
      rw [SB.out, V.out, SN.out, HP1.out, e]; rfl)
    have Z := Lib.hid (show blScan nv na le ((6 - d).toNat - 1) q'.toNat = true → q'' = q + stN (.node k t (.node ik iv li) (.node vk vv lv) c lb le) from fun h => by
      have h1 := hq'' h; have h2 := HQ2.out; have h3 := SN.out; omega)
    clear HH hq'' cA0 cA1 cA2 cB10 HQ2
    go_wp2
    go_ret
    exact ⟨retB D.out.symm, M2, q'', bQ'', fun h => Z.out (D.out ▸ h)⟩
  have e2 : (k == 2) = false := by simp [k2]
  by_cases k3 : k = 3
  · have e3 : (k == 3) = true := by simp [k3]
    clear k1 k5 k2
    have U0 := stB_if nv na (i := (.node ik iv li)) (v := (.node vk vv lv)) (c := c) (b := lb) (e := le) (t := t) (d := (6 - d).toNat) k3
    rw [HE1.out, Bool.true_and] at U0
    have U := Lib.hid U0
    clear U0 k3
    go_enter Try.func131, Try.ntmps131
    go_wp2_with fail
    have N0 : One bc w (((w.setCell ⟨bc, 0, none⟩ (.int .i64 (q + 1))).alloc (.cells #[.slice a nv c1, .slice a' na c1', tc] 37)).alloc (.cells #[.int .i64 k, .int .i64 t, .int .i64 ik, .int .i64 iv, si, .int .i64 vk, .int .i64 vv, sv, .int .i64 c, .slice ab lb.length cb, .slice ae le.length ce] 74)) := ((Kp.setCell (Kp.refl (fun x => x = bc) w) (.inl rfl) _).alloc _).alloc _
    have bA_0 : (((w.setCell ⟨bc, 0, none⟩ (.int .i64 (q + 1))).alloc (.cells #[.slice a nv c1, .slice a' na c1', tc] 37)).alloc (.cells #[.int .i64 k, .int .i64 t, .int .i64 ik, .int .i64 iv, si, .int .i64 vk, .int .i64 vv, sv, .int .i64 c, .slice ab lb.length cb, .slice ae le.length ce] 74)).heap[w.heap.size]? = some (.cells #[.slice a nv c1, .slice a' na c1', tc] 37) := heap_old (heap_at (World.size_setCell _ _ _))
    have bB_0 : (((w.setCell ⟨bc, 0, none⟩ (.int .i64 (q + 1))).alloc (.cells #[.slice a nv c1, .slice a' na c1', tc] 37)).alloc (.cells #[.int .i64 k, .int .i64 t, .int .i64 ik, .int .i64 iv, si, .int .i64 vk, .int .i64 vv, sv, .int .i64 c, .slice ab lb.length cb, .slice ae le.length ce] 74)).heap[w.heap.size + 1]? = some (.cells #[.int .i64 k, .int .i64 t, .int .i64 ik, .int .i64 iv, si, .int .i64 vk, .int .i64 vv, sv, .int .i64 c, .slice ab lb.length cb, .slice ae le.length ce] 74) := heap_at (by simp)
    have bQ_0 : ScanV.Cnt (((w.setCell ⟨bc, 0, none⟩ (.int .i64 (q + 1))).alloc (.cells #[.slice a nv c1, .slice a' na c1', tc] 37)).alloc (.cells #[.int .i64 k, .int .i64 t, .int .i64 ik, .int .i64 iv, si, .int .i64 vk, .int .i64 vv, sv, .int .i64 c, .slice ab lb.length cb, .slice ae le.length ce] 74)) bc (q + 1) := heap_old (heap_old (setCell_heap hq _))
    have z0 : w.heap.size + 1 < (((w.setCell ⟨bc, 0, none⟩ (.int .i64 (q + 1))).alloc (.cells #[.slice a nv c1, .slice a' na c1', tc] 37)).alloc (.cells #[.int .i64 k, .int .i64 t, .int .i64 ik, .int .i64 iv, si, .int .i64 vk, .int .i64 vv, sv, .int .i64 c, .slice ab lb.length cb, .slice ae le.length ce] 74)).heap.size := by simp
    generalize (((w.setCell ⟨bc, 0, none⟩ (.int .i64 (q + 1))).alloc (.cells #[.slice a nv c1, .slice a' na c1', tc] 37)).alloc (.cells #[.int .i64 k, .int .i64 t, .int .i64 ik, .int .i64 iv, si, .int .i64 vk, .int .i64 vv, sv, .int .i64 c, .slice ab lb.length cb, .slice ae le.length ce] 74)) = w0 at *
    obtain ⟨bA_0_c0, bA_0_c1, bA_0_c2⟩ := cells3 bA_0
    obtain ⟨bB_0_c0, bB_0_c1, bB_0_c2, bB_0_c3, bB_0_c4, bB_0_c5, bB_0_c6, bB_0_c7⟩ := cells8 bB_0
    have bB_0_c8 := cell_of_heap bB_0 8
    have bB_0_c9 := cell_of_heap bB_0 9
    have bB_0_c10 := cell_of_heap bB_0 10
    have bQ_0_c0 := cell_of_heap bQ_0 0
    refine (Lab.within _ _ _ _).mono ?_
    rintro e w' ⟨rfl, rfl⟩
    cases r0 : Lab.inside t 0 0
    · have D := Lib.hid (show stScan nv na (.node k t (.node ik iv li) (.node vk vv lv) c lb le) (6 - d).toNat q.toNat = false by
        have e : stB nv na (.node k t (.node ik iv li) (.node vk vv lv) c lb le) (6 - d).toNat = false := by rw [U.out, r0]; simp
        rw [SB.out, e]; rfl)
      clear HH r0
      go_wp2
      go_ret
      exact ⟨retB D.out.symm, N0, _, bQ_0, fun h => absurd (h.symm.trans D.out) (by decide)⟩
    have Hr0 := Lib.hid r0
    clear r0
    by_cases c0 : c = 0
    rotate_left
    · have c0n : (c != 0) = true := by rw [bne_iff_ne]; exact c0
      have ec0 : decide (c = 0) = false := by rw [decide_eq_false_iff_not]; exact c0
      have Fc0 := Lib.hid ec0
      clear ec0 c0
      have D := Lib.hid (show stScan nv na (.node k t (.node ik iv li) (.node vk vv lv) c lb le) (6 - d).toNat q.toNat = false by
        have e : stB nv na (.node k t (.node ik iv li) (.node vk vv lv) c lb le) (6 - d).toNat = false := by rw [U.out, Fc0.out]; simp
        rw [SB.out, e]; rfl)
      clear HH
      go_wp2
      go_ret
      exact ⟨retB D.out.symm, N0, _, bQ_0, fun h => absurd (h.symm.trans D.out) (by decide)⟩
    have Hc0 := Lib.hid (show decide (c = 0) = true by rw [decide_eq_true_eq]; exact c0)
    have c0n : (c != 0) = false := by rw [bne_eq_false_iff_eq]; exact c0
    clear c0
    go_wp2_with fail
    refine (isNone _ _ (ri.kp N0 h1 (fun x e => by omega))).mono ?_
    rintro e w1 ⟨rfl, hn1⟩
    have z1 := hn1.size
    have N1 : One bc w w1 := N0.trans (hn1.mono fun _ _ f => f.elim)
    have bA_1 := heap_new hn1 bA_0
    have bB_1 := heap_new hn1 bB_0
    have bQ_1 := heap_new hn1 bQ_0
    clear bA_0_c0 bA_0_c1 bA_0_c2 bB_0_c0 bB_0_c1 bB_0_c2 bB_0_c3 bB_0_c4 bB_0_c5 bB_0_c6 bB_0_c7 bB_0_c8 bB_0_c9 bB_0_c10 bQ_0_c0
    clear bA_0 bB_0 bQ_0 hn1
    obtain ⟨bA_1_c0, bA_1_c1, bA_1_c2⟩ := cells3 bA_1
    obtain ⟨bB_1_c0, bB_1_c1, bB_1_c2, bB_1_c3, bB_1_c4, bB_1_c5, bB_1_c6, bB_1_c7⟩ := cells8 bB_1
    have bB_1_c8 := cell_of_heap bB_1 8
    have bB_1_c9 := cell_of_heap bB_1 9
    have bB_1_c10 := cell_of_heap bB_1 10
    have bQ_1_c0 := cell_of_heap bQ_1 0
    cases r1 : noneB (.node ik iv li)
    · have D := Lib.hid (show stScan nv na (.node k t (.node ik iv li) (.node vk vv lv) c lb le) (6 - d).toNat q.toNat = false by
        have e : stB nv na (.node k t (.node ik iv li) (.node vk vv lv) c lb le) (6 - d).toNat = false := by rw [U.out, r1]; simp
        rw [SB.out, e]; rfl)
      clear HH r1
      go_wp2
      go_ret
      exact ⟨retB D.out.symm, N1, _, bQ_1, fun h => absurd (h.symm.trans D.out) (by decide)⟩
    have Hr1 := Lib.hid r1
    clear r1
    go_wp2_with fail
    refine (ScanV.expr (rv.kp N1 h1 (fun x e => by omega)) (by omega) hnv hna).mono ?_
    rintro e w2 ⟨rfl, hn2⟩
    have z2 := hn2.size
    have N2 : One bc w w2 := N1.trans (hn2.mono fun _ _ f => f.elim)
    have bA_2 := heap_new hn2 bA_1
    have bB_2 := heap_new hn2 bB_1
    have bQ_2 := heap_new hn2 bQ_1
    clear bA_1_c0 bA_1_c1 bA_1_c2 bB_1_c0 bB_1_c1 bB_1_c2 bB_1_c3 bB_1_c4 bB_1_c5 bB_1_c6 bB_1_c7 bB_1_c8 bB_1_c9 bB_1_c10 bQ_1_c0
    clear bA_1 bB_1 bQ_1 hn2
    obtain ⟨bA_2_c0, bA_2_c1, bA_2_c2⟩ := cells3 bA_2
    obtain ⟨bB_2_c0, bB_2_c1, bB_2_c2, bB_2_c3, bB_2_c4, bB_2_c5, bB_2_c6, bB_2_c7⟩ := cells8 bB_2
    have bB_2_c8 := cell_of_heap bB_2 8
    have bB_2_c9 := cell_of_heap bB_2 9
    have bB_2_c10 := cell_of_heap bB_2 10
    have bQ_2_c0 := cell_of_heap bQ_2 0
    cases r2 : right nv na (.node vk vv lv)
    · have D := Lib.hid (show stScan nv na (.node k t (.node ik iv li) (.node vk vv lv) c lb le) (6 - d).toNat q.toNat = false by
        have e : stB nv na (.node k t (.node ik iv li) (.node vk vv lv) c lb le) (6 - d).toNat = false := by rw [U.out, r2]; simp
        rw [SB.out, e]; rfl)
      clear HH r2
      go_wp2
      go_ret
      exact ⟨retB D.out.symm, N2, _, bQ_2, fun h => absurd (h.symm.trans D.out) (by decide)⟩
    have Hr2 := Lib.hid r2
    clear r2
    have V := Lib.hid (show stB nv na (.node k t (.node ik iv li) (.node vk vv lv) c lb le) (6 - d).toNat = (blB nv na lb ((6 - d).toNat - 1) && blB nv na le ((6 - d).toNat - 1)) by rw [U.out, Hr0.out, Hc0.out, Hr1.out, Hr2.out]; rfl)
    clear U
    go_wp2_with fail
    clear bA_2_c0 bA_2_c1 bA_2_c2 bB_2_c0 bB_2_c1 bB_2_c2 bB_2_c3 bB_2_c4 bB_2_c5 bB_2_c6 bB_2_c7 bB_2_c8 bB_2_c9 bB_2_c10 bQ_2_c0
    refine (HH.out _ lo hi _ _ _ _ _ _ _ _ _ (d + 1) bc (q + 1) q1 (rb.kp N2 h1 (fun x e => by omega)) (by omega) (by omega) (by omega) hnv hna bQ_2 (by omega) (by omega) hbc).mono ?_
    rintro e x1 ⟨rfl, hx1, q', bQ', hq'⟩
    have zx := hx1.size
    have M1 : One bc w x1 := N2.trans (hx1.mono fun _ _ e => e)
    have cA : x1.heap[w.heap.size]? = _ := (hx1.block _ (by omega) (by omega)).trans bA_2
    have cB : x1.heap[w.heap.size + 1]? = _ := (hx1.block _ (by omega) (by omega)).trans bB_2
    clear bA_2 bB_2 bQ_2 hx1
    obtain ⟨cA0, cA1, cA2⟩ := cells3 cA
    have cB10 := cell_of_heap cB 10
    rw [show (6 - (d + 1)).toNat = (6 - d).toNat - 1 by omega] at hq' ⊢
    have HQ := Lib.hid hq'
    clear hq'
    cases p1 : blScan nv na lb ((6 - d).toNat - 1) (q + 1).toNat
    · have D := Lib.hid (show stScan nv na (.node k t (.node ik iv li) (.node vk vv lv) c lb le) (6 - d).toNat q.toNat = false by
        rw [SB.out, V.out, SN.out]
        rcases Bool.and_eq_false_iff.1 p1 with h | h
        · rw [h]; rfl
        · have h2 := of_decide_eq_false h
          have e : decide (q.toNat + (1 + stsN lb + stsN le) ≤ 60) = false := by rw [decide_eq_false_iff_not]; omega
          rw [e]; simp)
      clear HH HQ p1
      go_wp2
      go_ret
      exact ⟨retB D.out.symm, M1, _, bQ', fun h => absurd (h.symm.trans D.out) (by decide)⟩
    have hq2 := HQ.out p1
    have P1 : blB nv na lb ((6 - d).toNat - 1) = true ∧ (q + 1).toNat + stsN lb ≤ 60 := by simpa [blScan] using p1
    obtain ⟨P1a, P1b⟩ := P1
    have HP1 := Lib.hid P1a
    have q0' : 0 ≤ q' := by omega
    have q60 : q' ≤ 60 := by omega
    have HQ2 := Lib.hid hq2
    clear p1 P1a hq2 HQ
    go_wp2_with fail
    refine (HH.out _ lo hi _ _ _ _ _ _ _ _ _ (d + 1) bc q' q2 (re.kp M1 h1 (fun x e => by omega)) (by omega) (by omega) (by omega) hnv hna bQ' q0' q60 hbc).mono ?_
    rintro e x2 ⟨rfl, hx2, q'', bQ'', hq''⟩
    have M2 : One bc w x2 := M1.trans (hx2.mono fun _ _ e => e)
    rw [show (6 - (d + 1)).toNat = (6 - d).toNat - 1 by omega] at hq'' ⊢
    have D := Lib.hid (show stScan nv na (.node k t (.node ik iv li) (.node vk vv lv) c lb le) (6 - d).toNat q.toNat = blScan nv na le ((6 - d).toNat - 1) q'.toNat by
      have e : decide (q.toNat + (1 + stsN lb + stsN le) ≤ 60) = decide (q'.toNat + stsN le ≤ 60) := by
        have := HQ2.out
        rw [Bool.eq_iff_iff, decide_eq_true_eq, decide_eq_true_eq]; omega
      rw [SB.out, V.out, SN.out, HP1.out, e]; rfl)
    have Z := Lib.hid (show blScan nv na le ((6 - d).toNat - 1) q'.toNat = true → q'' = q + stN (.node k t (.node ik iv li) (.node vk vv lv) c lb le) from fun h => by
      have h1 := hq'' h; have h2 := HQ2.out; have h3 := SN.out; omega)
    clear HH hq'' cA0 cA1 cA2 cB10 HQ2
    go_wp2
    go_ret
    exact ⟨retB D.out.symm, M2, q'', bQ'', fun h => Z.out (D.out ▸ h)⟩
  have e3 : (k == 3) = false := by simp [k3]
  by_cases k4 : k = 4
  · have e4 : (k == 4) = true := by simp [k4]
    clear k1 k5 k2 k3
    have U0 := stB_repeat nv na (i := (.node ik iv li)) (v := (.node vk vv lv)) (c := c) (b := lb) (e := le) (t := t) (d := (6 - d).toNat) k4
    rw [HE1.out, Bool.true_and] at U0
    have U := Lib.hid U0
    clear U0 k4
    go_enter Try.func131, Try.ntmps131
    go_wp2_with fail
    have N0 : One bc w (((w.setCell ⟨bc, 0, none⟩ (.int .i64 (q + 1))).alloc (.cells #[.slice a nv c1, .slice a' na c1', tc] 37)).alloc (.cells #[.int .i64 k, .int .i64 t, .int .i64 ik, .int .i64 iv, si, .int .i64 vk, .int .i64 vv, sv, .int .i64 c, .slice ab lb.length cb, .slice ae le.length ce] 74)) := ((Kp.setCell (Kp.refl (fun x => x = bc) w) (.inl rfl) _).alloc _).alloc _
    have bA_0 : (((w.setCell ⟨bc, 0, none⟩ (.int .i64 (q + 1))).alloc (.cells #[.slice a nv c1, .slice a' na c1', tc] 37)).alloc (.cells #[.int .i64 k, .int .i64 t, .int .i64 ik, .int .i64 iv, si, .int .i64 vk, .int .i64 vv, sv, .int .i64 c, .slice ab lb.length cb, .slice ae le.length ce] 74)).heap[w.heap.size]? = some (.cells #[.slice a nv c1, .slice a' na c1', tc] 37) := heap_old (heap_at (World.size_setCell _ _ _))
    have bB_0 : (((w.setCell ⟨bc, 0, none⟩ (.int .i64 (q + 1))).alloc (.cells #[.slice a nv c1, .slice a' na c1', tc] 37)).alloc (.cells #[.int .i64 k, .int .i64 t, .int .i64 ik, .int .i64 iv, si, .int .i64 vk, .int .i64 vv, sv, .int .i64 c, .slice ab lb.length cb, .slice ae le.length ce] 74)).heap[w.heap.size + 1]? = some (.cells #[.int .i64 k, .int .i64 t, .int .i64 ik, .int .i64 iv, si, .int .i64 vk, .int .i64 vv, sv, .int .i64 c, .slice ab lb.length cb, .slice ae le.length ce] 74) := heap_at (by simp)
    have bQ_0 : ScanV.Cnt (((w.setCell ⟨bc, 0, none⟩ (.int .i64 (q + 1))).alloc (.cells #[.slice a nv c1, .slice a' na c1', tc] 37)).alloc (.cells #[.int .i64 k, .int .i64 t, .int .i64 ik, .int .i64 iv, si, .int .i64 vk, .int .i64 vv, sv, .int .i64 c, .slice ab lb.length cb, .slice ae le.length ce] 74)) bc (q + 1) := heap_old (heap_old (setCell_heap hq _))
    have z0 : w.heap.size + 1 < (((w.setCell ⟨bc, 0, none⟩ (.int .i64 (q + 1))).alloc (.cells #[.slice a nv c1, .slice a' na c1', tc] 37)).alloc (.cells #[.int .i64 k, .int .i64 t, .int .i64 ik, .int .i64 iv, si, .int .i64 vk, .int .i64 vv, sv, .int .i64 c, .slice ab lb.length cb, .slice ae le.length ce] 74)).heap.size := by simp
    generalize (((w.setCell ⟨bc, 0, none⟩ (.int .i64 (q + 1))).alloc (.cells #[.slice a nv c1, .slice a' na c1', tc] 37)).alloc (.cells #[.int .i64 k, .int .i64 t, .int .i64 ik, .int .i64 iv, si, .int .i64 vk, .int .i64 vv, sv, .int .i64 c, .slice ab lb.length cb, .slice ae le.length ce] 74)) = w0 at *
    obtain ⟨bA_0_c0, bA_0_c1, bA_0_c2⟩ := cells3 bA_0
    obtain ⟨bB_0_c0, bB_0_c1, bB_0_c2, bB_0_c3, bB_0_c4, bB_0_c5, bB_0_c6, bB_0_c7⟩ := cells8 bB_0
    have bB_0_c8 := cell_of_heap bB_0 8
    have bB_0_c9 := cell_of_heap bB_0 9
    have bB_0_c10 := cell_of_heap bB_0 10
    have bQ_0_c0 := cell_of_heap bQ_0 0
    refine (Lab.within _ _ _ _).mono ?_
    rintro e w' ⟨rfl, rfl⟩
    cases r0 : Lab.inside t 0 0
    · have D := Lib.hid (show stScan nv na (.node k t (.node ik iv li) (.node vk vv lv) c lb le) (6 - d).toNat q.toNat = false by
        have e : stB nv na (.node k t (.node ik iv li) (.node vk vv lv) c lb le) (6 - d).toNat = false := by rw [U.out, r0]; simp
        rw [SB.out, e]; rfl)
      clear HH r0
      go_wp2
      go_ret
      exact ⟨retB D.out.symm, N0, _, bQ_0, fun h => absurd (h.symm.trans D.out) (by decide)⟩
    have Hr0 := Lib.hid r0
    clear r0
    go_wp2_with fail
    refine (Lab.within _ _ _ _).mono ?_
    rintro e w' ⟨rfl, rfl⟩
    cases r4 : Lab.inside c 1 3
    · have D := Lib.hid (show stScan nv na (.node k t (.node ik iv li) (.node vk vv lv) c lb le) (6 - d).toNat q.toNat = false by
        have e : stB nv na (.node k t (.node ik iv li) (.node vk vv lv) c lb le) (6 - d).toNat = false := by rw [U.out, r4]; simp
        rw [SB.out, e]; rfl)
      clear HH r4
      go_wp2
      go_ret
      exact ⟨retB D.out.symm, N0, _, bQ_0, fun h => absurd (h.symm.trans D.out) (by decide)⟩
    have Hr4 := Lib.hid r4
    clear r4
    by_cases l0 : le.length = 0
    rotate_left
    · have l0a : 0 < le.length := by omega
      have el0 : decide (le.length = 0) = false := by rw [decide_eq_false_iff_not]; exact l0
      have Fl0 := Lib.hid el0
      clear el0 l0
      have D := Lib.hid (show stScan nv na (.node k t (.node ik iv li) (.node vk vv lv) c lb le) (6 - d).toNat q.toNat = false by
        have e : stB nv na (.node k t (.node ik iv li) (.node vk vv lv) c lb le) (6 - d).toNat = false := by rw [U.out, Fl0.out]; simp
        rw [SB.out, e]; rfl)
      clear HH
      go_wp2
      go_ret
      exact ⟨retB D.out.symm, N0, _, bQ_0, fun h => absurd (h.symm.trans D.out) (by decide)⟩
    have Hl0 := Lib.hid (show decide (le.length = 0) = true by rw [decide_eq_true_eq]; exact l0)
    have l0a : le.length ≤ 0 := by omega
    have l0b : decide (0 < le.length) = false := by rw [decide_eq_false_iff_not]; omega
    have LE := Lib.hid (List.eq_nil_of_length_eq_zero l0)
    clear l0
    go_wp2_with fail
    refine (isNone _ _ (ri.kp N0 h1 (fun x e => by omega))).mono ?_
    rintro e w1 ⟨rfl, hn1⟩
    have z1 := hn1.size
    have N1 : One bc w w1 := N0.trans (hn1.mono fun _ _ f => f.elim)
    have bA_1 := heap_new hn1 bA_0
    have bB_1 := heap_new hn1 bB_0
    have bQ_1 := heap_new hn1 bQ_0
    clear bA_0_c0 bA_0_c1 bA_0_c2 bB_0_c0 bB_0_c1 bB_0_c2 bB_0_c3 bB_0_c4 bB_0_c5 bB_0_c6 bB_0_c7 bB_0_c8 bB_0_c9 bB_0_c10 bQ_0_c0
    clear bA_0 bB_0 bQ_0 hn1
    obtain ⟨bA_1_c0, bA_1_c1, bA_1_c2⟩ := cells3 bA_1
    obtain ⟨bB_1_c0, bB_1_c1, bB_1_c2, bB_1_c3, bB_1_c4, bB_1_c5, bB_1_c6, bB_1_c7⟩ := cells8 bB_1
    have bB_1_c8 := cell_of_heap bB_1 8
    have bB_1_c9 := cell_of_heap bB_1 9
    have bB_1_c10 := cell_of_heap bB_1 10
    have bQ_1_c0 := cell_of_heap bQ_1 0
    cases r1 : noneB (.node ik iv li)
    · have D := Lib.hid (show stScan nv na (.node k t (.node ik iv li) (.node vk vv lv) c lb le) (6 - d).toNat q.toNat = false by
        have e : stB nv na (.node k t (.node ik iv li) (.node vk vv lv) c lb le) (6 - d).toNat = false := by rw [U.out, r1]; simp
        rw [SB.out, e]; rfl)
      clear HH r1
      go_wp2
      go_ret
      exact ⟨retB D.out.symm, N1, _, bQ_1, fun h => absurd (h.symm.trans D.out) (by decide)⟩
    have Hr1 := Lib.hid r1
    clear r1
    go_wp2_with fail
    refine (isNone _ _ (rv.kp N1 h1 (fun x e => by omega))).mono ?_
    rintro e w2 ⟨rfl, hn2⟩
    have z2 := hn2.size
    have N2 : One bc w w2 := N1.trans (hn2.mono fun _ _ f => f.elim)
    have bA_2 := heap_new hn2 bA_1
    have bB_2 := heap_new hn2 bB_1
    have bQ_2 := heap_new hn2 bQ_1
    clear bA_1_c0 bA_1_c1 bA_1_c2 bB_1_c0 bB_1_c1 bB_1_c2 bB_1_c3 bB_1_c4 bB_1_c5 bB_1_c6 bB_1_c7 bB_1_c8 bB_1_c9 bB_1_c10 bQ_1_c0
    clear bA_1 bB_1 bQ_1 hn2
    obtain ⟨bA_2_c0, bA_2_c1, bA_2_c2⟩ := cells3 bA_2
    obtain ⟨bB_2_c0, bB_2_c1, bB_2_c2, bB_2_c3, bB_2_c4, bB_2_c5, bB_2_c6, bB_2_c7⟩ := cells8 bB_2
    have bB_2_c8 := cell_of_heap bB_2 8
    have bB_2_c9 := cell_of_heap bB_2 9
    have bB_2_c10 := cell_of_heap bB_2 10
    have bQ_2_c0 := cell_of_heap bQ_2 0
    cases r2 : noneB (.node vk vv lv)
    · have D := Lib.hid (show stScan nv na (.node k t (.node ik iv li) (.node vk vv lv) c lb le) (6 - d).toNat q.toNat = false by
        have e : stB nv na (.node k t (.node ik iv li) (.node vk vv lv) c lb le) (6 - d).toNat = false := by rw [U.out, r2]; simp
        rw [SB.out, e]; rfl)
      clear HH r2
      go_wp2
      go_ret
      exact ⟨retB D.out.symm, N2, _, bQ_2, fun h => absurd (h.symm.trans D.out) (by decide)⟩
    have Hr2 := Lib.hid r2
    clear r2
    have V := Lib.hid (show stB nv na (.node k t (.node ik iv li) (.node vk vv lv) c lb le) (6 - d).toNat = (blB nv na lb ((6 - d).toNat - 1) && blB nv na le ((6 - d).toNat - 1)) by rw [U.out, Hr0.out, Hr4.out, Hl0.out, Hr1.out, Hr2.out, LE.out]; simp [blB])
    clear U
    go_wp2_with fail
    clear bA_2_c0 bA_2_c1 bA_2_c2 bB_2_c0 bB_2_c1 bB_2_c2 bB_2_c3 bB_2_c4 bB_2_c5 bB_2_c6 bB_2_c7 bB_2_c8 bB_2_c9 bB_2_c10 bQ_2_c0
    refine (HH.out _ lo hi _ _ _ _ _ _ _ _ _ (d + 1) bc (q + 1) q1 (rb.kp N2 h1 (fun x e => by omega)) (by omega) (by omega) (by omega) hnv hna bQ_2 (by omega) (by omega) hbc).mono ?_
    rintro e x1 ⟨rfl, hx1, q', bQ', hq'⟩
    have zx := hx1.size
    have M1 : One bc w x1 := N2.trans (hx1.mono fun _ _ e => e)
    have cA : x1.heap[w.heap.size]? = _ := (hx1.block _ (by omega) (by omega)).trans bA_2
    have cB : x1.heap[w.heap.size + 1]? = _ := (hx1.block _ (by omega) (by omega)).trans bB_2
    clear bA_2 bB_2 bQ_2 hx1
    obtain ⟨cA0, cA1, cA2⟩ := cells3 cA
    have cB10 := cell_of_heap cB 10
    rw [show (6 - (d + 1)).toNat = (6 - d).toNat - 1 by omega] at hq' ⊢
    have HQ := Lib.hid hq'
    clear hq'
    cases p1 : blScan nv na lb ((6 - d).toNat - 1) (q + 1).toNat
    · have D := Lib.hid (show stScan nv na (.node k t (.node ik iv li) (.node vk vv lv) c lb le) (6 - d).toNat q.toNat = false by
        rw [SB.out, V.out, SN.out]
        rcases Bool.and_eq_false_iff.1 p1 with h | h
        · rw [h]; rfl
        · have h2 := of_decide_eq_false h
          have e : decide (q.toNat + (1 + stsN lb + stsN le) ≤ 60) = false := by rw [decide_eq_false_iff_not]; omega
          rw [e]; simp)
      clear HH HQ p1
      go_wp2
      go_ret
      exact ⟨retB D.out.symm, M1, _, bQ', fun h => absurd (h.symm.trans D.out) (by decide)⟩
    have hq2 := HQ.out p1
    have P1 : blB nv na lb ((6 - d).toNat - 1) = true ∧ (q + 1).toNat + stsN lb ≤ 60 := by simpa [blScan] using p1
    obtain ⟨P1a, P1b⟩ := P1
    have HP1 := Lib.hid P1a
    have q0' : 0 ≤ q' := by omega
    have q60 : q' ≤ 60 := by omega
    have HQ2 := Lib.hid hq2
    clear p1 P1a hq2 HQ
    go_wp2_with fail
    refine (HH.out _ lo hi _ _ _ _ _ _ _ _ _ (d + 1) bc q' q2 (re.kp M1 h1 (fun x e => by omega)) (by omega) (by omega) (by omega) hnv hna bQ' q0' q60 hbc).mono ?_
    rintro e x2 ⟨rfl, hx2, q'', bQ'', hq''⟩
    have M2 : One bc w x2 := M1.trans (hx2.mono fun _ _ e => e)
    rw [show (6 - (d + 1)).toNat = (6 - d).toNat - 1 by omega] at hq'' ⊢
    have D := Lib.hid (show stScan nv na (.node k t (.node ik iv li) (.node vk vv lv) c lb le) (6 - d).toNat q.toNat = blScan nv na le ((6 - d).toNat - 1) q'.toNat by
      have e : decide (q.toNat + (1 + stsN lb + stsN le) ≤ 60) = decide (q'.toNat + stsN le ≤ 60) := by
        have := HQ2.out
        rw [Bool.eq_iff_iff, decide_eq_true_eq, decide_eq_true_eq]; omega
      rw [SB.out, V.out, SN.out, HP1.out, e]; rfl)
    have Z := Lib.hid (show blScan nv na le ((6 - d).toNat - 1) q'.toNat = true → q'' = q + stN (.node k t (.node ik iv li) (.node vk vv lv) c lb le) from fun h => by
      have h1 := hq'' h; have h2 := HQ2.out; have h3 := SN.out; omega)
    clear HH hq'' cA0 cA1 cA2 cB10 HQ2
    go_wp2
    go_ret
    exact ⟨retB D.out.symm, M2, q'', bQ'', fun h => Z.out (D.out ▸ h)⟩
  have e4 : (k == 4) = false := by simp [k4]
  have D := Lib.hid (show stScan nv na (.node k t (.node ik iv li) (.node vk vv lv) c lb le) (6 - d).toNat q.toNat = false by rw [SB.out, stB_other nv na k1 k5 k2 k3 k4]; rfl)
  clear HH k1 k5 k2 k3 k4
  go_enter Try.func131, Try.ntmps131
  go_wp2
  go_ret
  exact ⟨retB D.out.symm, ((Kp.setCell (Kp.refl (fun x => x = bc) w) (.inl rfl) _).alloc _).alloc _, q + 1, heap_old (heap_old (setCell_heap hq _)), fun h => absurd (h.symm.trans D.out) (by decide)⟩
set_option maxHeartbeats 4000000 in
theorem stmts_step (n : Nat) (H : Does n) (w : World) (lo hi : Nat) (a a' : Option Addr) (nv c1 na c1' : Nat) (tc : Value) (s : Value) (l : List St) (d : Int) (bc : Nat) (q : Int) (hl : St.sizes l ≤ n) (hs : StsR w lo hi s l) (h1 : hi ≤ w.heap.size) (hd0 : 1 ≤ d) (hd6 : d ≤ 6) (hnv : nv ≤ 9223372036854775807) (hna : na ≤ 9223372036854775807) (hq : ScanV.Cnt w bc q) (hq0 : 0 ≤ q) (hq60 : q ≤ 60) (hbc : bc < lo ∨ hi ≤ bc) :
    Calls Try.prog 106 #[.agg #[.slice a nv c1, .slice a' na c1', tc], s, .int .i64 d, .pointer (some ⟨bc, 0, none⟩)] w fun e w' => e = .returned (.bool (blScan nv na l (6 - d).toNat q.toNat)) ∧ One bc w w' ∧ ∃ q', ScanV.Cnt w' bc q' ∧ (blScan nv na l (6 - d).toNat q.toNat = true → q' = q + stsN l) := by
  obtain ⟨a2, c2, rfl, hl1⟩ := hs.len
  have HH := Lib.hid H; clear H
  have hbq := heap_lt hq
  go_enter Try.func106, Try.ntmps106
  go_wp2_with fail
  have N0 : New w (w.alloc (.cells #[.slice a nv c1, .slice a' na c1', tc] 37)) := ((Kp.refl _ _).alloc _)
  have bA_0 : (w.alloc (.cells #[.slice a nv c1, .slice a' na c1', tc] 37)).heap[w.heap.size]? = some (.cells #[.slice a nv c1, .slice a' na c1', tc] 37) := alloc_heap _ _
  have z0 : w.heap.size < (w.alloc (.cells #[.slice a nv c1, .slice a' na c1', tc] 37)).heap.size := by simp
  generalize (w.alloc (.cells #[.slice a nv c1, .slice a' na c1', tc] 37)) = w0 at *
  go_wp2_with fail
  have Q0 : ScanV.Cnt w0 bc q := heap_new N0 hq
  go_loopw [13] (fun i wr => ∃ (j : Nat) (m : Int), j ≤ l.length ∧ i = .int .i64 j ∧ One bc w0 wr ∧ ScanV.Cnt wr bc m ∧ 0 ≤ m ∧ m ≤ 60 ∧ Hid (m = q + stsN (l.take j)) ∧ Hid (blB nv na (l.take j) (6 - d).toNat = true)) (fun i _ => l.length - (intOf i).toNat)
  case atStart => exact ⟨0, q, Nat.zero_le _, rfl, Kp.refl _ _, Q0, hq0, hq60, Lib.hid (by simp [stsN]), Lib.hid (by simp [blB])⟩
  case round =>
    obtain ⟨j, m, hj, rfl, hNA, hQ, hm0, hm60, hM, hG⟩ := hrel
    have N1 : One bc w wr := (N0.mono fun _ _ f => f.elim).trans (hNA.mono fun _ _ e => e)
    have hz3 := hNA.size
    have bA1 : wr.heap[w.heap.size]? = _ := (hNA.block _ (by omega) (by omega)).trans bA_0
    obtain ⟨cA0, cA1, cA2⟩ := cells3 bA1
    have zA : w.heap.size < wr.heap.size := by omega
    by_cases hlt : j < l.length
    · obtain ⟨b, o, vi, vv, vb, ve, e, A⟩ := (hs.kp N1 h1 (fun x e => by omega)).elem j hlt
      cases e
      obtain ⟨a4, c4, rfl, _⟩ := A.ri.len
      obtain ⟨a7, c7, rfl, _⟩ := A.rv.len
      obtain ⟨a9, c9, rfl, _⟩ := A.rb.len
      obtain ⟨a10, c10, rfl, _⟩ := A.re.len
      have hp := St.parts_get l j hlt
      have hbad := Lib.hid (blScan_bad nv na (6 - d).toNat (c := q.toNat) (m := m.toNat) hlt)
      have hT := Lib.hid (blB_take nv na (6 - d).toNat hlt)
      have hT2 := Lib.hid (stsN_take hlt)
      have hE := Lib.hid (St.eta l[j])
      have hp1 : St.sizes l[j].body < n := by omega
      have hp2 : St.sizes l[j].els < n := by omega
      have hz : hi ≤ (wr.alloc (.cells #[.int .i64 l[j].kind, .int .i64 l[j].target, .int .i64 l[j].index.kind, .int .i64 l[j].index.val, .slice a4 l[j].index.kids.length c4, .int .i64 l[j].value.kind, .int .i64 l[j].value.val, .slice a7 l[j].value.kids.length c7, .int .i64 l[j].count, .slice a9 l[j].body.length c9, .slice a10 l[j].els.length c10] 74)).heap.size := by simp; omega
      have A1 := A.new (by omega) ((Kp.refl (fun _ => False) wr).alloc (.cells #[.int .i64 l[j].kind, .int .i64 l[j].target, .int .i64 l[j].index.kind, .int .i64 l[j].index.val, .slice a4 l[j].index.kids.length c4, .int .i64 l[j].value.kind, .int .i64 l[j].value.val, .slice a7 l[j].value.kids.length c7, .int .i64 l[j].count, .slice a9 l[j].body.length c9, .slice a10 l[j].els.length c10] 74))
      have r4 := A1.ri
      have r7 := A1.rv
      have r9 := A1.rb
      have r10 := A1.re
      obtain ⟨hblo, hbhi, d0, d1, d2, d3, d4, d5, d6, d7, d8, d9, d10, _, _, _, _⟩ := A
      have hbl : b < wr.heap.size := by omega
      have hQ1 : ScanV.Cnt (wr.alloc (.cells #[.int .i64 l[j].kind, .int .i64 l[j].target, .int .i64 l[j].index.kind, .int .i64 l[j].index.val, .slice a4 l[j].index.kids.length c4, .int .i64 l[j].value.kind, .int .i64 l[j].value.val, .slice a7 l[j].value.kids.length c7, .int .i64 l[j].count, .slice a9 l[j].body.length c9, .slice a10 l[j].els.length c10] 74)) bc m := heap_old hQ
      clear hs A1 hp
      generalize l[j] = x at *
      go_wp2_with fail
      refine (stmt_step n HH.out _ lo hi _ _ _ _ _ _ _ _ _ _ _ _ _ _ _ _ _ _ _ _ _ _ d bc m hp1 hp2 r4 r7 r9 r10 hz hd0 hd6 hnv hna hQ1 hm0 hm60 hbc).mono ?_
      rintro r w3 ⟨rfl, hn3, m', hQ3, hm3⟩
      have N4 : One bc w w3 := (N1.alloc _).trans (hn3.mono fun _ _ e => e)
      have hNA2 : One bc w0 w3 := (hNA.alloc _).trans (hn3.mono fun _ _ e => e)
      rw [hE.out] at hm3 ⊢
      have hm4 := Lib.hid hm3
      clear hm3
      cases hp : stScan nv na x (6 - d).toNat m.toNat
      · have D := Lib.hid (show blScan nv na l (6 - d).toNat q.toNat = false from hbad.out hp (by have := hM.out; omega))
        clear hbad hT hT2 hM hG hp HH hm4
        go_wp2
        go_ret
        exact ⟨retB D.out.symm, N4, _, hQ3, fun h => absurd (h.symm.trans D.out) (by decide)⟩
      · have hm5 := hm4.out hp
        have hsx : stB nv na x (6 - d).toNat = true ∧ m.toNat + stN x ≤ 60 := by simpa [stScan] using hp
        have hG2 := Lib.hid (show blB nv na (l.take (j + 1)) (6 - d).toNat = true by rw [hT.out, hG.out, hsx.1]; rfl)
        have hM2 := Lib.hid (show m' = q + stsN (l.take (j + 1)) by have := hM.out; have := hT2.out; omega)
        have h60 : m' ≤ 60 := by omega
        have h0 : 0 ≤ m' := by omega
        clear hbad hT hT2 hM hG hp hm4 hm5 hsx
        go_wp2
        go_roundw
        case rel => exact ⟨j + 1, m', by omega, by go_num, hNA2, hQ3, h0, h60, hM2, hG2⟩
        case measure => simp [intOf]; omega
    · have hfin := Lib.hid (show m = q + stsN l by
        have h2 := hM.out
        rw [List.take_of_length_le (by omega)] at h2
        exact h2)
      have D := Lib.hid (show blScan nv na l (6 - d).toNat q.toNat = true by
        have h := hG.out
        rw [List.take_of_length_le (by omega)] at h
        have h2 := hfin.out
        rw [blScan, h]; simp; omega)
      have hge : l.length ≤ j := by omega
      clear hG hM HH hs
      go_wp2
      go_ret
      exact ⟨retB D.out.symm, N1, m, hQ, fun _ => hfin.out⟩
theorem does : ∀ n, Does n
  | 0 => fun w lo hi a a' nv c na c' tc s l d bc q hl => absurd hl (Nat.not_lt_zero _)
  | n + 1 => fun w lo hi a a' nv c na c' tc s l d bc q hl hs h1 h2 h3 h4 h5 h6 h7 h8 h9 => stmts_step n (does n) w lo hi a a' nv c na c' tc s l d bc q (Nat.le_of_lt_succ hl) hs h1 h2 h3 h4 h5 h6 h7 h8 h9
end Go.Proofs.Ytckikiaockkmbaa.StmtV
