/- PublicPart and TrustedPart of impl and of spec. Conditions: bounds on lengths; (spec) at most 2^20 nodes. -/
import Derived.Test.YtckikiaockkmbaaUPartC
import Derived.Test.YtckikiaockkmbaaUP1
namespace Go.Proofs.Ytckikiaockkmbaa.PartM
open Go.RowKit Kit Val MarkC PartP PartC
set_option linter.unusedVariables false
/-- a memory that fits -/
structure Fits (nv na : Nat) (ya : List Int) (yb : List (List Int)) : Prop where
  vl : ya.length = nv
  al : yb.length = na
  r4 : ∀ y ∈ yb, y.length = 4
theorem EvPfit {nv na : Nat} {ya : List Int} {yb : List (List Int)} (h : fitB nv na ya yb = true) : Fits nv na ya yb := by
  simp only [fitB, rowB, Bool.and_eq_true, decide_eq_true_eq, List.all_eq_true] at h
  exact ⟨h.1.1.1, h.1.1.2, fun y hy => (h.2 y hy).1⟩
theorem prog_good {xa xb : List Int} {l : List St} (h : progB xa xb l = true) : good xa = true ∧ good xb = true := by
  simp only [progB, declB, Bool.and_eq_true] at h
  exact ⟨h.1.1.1.2, h.1.1.2⟩
/-- what a part answers -/
def GotP (q : Int → Bool) (xa xb ya : List Int) (l : List St) (yb : List (List Int)) (w : World) (e : Ending) (w' : World) : Prop := ∃ ua ub, e = .returned (.tuple #[.agg #[ua, ub], .bool (progB xa xb l && fitB xa.length xb.length ya yb)]) ∧ New w w' ∧
  MemO w' w.heap.size w'.heap.size ua ub (if (progB xa xb l && fitB xa.length xb.length ya yb) = true then clr q xa ya else []) (if (progB xa xb l && fitB xa.length xb.length ya yb) = true then clrM q xb yb else [])
theorem bit1 (l : Int) (h : Lab.okL l = true) : (bits .and .i64 l 1 != 0) = Lab.secretB l := by
  obtain rfl | rfl | rfl | rfl := Lab.okL_cases h <;> decide
theorem bit2 (l : Int) (h : Lab.okL l = true) : (bits .and .i64 l 2 != 0) = untB l := by
  obtain rfl | rfl | rfl | rfl := Lab.okL_cases h <;> decide
theorem unt (w : World) (x : Int) : Calls Try.prog 96 #[.int .i64 x] w fun e w' => e = .returned (.bool (untB x)) ∧ w = w' := by
  go_enter Try.func96, Try.ntmps96
  go_wp2_with fail
  refine (Lab.implLabelTrusted _ _).mono ?_
  rintro r w1 ⟨rfl, rfl⟩
  go_wp2
  go_ret
  exact ⟨rfl, rfl⟩
set_option maxHeartbeats 8000000 in
theorem implPub {w : World} {lo hi lo' hi' : Nat} {ta tb tc va vb : Value} {xa xb ya : List Int} {yb : List (List Int)} {l : List St} (sa : IntsR w lo hi ta xa) (sb : IntsR w lo hi tb xb) (s : StsR w lo hi tc l) (hO : MemO w lo' hi' va vb ya yb) (h1 : hi ≤ w.heap.size) (h2 : hi' ≤ w.heap.size) (m1 : ya.length ≤ 1000000) (m2 : yb.length ≤ 1000000) (hm : St.sizes l ≤ 1048576) :
    Calls Try.prog 41 #[.agg #[ta, tb, tc], .agg #[va, vb]] w (GotP Lab.secretB xa xb ya l yb w) := by
  obtain ⟨a1, d1, rfl, _⟩ := sa.len
  obtain ⟨a2, d2, rfl, _⟩ := sb.len
  obtain ⟨a3, d3, rfl, _⟩ := s.len
  obtain ⟨⟨a4, d4, rfl⟩, a5, d5, rfl⟩ := hO.lens
  have N0 : New w (((w.alloc (.cells #[.slice a1 xa.length d1, .slice a2 xb.length d2, .slice a3 l.length d3] 37)).alloc (.cells #[.slice a4 ya.length d4, .slice a5 yb.length d5] 79)).alloc (.cells #[.slice none 0 0, .slice none 0 0] 79)) := (((Kp.refl _ _).alloc _).alloc _).alloc _
  have bP_0 : (((w.alloc (.cells #[.slice a1 xa.length d1, .slice a2 xb.length d2, .slice a3 l.length d3] 37)).alloc (.cells #[.slice a4 ya.length d4, .slice a5 yb.length d5] 79)).alloc (.cells #[.slice none 0 0, .slice none 0 0] 79)).heap[w.heap.size]? = some (.cells #[.slice a1 xa.length d1, .slice a2 xb.length d2, .slice a3 l.length d3] 37) := heap_old (heap_old (alloc_heap _ _))
  have bM_0 : (((w.alloc (.cells #[.slice a1 xa.length d1, .slice a2 xb.length d2, .slice a3 l.length d3] 37)).alloc (.cells #[.slice a4 ya.length d4, .slice a5 yb.length d5] 79)).alloc (.cells #[.slice none 0 0, .slice none 0 0] 79)).heap[w.heap.size + 1]? = some (.cells #[.slice a4 ya.length d4, .slice a5 yb.length d5] 79) := heap_old (heap_at (by simp))
  have bR_0 : (((w.alloc (.cells #[.slice a1 xa.length d1, .slice a2 xb.length d2, .slice a3 l.length d3] 37)).alloc (.cells #[.slice a4 ya.length d4, .slice a5 yb.length d5] 79)).alloc (.cells #[.slice none 0 0, .slice none 0 0] 79)).heap[w.heap.size + 1 + 1]? = some (.cells #[.slice none 0 0, .slice none 0 0] 79) := heap_at (by simp)
  have z0 : w.heap.size + 1 + 1 < (((w.alloc (.cells #[.slice a1 xa.length d1, .slice a2 xb.length d2, .slice a3 l.length d3] 37)).alloc (.cells #[.slice a4 ya.length d4, .slice a5 yb.length d5] 79)).alloc (.cells #[.slice none 0 0, .slice none 0 0] 79)).heap.size := by simp
  have hsa := Lib.hid (sa.new h1 N0)
  have hsb := Lib.hid (sb.new h1 N0)
  have hs := Lib.hid (s.new h1 N0)
  have hOh := Lib.hid (hO.new h2 N0)
  clear sa sb s hO
  go_enter Try.func41, Try.ntmps41
  go_upto_region 1 with fail
  generalize (((w.alloc (.cells #[.slice a1 xa.length d1, .slice a2 xb.length d2, .slice a3 l.length d3] 37)).alloc (.cells #[.slice a4 ya.length d4, .slice a5 yb.length d5] 79)).alloc (.cells #[.slice none 0 0, .slice none 0 0] 79)) = w0 at *
  obtain ⟨cP0, cP1, cP2⟩ := cells3 bP_0
  obtain ⟨cM0, cM1⟩ := cells2 bM_0
  go_wp2_with fail
  refine (PgmV.implM hsa.out hsb.out hs.out (by omega) hOh.out.reads.1 hOh.out.reads.2 (by omega)).mono ?_
  rintro e w1 ⟨rfl, hn1⟩
  have z1 := hn1.size
  have bP_1 := heap_new hn1 bP_0
  have bM_1 := heap_new hn1 bM_0
  have bR_1 := heap_new hn1 bR_0
  have N1 := N0.trans hn1
  have hsa1 := Lib.hid (hsa.out.new (by omega) hn1)
  have hsb1 := Lib.hid (hsb.out.new (by omega) hn1)
  have hO1 := Lib.hid (hOh.out.new (by omega) hn1)
  clear cP0 cP1 cP2 cM0 cM1 bP_0 bM_0 bR_0 hsa hsb hs hOh hn1 N0
  obtain ⟨cP0, cP1, cP2⟩ := cells3 bP_1
  obtain ⟨cM0, cM1⟩ := cells2 bM_1
  obtain ⟨cR0, cR1⟩ := cells2 bR_1
  have cRf := frozen_of_heap bR_1
  have cRl := heap_lt bR_1
  cases ht : (progB xa xb l && fitB xa.length xb.length ya yb)
  · have hth := Lib.hid ht
    have hlw := Lib.hid (show w.heap.size ≤ w1.heap.size by omega)
    clear ht
    go_wp2
    have hkz := setMany_kp (w.heap.size + 1 + 1) [.slice none 0 0, .slice none 0 0] w1 0
    have zs := setMany_size (w.heap.size + 1 + 1) [.slice none 0 0, .slice none 0 0] w1 0
    have hR := setMany_row [.slice none 0 0, .slice none 0 0] bR_1 rfl
    exact bodyPost_ret (results_cell_tmp rfl _ _ _ _ _ _ _ _ rfl rfl hR Try.underlying79 rfl (by kernel_rfl)) rfl ⟨_, _, by rw [hth.out]; rfl, New.one N1 hkz (by omega), by rw [hth.out]; exact DrawM.nilM _ _ _ (Nat.le_trans hlw.out (Nat.le_of_eq zs.symm))⟩
  · have hth := Lib.hid ht
    have hlw := Lib.hid (show w.heap.size ≤ w1.heap.size by omega)
    rw [Bool.and_eq_true] at ht
    obtain ⟨hp, hf⟩ := ht
    have F := EvPfit hf
    have g1 := Lib.hid (prog_good hp).1
    have g2 := Lib.hid (prog_good hp).2
    have hFh := Lib.hid F
    clear hp hf F
    go_wp2_with fail
    refine (cleared 44 (enters_of Try.func44 (by kernel_rfl) rfl) Lab.secretB (fun w x => Lab.implLabelSecret x w) w1 lo hi lo' hi' _ _ _ _ xa xb ya yb hsa1.out hsb1.out hO1.out (by omega) (by omega) hFh.out.vl hFh.out.al (fun y hy => hFh.out.r4 y hy) (by omega) (by omega)).mono ?_
    rintro e w2 ⟨ua, ub, rfl, hn2, hM⟩
    have z2 := hn2.size
    have bR_2 := heap_new hn2 bR_1
    have N2 := N1.trans hn2
    obtain ⟨⟨aU, dU, rfl⟩, aV, dV, rfl⟩ := hM.lens
    have hMh := Lib.hid hM
    clear cP0 cP1 cP2 cM0 cM1 cR0 cR1 cRf cRl bP_1 bM_1 bR_1 hM hn2 N1
    obtain ⟨cR0, cR1⟩ := cells2 bR_2
    have cRf := frozen_of_heap bR_2
    have cRl := heap_lt bR_2
    go_wp2
    have hkz := setMany_kp (w.heap.size + 1 + 1) [.slice aU (clr Lab.secretB xa ya).length dU, .slice aV (clrM Lab.secretB xb yb).length dV] w2 0
    have zs := setMany_size (w.heap.size + 1 + 1) [.slice aU (clr Lab.secretB xa ya).length dU, .slice aV (clrM Lab.secretB xb yb).length dV] w2 0
    have hR := setMany_row [.slice aU (clr Lab.secretB xa ya).length dU, .slice aV (clrM Lab.secretB xb yb).length dV] bR_2 rfl
    exact bodyPost_ret (results_cell_tmp rfl _ _ _ _ _ _ _ _ rfl rfl hR Try.underlying79 rfl (by kernel_rfl)) rfl ⟨_, _, by rw [hth.out]; rfl, New.one N2 hkz (by omega), by rw [hth.out]; exact (hMh.out.kp hkz (fun b e => .inl (by subst e; omega))).mono (by omega) (Nat.le_of_eq zs.symm)⟩
set_option maxHeartbeats 8000000 in
theorem specPub {w : World} {lo hi lo' hi' : Nat} {ta tb tc va vb : Value} {xa xb ya : List Int} {yb : List (List Int)} {l : List St} (sa : IntsR w lo hi ta xa) (sb : IntsR w lo hi tb xb) (s : StsR w lo hi tc l) (hO : MemO w lo' hi' va vb ya yb) (h1 : hi ≤ w.heap.size) (h2 : hi' ≤ w.heap.size) (m1 : ya.length ≤ 1000000) (m2 : yb.length ≤ 1000000) (hm : St.sizes l ≤ 1048576) :
    Calls Try.prog 42 #[.agg #[ta, tb, tc], .agg #[va, vb]] w (GotP Lab.secretB xa xb ya l yb w) := by
  obtain ⟨a1, d1, rfl, _⟩ := sa.len
  obtain ⟨a2, d2, rfl, _⟩ := sb.len
  obtain ⟨a3, d3, rfl, _⟩ := s.len
  obtain ⟨⟨a4, d4, rfl⟩, a5, d5, rfl⟩ := hO.lens
  have N0 : New w (((w.alloc (.cells #[.slice a1 xa.length d1, .slice a2 xb.length d2, .slice a3 l.length d3] 37)).alloc (.cells #[.slice a4 ya.length d4, .slice a5 yb.length d5] 79)).alloc (.cells #[.slice none 0 0, .slice none 0 0] 79)) := (((Kp.refl _ _).alloc _).alloc _).alloc _
  have bP_0 : (((w.alloc (.cells #[.slice a1 xa.length d1, .slice a2 xb.length d2, .slice a3 l.length d3] 37)).alloc (.cells #[.slice a4 ya.length d4, .slice a5 yb.length d5] 79)).alloc (.cells #[.slice none 0 0, .slice none 0 0] 79)).heap[w.heap.size]? = some (.cells #[.slice a1 xa.length d1, .slice a2 xb.length d2, .slice a3 l.length d3] 37) := heap_old (heap_old (alloc_heap _ _))
  have bM_0 : (((w.alloc (.cells #[.slice a1 xa.length d1, .slice a2 xb.length d2, .slice a3 l.length d3] 37)).alloc (.cells #[.slice a4 ya.length d4, .slice a5 yb.length d5] 79)).alloc (.cells #[.slice none 0 0, .slice none 0 0] 79)).heap[w.heap.size + 1]? = some (.cells #[.slice a4 ya.length d4, .slice a5 yb.length d5] 79) := heap_old (heap_at (by simp))
  have bR_0 : (((w.alloc (.cells #[.slice a1 xa.length d1, .slice a2 xb.length d2, .slice a3 l.length d3] 37)).alloc (.cells #[.slice a4 ya.length d4, .slice a5 yb.length d5] 79)).alloc (.cells #[.slice none 0 0, .slice none 0 0] 79)).heap[w.heap.size + 1 + 1]? = some (.cells #[.slice none 0 0, .slice none 0 0] 79) := heap_at (by simp)
  have z0 : w.heap.size + 1 + 1 < (((w.alloc (.cells #[.slice a1 xa.length d1, .slice a2 xb.length d2, .slice a3 l.length d3] 37)).alloc (.cells #[.slice a4 ya.length d4, .slice a5 yb.length d5] 79)).alloc (.cells #[.slice none 0 0, .slice none 0 0] 79)).heap.size := by simp
  have hsa := Lib.hid (sa.new h1 N0)
  have hsb := Lib.hid (sb.new h1 N0)
  have hs := Lib.hid (s.new h1 N0)
  have hOh := Lib.hid (hO.new h2 N0)
  clear sa sb s hO
  go_enter Try.func42, Try.ntmps42
  go_upto_region 1 with fail
  generalize (((w.alloc (.cells #[.slice a1 xa.length d1, .slice a2 xb.length d2, .slice a3 l.length d3] 37)).alloc (.cells #[.slice a4 ya.length d4, .slice a5 yb.length d5] 79)).alloc (.cells #[.slice none 0 0, .slice none 0 0] 79)) = w0 at *
  obtain ⟨cP0, cP1, cP2⟩ := cells3 bP_0
  obtain ⟨cM0, cM1⟩ := cells2 bM_0
  go_wp2_with fail
  refine (PgmV.specM hsa.out hsb.out hs.out (by omega) hOh.out.reads.1 hOh.out.reads.2 (by omega) hm).mono ?_
  rintro e w1 ⟨rfl, hn1⟩
  have z1 := hn1.size
  have bP_1 := heap_new hn1 bP_0
  have bM_1 := heap_new hn1 bM_0
  have bR_1 := heap_new hn1 bR_0
  have N1 := N0.trans hn1
  have hsa1 := Lib.hid (hsa.out.new (by omega) hn1)
  have hsb1 := Lib.hid (hsb.out.new (by omega) hn1)
  have hO1 := Lib.hid (hOh.out.new (by omega) hn1)
  clear cP0 cP1 cP2 cM0 cM1 bP_0 bM_0 bR_0 hsa hsb hs hOh hn1 N0
  obtain ⟨cP0, cP1, cP2⟩ := cells3 bP_1
  obtain ⟨cM0, cM1⟩ := cells2 bM_1
  obtain ⟨cR0, cR1⟩ := cells2 bR_1
  have cRf := frozen_of_heap bR_1
  have cRl := heap_lt bR_1
  cases ht : (progB xa xb l && fitB xa.length xb.length ya yb)
  · have hth := Lib.hid ht
    have hlw := Lib.hid (show w.heap.size ≤ w1.heap.size by omega)
    clear ht
    go_wp2
    have hkz := setMany_kp (w.heap.size + 1 + 1) [.slice none 0 0, .slice none 0 0] w1 0
    have zs := setMany_size (w.heap.size + 1 + 1) [.slice none 0 0, .slice none 0 0] w1 0
    have hR := setMany_row [.slice none 0 0, .slice none 0 0] bR_1 rfl
    exact bodyPost_ret (results_cell_tmp rfl _ _ _ _ _ _ _ _ rfl rfl hR Try.underlying79 rfl (by kernel_rfl)) rfl ⟨_, _, by rw [hth.out]; rfl, New.one N1 hkz (by omega), by rw [hth.out]; exact DrawM.nilM _ _ _ (Nat.le_trans hlw.out (Nat.le_of_eq zs.symm))⟩
  · have hth := Lib.hid ht
    have hlw := Lib.hid (show w.heap.size ≤ w1.heap.size by omega)
    rw [Bool.and_eq_true] at ht
    obtain ⟨hp, hf⟩ := ht
    have F := EvPfit hf
    have g1 := Lib.hid (prog_good hp).1
    have g2 := Lib.hid (prog_good hp).2
    have hFh := Lib.hid F
    clear hp hf F
    go_wp2_with fail
    refine (l3Part 1 Lab.secretB bit1 w1 lo hi lo' hi' _ _ _ _ _ xa xb ya yb hsa1.out hsb1.out hO1.out.reads.1 hO1.out.reads.2 (by omega) (by omega) g1.out g2.out hFh.out.vl hFh.out.al (fun y hy => hFh.out.r4 y hy) (by omega) (by omega)).mono ?_
    rintro e w2 ⟨ua, ub, rfl, hn2, hM⟩
    have z2 := hn2.size
    have bR_2 := heap_new hn2 bR_1
    have N2 := N1.trans hn2
    obtain ⟨⟨aU, dU, rfl⟩, aV, dV, rfl⟩ := hM.lens
    have hMh := Lib.hid hM
    clear cP0 cP1 cP2 cM0 cM1 cR0 cR1 cRf cRl bP_1 bM_1 bR_1 hM hn2 N1
    obtain ⟨cR0, cR1⟩ := cells2 bR_2
    have cRf := frozen_of_heap bR_2
    have cRl := heap_lt bR_2
    go_wp2
    have hkz := setMany_kp (w.heap.size + 1 + 1) [.slice aU (clr Lab.secretB xa ya).length dU, .slice aV (clrM Lab.secretB xb yb).length dV] w2 0
    have zs := setMany_size (w.heap.size + 1 + 1) [.slice aU (clr Lab.secretB xa ya).length dU, .slice aV (clrM Lab.secretB xb yb).length dV] w2 0
    have hR := setMany_row [.slice aU (clr Lab.secretB xa ya).length dU, .slice aV (clrM Lab.secretB xb yb).length dV] bR_2 rfl
    exact bodyPost_ret (results_cell_tmp rfl _ _ _ _ _ _ _ _ rfl rfl hR Try.underlying79 rfl (by kernel_rfl)) rfl ⟨_, _, by rw [hth.out]; rfl, New.one N2 hkz (by omega), by rw [hth.out]; exact (hMh.out.kp hkz (fun b e => .inl (by subst e; omega))).mono (by omega) (Nat.le_of_eq zs.symm)⟩
set_option maxHeartbeats 8000000 in
theorem implTru {w : World} {lo hi lo' hi' : Nat} {ta tb tc va vb : Value} {xa xb ya : List Int} {yb : List (List Int)} {l : List St} (sa : IntsR w lo hi ta xa) (sb : IntsR w lo hi tb xb) (s : StsR w lo hi tc l) (hO : MemO w lo' hi' va vb ya yb) (h1 : hi ≤ w.heap.size) (h2 : hi' ≤ w.heap.size) (m1 : ya.length ≤ 1000000) (m2 : yb.length ≤ 1000000) (hm : St.sizes l ≤ 1048576) :
    Calls Try.prog 46 #[.agg #[ta, tb, tc], .agg #[va, vb]] w (GotP untB xa xb ya l yb w) := by
  obtain ⟨a1, d1, rfl, _⟩ := sa.len
  obtain ⟨a2, d2, rfl, _⟩ := sb.len
  obtain ⟨a3, d3, rfl, _⟩ := s.len
  obtain ⟨⟨a4, d4, rfl⟩, a5, d5, rfl⟩ := hO.lens
  have N0 : New w (((w.alloc (.cells #[.slice a1 xa.length d1, .slice a2 xb.length d2, .slice a3 l.length d3] 37)).alloc (.cells #[.slice a4 ya.length d4, .slice a5 yb.length d5] 79)).alloc (.cells #[.slice none 0 0, .slice none 0 0] 79)) := (((Kp.refl _ _).alloc _).alloc _).alloc _
  have bP_0 : (((w.alloc (.cells #[.slice a1 xa.length d1, .slice a2 xb.length d2, .slice a3 l.length d3] 37)).alloc (.cells #[.slice a4 ya.length d4, .slice a5 yb.length d5] 79)).alloc (.cells #[.slice none 0 0, .slice none 0 0] 79)).heap[w.heap.size]? = some (.cells #[.slice a1 xa.length d1, .slice a2 xb.length d2, .slice a3 l.length d3] 37) := heap_old (heap_old (alloc_heap _ _))
  have bM_0 : (((w.alloc (.cells #[.slice a1 xa.length d1, .slice a2 xb.length d2, .slice a3 l.length d3] 37)).alloc (.cells #[.slice a4 ya.length d4, .slice a5 yb.length d5] 79)).alloc (.cells #[.slice none 0 0, .slice none 0 0] 79)).heap[w.heap.size + 1]? = some (.cells #[.slice a4 ya.length d4, .slice a5 yb.length d5] 79) := heap_old (heap_at (by simp))
  have bR_0 : (((w.alloc (.cells #[.slice a1 xa.length d1, .slice a2 xb.length d2, .slice a3 l.length d3] 37)).alloc (.cells #[.slice a4 ya.length d4, .slice a5 yb.length d5] 79)).alloc (.cells #[.slice none 0 0, .slice none 0 0] 79)).heap[w.heap.size + 1 + 1]? = some (.cells #[.slice none 0 0, .slice none 0 0] 79) := heap_at (by simp)
  have z0 : w.heap.size + 1 + 1 < (((w.alloc (.cells #[.slice a1 xa.length d1, .slice a2 xb.length d2, .slice a3 l.length d3] 37)).alloc (.cells #[.slice a4 ya.length d4, .slice a5 yb.length d5] 79)).alloc (.cells #[.slice none 0 0, .slice none 0 0] 79)).heap.size := by simp
  have hsa := Lib.hid (sa.new h1 N0)
  have hsb := Lib.hid (sb.new h1 N0)
  have hs := Lib.hid (s.new h1 N0)
  have hOh := Lib.hid (hO.new h2 N0)
  clear sa sb s hO
  go_enter Try.func46, Try.ntmps46
  go_upto_region 1 with fail
  generalize (((w.alloc (.cells #[.slice a1 xa.length d1, .slice a2 xb.length d2, .slice a3 l.length d3] 37)).alloc (.cells #[.slice a4 ya.length d4, .slice a5 yb.length d5] 79)).alloc (.cells #[.slice none 0 0, .slice none 0 0] 79)) = w0 at *
  obtain ⟨cP0, cP1, cP2⟩ := cells3 bP_0
  obtain ⟨cM0, cM1⟩ := cells2 bM_0
  go_wp2_with fail
  refine (PgmV.implM hsa.out hsb.out hs.out (by omega) hOh.out.reads.1 hOh.out.reads.2 (by omega)).mono ?_
  rintro e w1 ⟨rfl, hn1⟩
  have z1 := hn1.size
  have bP_1 := heap_new hn1 bP_0
  have bM_1 := heap_new hn1 bM_0
  have bR_1 := heap_new hn1 bR_0
  have N1 := N0.trans hn1
  have hsa1 := Lib.hid (hsa.out.new (by omega) hn1)
  have hsb1 := Lib.hid (hsb.out.new (by omega) hn1)
  have hO1 := Lib.hid (hOh.out.new (by omega) hn1)
  clear cP0 cP1 cP2 cM0 cM1 bP_0 bM_0 bR_0 hsa hsb hs hOh hn1 N0
  obtain ⟨cP0, cP1, cP2⟩ := cells3 bP_1
  obtain ⟨cM0, cM1⟩ := cells2 bM_1
  obtain ⟨cR0, cR1⟩ := cells2 bR_1
  have cRf := frozen_of_heap bR_1
  have cRl := heap_lt bR_1
  cases ht : (progB xa xb l && fitB xa.length xb.length ya yb)
  · have hth := Lib.hid ht
    have hlw := Lib.hid (show w.heap.size ≤ w1.heap.size by omega)
    clear ht
    go_wp2
    have hkz := setMany_kp (w.heap.size + 1 + 1) [.slice none 0 0, .slice none 0 0] w1 0
    have zs := setMany_size (w.heap.size + 1 + 1) [.slice none 0 0, .slice none 0 0] w1 0
    have hR := setMany_row [.slice none 0 0, .slice none 0 0] bR_1 rfl
    exact bodyPost_ret (results_cell_tmp rfl _ _ _ _ _ _ _ _ rfl rfl hR Try.underlying79 rfl (by kernel_rfl)) rfl ⟨_, _, by rw [hth.out]; rfl, New.one N1 hkz (by omega), by rw [hth.out]; exact DrawM.nilM _ _ _ (Nat.le_trans hlw.out (Nat.le_of_eq zs.symm))⟩
  · have hth := Lib.hid ht
    have hlw := Lib.hid (show w.heap.size ≤ w1.heap.size by omega)
    rw [Bool.and_eq_true] at ht
    obtain ⟨hp, hf⟩ := ht
    have F := EvPfit hf
    have g1 := Lib.hid (prog_good hp).1
    have g2 := Lib.hid (prog_good hp).2
    have hFh := Lib.hid F
    clear hp hf F
    go_wp2_with fail
    refine (cleared 96 (enters_of Try.func96 (by kernel_rfl) rfl) untB unt w1 lo hi lo' hi' _ _ _ _ xa xb ya yb hsa1.out hsb1.out hO1.out (by omega) (by omega) hFh.out.vl hFh.out.al (fun y hy => hFh.out.r4 y hy) (by omega) (by omega)).mono ?_
    rintro e w2 ⟨ua, ub, rfl, hn2, hM⟩
    have z2 := hn2.size
    have bR_2 := heap_new hn2 bR_1
    have N2 := N1.trans hn2
    obtain ⟨⟨aU, dU, rfl⟩, aV, dV, rfl⟩ := hM.lens
    have hMh := Lib.hid hM
    clear cP0 cP1 cP2 cM0 cM1 cR0 cR1 cRf cRl bP_1 bM_1 bR_1 hM hn2 N1
    obtain ⟨cR0, cR1⟩ := cells2 bR_2
    have cRf := frozen_of_heap bR_2
    have cRl := heap_lt bR_2
    go_wp2
    have hkz := setMany_kp (w.heap.size + 1 + 1) [.slice aU (clr untB xa ya).length dU, .slice aV (clrM untB xb yb).length dV] w2 0
    have zs := setMany_size (w.heap.size + 1 + 1) [.slice aU (clr untB xa ya).length dU, .slice aV (clrM untB xb yb).length dV] w2 0
    have hR := setMany_row [.slice aU (clr untB xa ya).length dU, .slice aV (clrM untB xb yb).length dV] bR_2 rfl
    exact bodyPost_ret (results_cell_tmp rfl _ _ _ _ _ _ _ _ rfl rfl hR Try.underlying79 rfl (by kernel_rfl)) rfl ⟨_, _, by rw [hth.out]; rfl, New.one N2 hkz (by omega), by rw [hth.out]; exact (hMh.out.kp hkz (fun b e => .inl (by subst e; omega))).mono (by omega) (Nat.le_of_eq zs.symm)⟩
set_option maxHeartbeats 8000000 in
theorem specTru {w : World} {lo hi lo' hi' : Nat} {ta tb tc va vb : Value} {xa xb ya : List Int} {yb : List (List Int)} {l : List St} (sa : IntsR w lo hi ta xa) (sb : IntsR w lo hi tb xb) (s : StsR w lo hi tc l) (hO : MemO w lo' hi' va vb ya yb) (h1 : hi ≤ w.heap.size) (h2 : hi' ≤ w.heap.size) (m1 : ya.length ≤ 1000000) (m2 : yb.length ≤ 1000000) (hm : St.sizes l ≤ 1048576) :
    Calls Try.prog 47 #[.agg #[ta, tb, tc], .agg #[va, vb]] w (GotP untB xa xb ya l yb w) := by
  obtain ⟨a1, d1, rfl, _⟩ := sa.len
  obtain ⟨a2, d2, rfl, _⟩ := sb.len
  obtain ⟨a3, d3, rfl, _⟩ := s.len
  obtain ⟨⟨a4, d4, rfl⟩, a5, d5, rfl⟩ := hO.lens
  have N0 : New w (((w.alloc (.cells #[.slice a1 xa.length d1, .slice a2 xb.length d2, .slice a3 l.length d3] 37)).alloc (.cells #[.slice a4 ya.length d4, .slice a5 yb.length d5] 79)).alloc (.cells #[.slice none 0 0, .slice none 0 0] 79)) := (((Kp.refl _ _).alloc _).alloc _).alloc _
  have bP_0 : (((w.alloc (.cells #[.slice a1 xa.length d1, .slice a2 xb.length d2, .slice a3 l.length d3] 37)).alloc (.cells #[.slice a4 ya.length d4, .slice a5 yb.length d5] 79)).alloc (.cells #[.slice none 0 0, .slice none 0 0] 79)).heap[w.heap.size]? = some (.cells #[.slice a1 xa.length d1, .slice a2 xb.length d2, .slice a3 l.length d3] 37) := heap_old (heap_old (alloc_heap _ _))
  have bM_0 : (((w.alloc (.cells #[.slice a1 xa.length d1, .slice a2 xb.length d2, .slice a3 l.length d3] 37)).alloc (.cells #[.slice a4 ya.length d4, .slice a5 yb.length d5] 79)).alloc (.cells #[.slice none 0 0, .slice none 0 0] 79)).heap[w.heap.size + 1]? = some (.cells #[.slice a4 ya.length d4, .slice a5 yb.length d5] 79) := heap_old (heap_at (by simp))
  have bR_0 : (((w.alloc (.cells #[.slice a1 xa.length d1, .slice a2 xb.length d2, .slice a3 l.length d3] 37)).alloc (.cells #[.slice a4 ya.length d4, .slice a5 yb.length d5] 79)).alloc (.cells #[.slice none 0 0, .slice none 0 0] 79)).heap[w.heap.size + 1 + 1]? = some (.cells #[.slice none 0 0, .slice none 0 0] 79) := heap_at (by simp)
  have z0 : w.heap.size + 1 + 1 < (((w.alloc (.cells #[.slice a1 xa.length d1, .slice a2 xb.length d2, .slice a3 l.length d3] 37)).alloc (.cells #[.slice a4 ya.length d4, .slice a5 yb.length d5] 79)).alloc (.cells #[.slice none 0 0, .slice none 0 0] 79)).heap.size := by simp
  have hsa := Lib.hid (sa.new h1 N0)
  have hsb := Lib.hid (sb.new h1 N0)
  have hs := Lib.hid (s.new h1 N0)
  have hOh := Lib.hid (hO.new h2 N0)
  clear sa sb s hO
  go_enter Try.func47, Try.ntmps47
  go_upto_region 1 with fail
  generalize (((w.alloc (.cells #[.slice a1 xa.length d1, .slice a2 xb.length d2, .slice a3 l.length d3] 37)).alloc (.cells #[.slice a4 ya.length d4, .slice a5 yb.length d5] 79)).alloc (.cells #[.slice none 0 0, .slice none 0 0] 79)) = w0 at *
  obtain ⟨cP0, cP1, cP2⟩ := cells3 bP_0
  obtain ⟨cM0, cM1⟩ := cells2 bM_0
  go_wp2_with fail
  refine (PgmV.specM hsa.out hsb.out hs.out (by omega) hOh.out.reads.1 hOh.out.reads.2 (by omega) hm).mono ?_
  rintro e w1 ⟨rfl, hn1⟩
  have z1 := hn1.size
  have bP_1 := heap_new hn1 bP_0
  have bM_1 := heap_new hn1 bM_0
  have bR_1 := heap_new hn1 bR_0
  have N1 := N0.trans hn1
  have hsa1 := Lib.hid (hsa.out.new (by omega) hn1)
  have hsb1 := Lib.hid (hsb.out.new (by omega) hn1)
  have hO1 := Lib.hid (hOh.out.new (by omega) hn1)
  clear cP0 cP1 cP2 cM0 cM1 bP_0 bM_0 bR_0 hsa hsb hs hOh hn1 N0
  obtain ⟨cP0, cP1, cP2⟩ := cells3 bP_1
  obtain ⟨cM0, cM1⟩ := cells2 bM_1
  obtain ⟨cR0, cR1⟩ := cells2 bR_1
  have cRf := frozen_of_heap bR_1
  have cRl := heap_lt bR_1
  cases ht : (progB xa xb l && fitB xa.length xb.length ya yb)
  · have hth := Lib.hid ht
    have hlw := Lib.hid (show w.heap.size ≤ w1.heap.size by omega)
    clear ht
    go_wp2
    have hkz := setMany_kp (w.heap.size + 1 + 1) [.slice none 0 0, .slice none 0 0] w1 0
    have zs := setMany_size (w.heap.size + 1 + 1) [.slice none 0 0, .slice none 0 0] w1 0
    have hR := setMany_row [.slice none 0 0, .slice none 0 0] bR_1 rfl
    exact bodyPost_ret (results_cell_tmp rfl _ _ _ _ _ _ _ _ rfl rfl hR Try.underlying79 rfl (by kernel_rfl)) rfl ⟨_, _, by rw [hth.out]; rfl, New.one N1 hkz (by omega), by rw [hth.out]; exact DrawM.nilM _ _ _ (Nat.le_trans hlw.out (Nat.le_of_eq zs.symm))⟩
  · have hth := Lib.hid ht
    have hlw := Lib.hid (show w.heap.size ≤ w1.heap.size by omega)
    rw [Bool.and_eq_true] at ht
    obtain ⟨hp, hf⟩ := ht
    have F := EvPfit hf
    have g1 := Lib.hid (prog_good hp).1
    have g2 := Lib.hid (prog_good hp).2
    have hFh := Lib.hid F
    clear hp hf F
    go_wp2_with fail
    refine (l3Part 2 untB bit2 w1 lo hi lo' hi' _ _ _ _ _ xa xb ya yb hsa1.out hsb1.out hO1.out.reads.1 hO1.out.reads.2 (by omega) (by omega) g1.out g2.out hFh.out.vl hFh.out.al (fun y hy => hFh.out.r4 y hy) (by omega) (by omega)).mono ?_
    rintro e w2 ⟨ua, ub, rfl, hn2, hM⟩
    have z2 := hn2.size
    have bR_2 := heap_new hn2 bR_1
    have N2 := N1.trans hn2
    obtain ⟨⟨aU, dU, rfl⟩, aV, dV, rfl⟩ := hM.lens
    have hMh := Lib.hid hM
    clear cP0 cP1 cP2 cM0 cM1 cR0 cR1 cRf cRl bP_1 bM_1 bR_1 hM hn2 N1
    obtain ⟨cR0, cR1⟩ := cells2 bR_2
    have cRf := frozen_of_heap bR_2
    have cRl := heap_lt bR_2
    go_wp2
    have hkz := setMany_kp (w.heap.size + 1 + 1) [.slice aU (clr untB xa ya).length dU, .slice aV (clrM untB xb yb).length dV] w2 0
    have zs := setMany_size (w.heap.size + 1 + 1) [.slice aU (clr untB xa ya).length dU, .slice aV (clrM untB xb yb).length dV] w2 0
    have hR := setMany_row [.slice aU (clr untB xa ya).length dU, .slice aV (clrM untB xb yb).length dV] bR_2 rfl
    exact bodyPost_ret (results_cell_tmp rfl _ _ _ _ _ _ _ _ rfl rfl hR Try.underlying79 rfl (by kernel_rfl)) rfl ⟨_, _, by rw [hth.out]; rfl, New.one N2 hkz (by omega), by rw [hth.out]; exact (hMh.out.kp hkz (fun b e => .inl (by subst e; omega))).mono (by omega) (Nat.le_of_eq zs.symm)⟩
end Go.Proofs.Ytckikiaockkmbaa.PartM
