/- StartMachine of the program and of the reference. Condition: bounds on the lengths. -/
import Derived.Test.YtljokgoghphgdaaWP5
import Derived.Test.YtljokgoghphgdaaWP2
import Derived.Test.YtljokgoghphgdaaWP1
namespace Go.Proofs.Ytljokgoghphgdaa.StartC
open Go.RowKit Kit StartM Val
set_option linter.unusedVariables false
theorem nilO (w : World) (lo hi : Nat) (h : lo ≤ hi) : MarkC.MachO w lo hi (.slice none 0 0) (.slice none 0 0) (.slice none 0 0) [] [] [] :=
  ⟨lo, hi, hi, hi, Nat.le_refl _, Nat.le_refl _, h, Nat.le_refl _, .inl (Nat.le_refl _), ⟨OwnF.nil _ _ _, fun b hb => by simp [Value.ownBlock] at hb⟩, .of hi (Nat.le_refl _) (Nat.le_refl _) ⟨OwnF.nil _ _ _, fun b hb => by simp [Value.ownBlock] at hb⟩ (MatO.nil _ _ _ _ _)⟩
/-- what StartMachine returns -/
def Ret (w : World) (t : Bool) (ya : List Int) (yb : List (List Int)) (e : Ending) (w' : World) : Prop := ∃ vr ua ub, e = .returned (.tuple #[.agg #[.int .i64 0, vr, ua, ub], .bool t]) ∧ New w w' ∧ MarkC.MachO w' w.heap.size w'.heap.size vr ua ub (Rec.pk t zeros) (Rec.pk t ya) (Rec.pk t yb)
theorem Ret.zero {w w' : World} {t : Bool} {ya : List Int} {yb : List (List Int)} {e : Ending} (h : t = false) (he : e = .returned (.tuple #[.agg #[.int .i64 0, .slice none 0 0, .slice none 0 0, .slice none 0 0], .bool false])) (k : New w w') : Ret w t ya yb e w' := by
  subst h; exact ⟨_, _, _, he, k, nilO _ _ _ k.size⟩
theorem Ret.full {w w' : World} {t : Bool} {ya : List Int} {yb : List (List Int)} {e : Ending} {vr ua ub : Value} (h : t = true) (he : e = .returned (.tuple #[.agg #[.int .i64 0, vr, ua, ub], .bool true])) (k : New w w') (hO : MarkC.MachO w' w.heap.size w'.heap.size vr ua ub zeros ya yb) : Ret w t ya yb e w' := by
  subst h; exact ⟨_, _, _, he, k, hO⟩
set_option maxHeartbeats 2000000 in
set_option maxRecDepth 100000 in
theorem implS (w : World) (lo hi lo' hi' : Nat) (ta tb tc ma mb : Value) (xa xb ya : List Int) (x : List Ins) (yb : List (List Int)) (sa : IntsR w lo hi ta xa) (sb : IntsR w lo hi tb xb) (s : InssR w lo hi tc x) (h1 : hi ≤ w.heap.size) (hO : MarkC.MemO w lo' hi' ma mb ya yb) (h2 : hi' ≤ w.heap.size)
    (m0 : ya.length ≤ 1099511627776) (m1 : yb.length ≤ 1073741824) (m2 : ∀ x ∈ yb, x.length ≤ 1099511627776) :
    Calls Try.prog 25 #[.agg #[ta, tb, tc], .agg #[ma, mb]] w (Ret w (codeB xa xb x && fitB xa.length xb.length ya yb) ya yb) := by
  obtain ⟨a1, d1, rfl, l1⟩ := sa.len
  obtain ⟨a2, d2, rfl, l2⟩ := sb.len
  obtain ⟨a3, d3, rfl, l3⟩ := s.len
  obtain ⟨⟨a4, d4, rfl⟩, a5, d5, rfl⟩ := hO.lens
  have hOh := Lib.hid hO
  clear hO
  go_enter Try.func25, Try.ntmps25
  go_wp2_with fail
  have N0 : New w (((w.alloc (.cells #[.slice a1 xa.length d1, .slice a2 xb.length d2, .slice a3 x.length d3] 26)).alloc (.cells #[.slice a4 ya.length d4, .slice a5 yb.length d5] 29)).alloc (.cells #[.int .i64 0, .slice none 0 0, .slice none 0 0, .slice none 0 0] 31)) := ((((Kp.refl _ _).alloc _).alloc _).alloc _)
  have bC_0 : (((w.alloc (.cells #[.slice a1 xa.length d1, .slice a2 xb.length d2, .slice a3 x.length d3] 26)).alloc (.cells #[.slice a4 ya.length d4, .slice a5 yb.length d5] 29)).alloc (.cells #[.int .i64 0, .slice none 0 0, .slice none 0 0, .slice none 0 0] 31)).heap[w.heap.size]? = some (.cells #[.slice a1 xa.length d1, .slice a2 xb.length d2, .slice a3 x.length d3] 26) := heap_old (heap_old (alloc_heap _ _))
  have bM_0 : (((w.alloc (.cells #[.slice a1 xa.length d1, .slice a2 xb.length d2, .slice a3 x.length d3] 26)).alloc (.cells #[.slice a4 ya.length d4, .slice a5 yb.length d5] 29)).alloc (.cells #[.int .i64 0, .slice none 0 0, .slice none 0 0, .slice none 0 0] 31)).heap[w.heap.size + 1]? = some (.cells #[.slice a4 ya.length d4, .slice a5 yb.length d5] 29) := heap_old (heap_at (by simp))
  have bR_0 : (((w.alloc (.cells #[.slice a1 xa.length d1, .slice a2 xb.length d2, .slice a3 x.length d3] 26)).alloc (.cells #[.slice a4 ya.length d4, .slice a5 yb.length d5] 29)).alloc (.cells #[.int .i64 0, .slice none 0 0, .slice none 0 0, .slice none 0 0] 31)).heap[w.heap.size + 1 + 1]? = some (.cells #[.int .i64 0, .slice none 0 0, .slice none 0 0, .slice none 0 0] 31) := heap_at (by simp)
  have z0 : w.heap.size + 1 + 1 < (((w.alloc (.cells #[.slice a1 xa.length d1, .slice a2 xb.length d2, .slice a3 x.length d3] 26)).alloc (.cells #[.slice a4 ya.length d4, .slice a5 yb.length d5] 29)).alloc (.cells #[.int .i64 0, .slice none 0 0, .slice none 0 0, .slice none 0 0] 31)).heap.size := by simp
  generalize (((w.alloc (.cells #[.slice a1 xa.length d1, .slice a2 xb.length d2, .slice a3 x.length d3] 26)).alloc (.cells #[.slice a4 ya.length d4, .slice a5 yb.length d5] 29)).alloc (.cells #[.int .i64 0, .slice none 0 0, .slice none 0 0, .slice none 0 0] 31)) = w0 at *
  obtain ⟨bC_0_c0, bC_0_c1, bC_0_c2⟩ := cells3 bC_0
  obtain ⟨bM_0_c0, bM_0_c1⟩ := cells2 bM_0
  obtain ⟨bR_0_c0, bR_0_c1, bR_0_c2, bR_0_c3⟩ := cells4 bR_0
  refine (CodeW.implV (sa.new h1 N0) (sb.new h1 N0) (s.new h1 N0) (by omega)).mono ?_
  rintro e w1 ⟨rfl, hn1⟩
  have z1 := hn1.size
  have N1 : New w w1 := N0.trans hn1
  have bC_1 := heap_new hn1 bC_0
  have bM_1 := heap_new hn1 bM_0
  have bR_1 := heap_new hn1 bR_0
  clear bC_0_c0 bC_0_c1 bC_0_c2 bM_0_c0 bM_0_c1 bR_0_c0 bR_0_c1 bR_0_c2 bR_0_c3
  clear bC_0 bM_0 bR_0 hn1
  cases q1 : codeB xa xb x
  · have D := Lib.hid (show (codeB xa xb x && fitB xa.length xb.length ya yb) = false by rw [q1]; rfl)
    clear q1
    obtain ⟨e0_, e1_, e2_, e3_⟩ := cells4 bR_1
    have ef_ := frozen_of_heap bR_1
    go_wp2
    have hkz := setMany_kp (w.heap.size + 1 + 1) [.int .i64 0, .slice none 0 0, .slice none 0 0, .slice none 0 0] w1 0
    have hR := setMany_row [.int .i64 0, .slice none 0 0, .slice none 0 0, .slice none 0 0] bR_1 rfl
    exact bodyPost_ret (results_cell_tmp rfl _ _ _ _ _ _ _ _ rfl rfl hR Try.underlying31 rfl (by kernel_rfl)) rfl (Ret.zero D.out rfl (New.one N1 hkz (by omega)))
  have E := Lib.hid q1
  clear q1
  obtain ⟨bC_1_c0, bC_1_c1, bC_1_c2⟩ := cells3 bC_1
  obtain ⟨bM_1_c0, bM_1_c1⟩ := cells2 bM_1
  obtain ⟨bR_1_c0, bR_1_c1, bR_1_c2, bR_1_c3⟩ := cells4 bR_1
  go_wp2_with fail
  refine (Decl.isMemory (hOh.out.reads.1.new h2 N1) (hOh.out.reads.2.new h2 N1) (by omega)).mono ?_
  rintro e w2 ⟨rfl, hn2⟩
  have z2 := hn2.size
  have N2 : New w w2 := N1.trans hn2
  have bC_2 := heap_new hn2 bC_1
  have bM_2 := heap_new hn2 bM_1
  have bR_2 := heap_new hn2 bR_1
  clear bC_1_c0 bC_1_c1 bC_1_c2 bM_1_c0 bM_1_c1 bR_1_c0 bR_1_c1 bR_1_c2 bR_1_c3
  clear bC_1 bM_1 bR_1 hn2
  cases q2 : fitB xa.length xb.length ya yb
  · have D := Lib.hid (show (codeB xa xb x && fitB xa.length xb.length ya yb) = false by rw [q2, Bool.and_false])
    clear q2 E
    obtain ⟨e0_, e1_, e2_, e3_⟩ := cells4 bR_2
    have ef_ := frozen_of_heap bR_2
    go_wp2
    have hkz := setMany_kp (w.heap.size + 1 + 1) [.int .i64 0, .slice none 0 0, .slice none 0 0, .slice none 0 0] w2 0
    have hR := setMany_row [.int .i64 0, .slice none 0 0, .slice none 0 0, .slice none 0 0] bR_2 rfl
    exact bodyPost_ret (results_cell_tmp rfl _ _ _ _ _ _ _ _ rfl rfl hR Try.underlying31 rfl (by kernel_rfl)) rfl (Ret.zero D.out rfl (New.one N2 hkz (by omega)))
  have D := Lib.hid (show (codeB xa xb x && fitB xa.length xb.length ya yb) = true by rw [q2, E.out]; rfl)
  clear q2 E
  obtain ⟨bC_2_c0, bC_2_c1, bC_2_c2⟩ := cells3 bC_2
  obtain ⟨bM_2_c0, bM_2_c1⟩ := cells2 bM_2
  obtain ⟨bR_2_c0, bR_2_c1, bR_2_c2, bR_2_c3⟩ := cells4 bR_2
  go_wp2_with fail
  refine (StartM.started _ lo' hi' _ _ _ _ (hOh.out.new h2 N2) (by omega) m0 m1 m2).mono ?_
  rintro e w3 ⟨vr, ua, ub, rfl, hn3, hq⟩
  have z3 := hn3.size
  have N3 : New w w3 := N2.trans hn3
  have bC_3 := heap_new hn3 bC_2
  have bM_3 := heap_new hn3 bM_2
  have bR_3 := heap_new hn3 bR_2
  clear bC_2_c0 bC_2_c1 bC_2_c2 bM_2_c0 bM_2_c1 bR_2_c0 bR_2_c1 bR_2_c2 bR_2_c3
  clear bC_2 bM_2 bR_2 hn3
  obtain ⟨⟨a6, d6, e6⟩, ⟨a7, d7, e7⟩, a8, d8, e8⟩ := StartM.lens3 hq
  subst e6; subst e7; subst e8
  have hqh := Lib.hid hq
  clear hq
  obtain ⟨e0_, e1_, e2_, e3_⟩ := cells4 bR_3
  have ef_ := frozen_of_heap bR_3
  go_wp2
  have hkz := setMany_kp (w.heap.size + 1 + 1) [.int .i64 0, .slice a6 zeros.length d6, .slice a7 ya.length d7, .slice a8 yb.length d8] w3 0
  have hR := setMany_row [.int .i64 0, .slice a6 zeros.length d6, .slice a7 ya.length d7, .slice a8 yb.length d8] bR_3 rfl
  have zs := setMany_size (w.heap.size + 1 + 1) [.int .i64 0, .slice a6 zeros.length d6, .slice a7 ya.length d7, .slice a8 yb.length d8] w3 0
  have hMO : MarkC.MachO (setMany w3 (w.heap.size + 1 + 1) 0 [.int .i64 0, .slice a6 zeros.length d6, .slice a7 ya.length d7, .slice a8 yb.length d8]) w.heap.size (setMany w3 (w.heap.size + 1 + 1) 0 [.int .i64 0, .slice a6 zeros.length d6, .slice a7 ya.length d7, .slice a8 yb.length d8]).heap.size (.slice a6 zeros.length d6) (.slice a7 ya.length d7) (.slice a8 yb.length d8) zeros ya yb := (hqh.out.kp hkz (fun b e => .inl (by omega))).mono (by omega) (by omega)
  exact bodyPost_ret (results_cell_tmp rfl _ _ _ _ _ _ _ _ rfl rfl hR Try.underlying31 rfl (by kernel_rfl)) rfl (Ret.full D.out rfl (New.one N3 hkz (by omega)) hMO)
set_option maxHeartbeats 4000000 in
set_option maxRecDepth 100000 in
theorem specS (w : World) (lo hi lo' hi' : Nat) (ta tb tc ma mb : Value) (xa xb ya : List Int) (x : List Ins) (yb : List (List Int)) (sa : IntsR w lo hi ta xa) (sb : IntsR w lo hi tb xb) (s : InssR w lo hi tc x) (h1 : hi ≤ w.heap.size) (ra : IntsR w lo' hi' ma ya) (rb : MatR w lo' hi' mb yb) (h2 : hi' ≤ w.heap.size)
    (m0 : ya.length ≤ 1099511627776) (m1 : yb.length ≤ 1073741824) (m2 : ∀ x ∈ yb, x.length ≤ 1099511627776) :
    Calls Try.prog 27 #[.agg #[ta, tb, tc], .agg #[ma, mb]] w (Ret w (codeB xa xb x && fitB xa.length xb.length ya yb) ya yb) := by
  obtain ⟨a1, d1, rfl, l1⟩ := sa.len
  obtain ⟨a2, d2, rfl, l2⟩ := sb.len
  obtain ⟨a3, d3, rfl, l3⟩ := s.len
  obtain ⟨a4, d4, rfl, l4⟩ := ra.len
  obtain ⟨a5, d5, rfl, l5⟩ := rb.len
  go_enter Try.func27, Try.ntmps27
  go_wp2_with fail
  have N0 : New w (((w.alloc (.cells #[.slice a1 xa.length d1, .slice a2 xb.length d2, .slice a3 x.length d3] 26)).alloc (.cells #[.slice a4 ya.length d4, .slice a5 yb.length d5] 29)).alloc (.cells #[.int .i64 0, .slice none 0 0, .slice none 0 0, .slice none 0 0] 31)) := ((((Kp.refl _ _).alloc _).alloc _).alloc _)
  have bC_0 : (((w.alloc (.cells #[.slice a1 xa.length d1, .slice a2 xb.length d2, .slice a3 x.length d3] 26)).alloc (.cells #[.slice a4 ya.length d4, .slice a5 yb.length d5] 29)).alloc (.cells #[.int .i64 0, .slice none 0 0, .slice none 0 0, .slice none 0 0] 31)).heap[w.heap.size]? = some (.cells #[.slice a1 xa.length d1, .slice a2 xb.length d2, .slice a3 x.length d3] 26) := heap_old (heap_old (alloc_heap _ _))
  have bM_0 : (((w.alloc (.cells #[.slice a1 xa.length d1, .slice a2 xb.length d2, .slice a3 x.length d3] 26)).alloc (.cells #[.slice a4 ya.length d4, .slice a5 yb.length d5] 29)).alloc (.cells #[.int .i64 0, .slice none 0 0, .slice none 0 0, .slice none 0 0] 31)).heap[w.heap.size + 1]? = some (.cells #[.slice a4 ya.length d4, .slice a5 yb.length d5] 29) := heap_old (heap_at (by simp))
  have bR_0 : (((w.alloc (.cells #[.slice a1 xa.length d1, .slice a2 xb.length d2, .slice a3 x.length d3] 26)).alloc (.cells #[.slice a4 ya.length d4, .slice a5 yb.length d5] 29)).alloc (.cells #[.int .i64 0, .slice none 0 0, .slice none 0 0, .slice none 0 0] 31)).heap[w.heap.size + 1 + 1]? = some (.cells #[.int .i64 0, .slice none 0 0, .slice none 0 0, .slice none 0 0] 31) := heap_at (by simp)
  have z0 : w.heap.size + 1 + 1 < (((w.alloc (.cells #[.slice a1 xa.length d1, .slice a2 xb.length d2, .slice a3 x.length d3] 26)).alloc (.cells #[.slice a4 ya.length d4, .slice a5 yb.length d5] 29)).alloc (.cells #[.int .i64 0, .slice none 0 0, .slice none 0 0, .slice none 0 0] 31)).heap.size := by simp
  generalize (((w.alloc (.cells #[.slice a1 xa.length d1, .slice a2 xb.length d2, .slice a3 x.length d3] 26)).alloc (.cells #[.slice a4 ya.length d4, .slice a5 yb.length d5] 29)).alloc (.cells #[.int .i64 0, .slice none 0 0, .slice none 0 0, .slice none 0 0] 31)) = w0 at *
  obtain ⟨bC_0_c0, bC_0_c1, bC_0_c2⟩ := cells3 bC_0
  obtain ⟨bM_0_c0, bM_0_c1⟩ := cells2 bM_0
  have N0d : New w w0.drew := N0.drew
  have z0d : w.heap.size + 1 + 1 < w0.drew.heap.size := by simpa using z0
  have bC_0d : w0.drew.heap[w.heap.size]? = some (.cells #[.slice a1 xa.length d1, .slice a2 xb.length d2, .slice a3 x.length d3] 26) := bC_0
  have bM_0d : w0.drew.heap[w.heap.size + 1]? = some (.cells #[.slice a4 ya.length d4, .slice a5 yb.length d5] 29) := bM_0
  have bR_0d : w0.drew.heap[w.heap.size + 1 + 1]? = some (.cells #[.int .i64 0, .slice none 0 0, .slice none 0 0, .slice none 0 0] 31) := bR_0
  cases q1 : codeB xa xb x
  · have D := Lib.hid (show (codeB xa xb x && fitB xa.length xb.length ya yb) = false by rw [q1]; rfl)
    have E := Lib.hid q1
    clear q1
    go_wp2_with fail
    refine wp_region_held_drew (S := fun w' => w'.cell? ⟨w.heap.size, 0, none⟩ = some (.slice a1 xa.length d1) ∧ w'.cell? ⟨w.heap.size, 1, none⟩ = some (.slice a2 xb.length d2) ∧ w'.cell? ⟨w.heap.size, 2, none⟩ = some (.slice a3 x.length d3) ∧ w'.cell? ⟨w.heap.size + 1, 0, none⟩ = some (.slice a4 ya.length d4) ∧ w'.cell? ⟨w.heap.size + 1, 1, none⟩ = some (.slice a5 yb.length d5)) (by kernel_rfl) ?_ (fun hHeld => ?_)
    · exact ⟨bC_0_c0, bC_0_c1, bC_0_c2, bM_0_c0, bM_0_c1⟩
    refine HT 0 rfl ?_
    try simp only [AP]
    refine HR 1 rfl fun K hK => ?_
    go_simp
    refine (CodeW.specV (sa.new h1 N0d) (sb.new h1 N0d) (s.new h1 N0d) (by omega)).mono ?_
    rintro e w1 ⟨rfl, hn1⟩
    have N1 := N0d.trans hn1
    have z1 := hn1.size
    have bC_1 := heap_new hn1 bC_0d
    have bM_1 := heap_new hn1 bM_0d
    have bR_1 := heap_new hn1 bR_0d
    obtain ⟨bC_1_c0, bC_1_c1, bC_1_c2⟩ := cells3 bC_1
    obtain ⟨bM_1_c0, bM_1_c1⟩ := cells2 bM_1
    rw [E.out]
    go_simp
    refine hK.out _ _ ?_ (fun hHeld2 => ?_)
    · exact ⟨bC_1_c0, bC_1_c1, bC_1_c2, bM_1_c0, bM_1_c1⟩
    clear hK K hHeld
    have hHeld := hHeld2
    clear hHeld2
    try simp only [AP]
    refine HT 2 rfl ?_
    try simp only [AP]
    refine HT 3 rfl ?_
    try simp only [AP]
    refine HS 4 rfl ?_
    try simp only [AP]
    refine HS 5 rfl ?_
    try simp only [AP]
    refine HS 6 rfl ?_
    try simp only [AP]
    refine HS 7 rfl ?_
    try simp only [AP]
    refine HS 8 rfl ?_
    try simp only [AP]
    refine HT 9 rfl ?_
    try simp only [AP]
    refine wpAnyH_done (by kernel_rfl) ?_ _
    obtain ⟨e0_, e1_, e2_, e3_⟩ := cells4 bR_1
    have ef_ := frozen_of_heap bR_1
    go_wp2
    have hkz := setMany_kp (w.heap.size + 1 + 1) [.int .i64 0, .slice none 0 0, .slice none 0 0, .slice none 0 0] w1 0
    have hR := setMany_row [.int .i64 0, .slice none 0 0, .slice none 0 0, .slice none 0 0] bR_1 rfl
    exact bodyPost_ret (results_cell_tmp rfl _ _ _ _ _ _ _ _ rfl rfl hR Try.underlying31 rfl (by kernel_rfl)) rfl (Ret.zero D.out rfl (New.one N1 hkz (by omega)))
  have E := Lib.hid q1
  clear q1
  cases q2 : fitB xa.length xb.length ya yb
  · have D := Lib.hid (show (codeB xa xb x && fitB xa.length xb.length ya yb) = false by rw [q2, Bool.and_false])
    have F := Lib.hid q2
    clear q2
    go_wp2_with fail
    refine wp_region_held_drew (S := fun w' => w'.cell? ⟨w.heap.size, 0, none⟩ = some (.slice a1 xa.length d1) ∧ w'.cell? ⟨w.heap.size, 1, none⟩ = some (.slice a2 xb.length d2) ∧ w'.cell? ⟨w.heap.size, 2, none⟩ = some (.slice a3 x.length d3) ∧ w'.cell? ⟨w.heap.size + 1, 0, none⟩ = some (.slice a4 ya.length d4) ∧ w'.cell? ⟨w.heap.size + 1, 1, none⟩ = some (.slice a5 yb.length d5)) (by kernel_rfl) ?_ (fun hHeld => ?_)
    · exact ⟨bC_0_c0, bC_0_c1, bC_0_c2, bM_0_c0, bM_0_c1⟩
    refine HT 0 rfl ?_
    try simp only [AP]
    refine HR 1 rfl fun K hK => ?_
    go_simp
    refine (CodeW.specV (sa.new h1 N0d) (sb.new h1 N0d) (s.new h1 N0d) (by omega)).mono ?_
    rintro e w1 ⟨rfl, hn1⟩
    have N1 := N0d.trans hn1
    have z1 := hn1.size
    have bC_1 := heap_new hn1 bC_0d
    have bM_1 := heap_new hn1 bM_0d
    have bR_1 := heap_new hn1 bR_0d
    obtain ⟨bC_1_c0, bC_1_c1, bC_1_c2⟩ := cells3 bC_1
    obtain ⟨bM_1_c0, bM_1_c1⟩ := cells2 bM_1
    rw [E.out]
    go_simp
    refine hK.out _ _ ?_ (fun hHeld2 => ?_)
    · exact ⟨bC_1_c0, bC_1_c1, bC_1_c2, bM_1_c0, bM_1_c1⟩
    clear hK K hHeld
    have hHeld := hHeld2
    clear hHeld2
    try simp only [AP]
    refine HT 2 rfl ?_
    try simp only [AP]
    refine HT 3 rfl ?_
    try simp only [AP]
    refine HT 4 rfl ?_
    try simp only [AP]
    refine HT 6 rfl ?_
    try simp only [AP]
    refine HR 5 rfl fun K hK => ?_
    go_simp
    refine (Decl.l6Heads _ _ _ _ _ _ _).mono ?_
    rintro e w2 ⟨rfl, hn2⟩
    have N2 := N1.trans hn2
    have z2 := hn2.size
    have bC_2 := heap_new hn2 bC_1
    have bM_2 := heap_new hn2 bM_1
    have bR_2 := heap_new hn2 bR_1
    obtain ⟨bC_2_c0, bC_2_c1, bC_2_c2⟩ := cells3 bC_2
    obtain ⟨bM_2_c0, bM_2_c1⟩ := cells2 bM_2
    go_simp
    refine hK.out _ _ ?_ (fun hHeld2 => ?_)
    · exact ⟨bC_2_c0, bC_2_c1, bC_2_c2, bM_2_c0, bM_2_c1⟩
    clear hK K hHeld
    have hHeld := hHeld2
    clear hHeld2
    try simp only [AP]
    refine HR 7 rfl fun K hK => ?_
    go_simp
    refine (Decl.fits (ra.new h2 N2) (rb.new h2 N2) (by omega)).mono ?_
    rintro e w3 ⟨rfl, hn3⟩
    have N3 := N2.trans hn3
    have z3 := hn3.size
    have bC_3 := heap_new hn3 bC_2
    have bM_3 := heap_new hn3 bM_2
    have bR_3 := heap_new hn3 bR_2
    obtain ⟨bC_3_c0, bC_3_c1, bC_3_c2⟩ := cells3 bC_3
    obtain ⟨bM_3_c0, bM_3_c1⟩ := cells2 bM_3
    rw [F.out]
    go_simp
    refine hK.out _ _ ?_ (fun hHeld2 => ?_)
    · exact ⟨bC_3_c0, bC_3_c1, bC_3_c2, bM_3_c0, bM_3_c1⟩
    clear hK K hHeld
    have hHeld := hHeld2
    clear hHeld2
    try simp only [AP]
    refine HT 8 rfl ?_
    try simp only [AP]
    refine HT 9 rfl ?_
    try simp only [AP]
    refine wpAnyH_done (by kernel_rfl) ?_ _
    obtain ⟨e0_, e1_, e2_, e3_⟩ := cells4 bR_3
    have ef_ := frozen_of_heap bR_3
    go_wp2
    have hkz := setMany_kp (w.heap.size + 1 + 1) [.int .i64 0, .slice none 0 0, .slice none 0 0, .slice none 0 0] w3 0
    have hR := setMany_row [.int .i64 0, .slice none 0 0, .slice none 0 0, .slice none 0 0] bR_3 rfl
    exact bodyPost_ret (results_cell_tmp rfl _ _ _ _ _ _ _ _ rfl rfl hR Try.underlying31 rfl (by kernel_rfl)) rfl (Ret.zero D.out rfl (New.one N3 hkz (by omega)))
  have F := Lib.hid q2
  have D := Lib.hid (show (codeB xa xb x && fitB xa.length xb.length ya yb) = true by rw [q2, E.out]; rfl)
  clear q2
  have hmk : ∀ w : World, (Instr.makeSlice 23 (.int .i64 14) (.int .i64 14)).run Try.prog w = .ok (.slice (some ⟨w.heap.size, 0, none⟩) 14 14) (w.alloc (.cells (mkCells (.int .i64 0) 1 14) 3)) := fun w => run_mk (P := Try.prog) _ _ _ _ _ Try.underlying23 LawF.infoI 14 (by omega) (by omega) w
  go_wp2_with fail
  refine wp_region_held_drew (S := fun w' => w'.cell? ⟨w.heap.size, 0, none⟩ = some (.slice a1 xa.length d1) ∧ w'.cell? ⟨w.heap.size, 1, none⟩ = some (.slice a2 xb.length d2) ∧ w'.cell? ⟨w.heap.size, 2, none⟩ = some (.slice a3 x.length d3) ∧ w'.cell? ⟨w.heap.size + 1, 0, none⟩ = some (.slice a4 ya.length d4) ∧ w'.cell? ⟨w.heap.size + 1, 1, none⟩ = some (.slice a5 yb.length d5)) (by kernel_rfl) ?_ (fun hHeld => ?_)
  · exact ⟨bC_0_c0, bC_0_c1, bC_0_c2, bM_0_c0, bM_0_c1⟩
  refine HT 0 rfl ?_
  try simp only [AP]
  refine HR 1 rfl fun K hK => ?_
  go_simp
  refine (CodeW.specV (sa.new h1 N0d) (sb.new h1 N0d) (s.new h1 N0d) (by omega)).mono ?_
  rintro e w1 ⟨rfl, hn1⟩
  have N1 := N0d.trans hn1
  have z1 := hn1.size
  have bC_1 := heap_new hn1 bC_0d
  have bM_1 := heap_new hn1 bM_0d
  have bR_1 := heap_new hn1 bR_0d
  obtain ⟨bC_1_c0, bC_1_c1, bC_1_c2⟩ := cells3 bC_1
  obtain ⟨bM_1_c0, bM_1_c1⟩ := cells2 bM_1
  rw [E.out]
  go_simp
  refine hK.out _ _ ?_ (fun hHeld2 => ?_)
  · exact ⟨bC_1_c0, bC_1_c1, bC_1_c2, bM_1_c0, bM_1_c1⟩
  clear hK K hHeld
  have hHeld := hHeld2
  clear hHeld2
  try simp only [AP]
  refine HT 2 rfl ?_
  try simp only [AP]
  refine HT 3 rfl ?_
  try simp only [AP]
  refine HT 4 rfl ?_
  try simp only [AP]
  refine HT 6 rfl ?_
  try simp only [AP]
  refine HR 5 rfl fun K hK => ?_
  go_simp
  refine (Decl.l6Heads _ _ _ _ _ _ _).mono ?_
  rintro e w2 ⟨rfl, hn2⟩
  have N2 := N1.trans hn2
  have z2 := hn2.size
  have bC_2 := heap_new hn2 bC_1
  have bM_2 := heap_new hn2 bM_1
  have bR_2 := heap_new hn2 bR_1
  obtain ⟨bC_2_c0, bC_2_c1, bC_2_c2⟩ := cells3 bC_2
  obtain ⟨bM_2_c0, bM_2_c1⟩ := cells2 bM_2
  go_simp
  refine hK.out _ _ ?_ (fun hHeld2 => ?_)
  · exact ⟨bC_2_c0, bC_2_c1, bC_2_c2, bM_2_c0, bM_2_c1⟩
  clear hK K hHeld
  have hHeld := hHeld2
  clear hHeld2
  try simp only [AP]
  refine HR 7 rfl fun K hK => ?_
  go_simp
  refine (Decl.fits (ra.new h2 N2) (rb.new h2 N2) (by omega)).mono ?_
  rintro e w3 ⟨rfl, hn3⟩
  have N3 := N2.trans hn3
  have z3 := hn3.size
  have bC_3 := heap_new hn3 bC_2
  have bM_3 := heap_new hn3 bM_2
  have bR_3 := heap_new hn3 bR_2
  obtain ⟨bC_3_c0, bC_3_c1, bC_3_c2⟩ := cells3 bC_3
  obtain ⟨bM_3_c0, bM_3_c1⟩ := cells2 bM_3
  rw [F.out]
  go_simp
  refine hK.out _ _ ?_ (fun hHeld2 => ?_)
  · exact ⟨bC_3_c0, bC_3_c1, bC_3_c2, bM_3_c0, bM_3_c1⟩
  clear hK K hHeld
  have hHeld := hHeld2
  clear hHeld2
  try simp only [AP]
  refine HT 8 rfl ?_
  try simp only [AP]
  refine HT 9 rfl ?_
  try simp only [AP]
  refine wpAnyH_done (by kernel_rfl) ?_ _
  clear bC_0_c0 bC_1_c0 bC_2_c0 bC_3_c0 bC_0_c1 bC_1_c1 bC_2_c1 bC_3_c1 bC_0_c2 bC_1_c2 bC_2_c2 bC_3_c2 bM_0_c0 bM_1_c0 bM_2_c0 bM_3_c0 bM_0_c1 bM_1_c1 bM_2_c1 bM_3_c1
  have cM0 : w3.cell? ⟨w.heap.size + 1, 0, none⟩ = some (.slice a4 ya.length d4) := cell_of_heap bM_3 0
  have cM1 : w3.cell? ⟨w.heap.size + 1, 1, none⟩ = some (.slice a5 yb.length d5) := cell_of_heap bM_3 1
  go_wp2_with fail
  have kd := (Kp.refl (fun _ => False) w3).drew
  have zd : w3.drew.heap.size = w3.heap.size := rfl
  have Nd := N3.trans kd
  have bMd := heap_new kd bM_3
  have bRd := heap_new kd bR_3
  have sra := ra.new h2 Nd
  have srb := rb.new h2 Nd
  have kz : New w3.drew (w3.alloc (.cells (mkCells (.int .i64 0) 1 14) 3)).drew := (show New w3.drew (w3.drew.alloc (.cells (mkCells (.int .i64 0) 1 14) 3)) from (Kp.refl _ _).alloc _)
  have hzh := Lib.hid (show OwnF 1 encI (w3.alloc (.cells (mkCells (.int .i64 0) 1 14) 3)).drew w3.heap.size 3 (.slice (some ⟨w3.heap.size, 0, none⟩) 14 14) zeros from zeros_own w3.drew)
  have bMz := heap_new kz bMd
  have cMz0 : (w3.alloc (.cells (mkCells (.int .i64 0) 1 14) 3)).drew.cell? ⟨w.heap.size + 1, 0, none⟩ = some (.slice a4 ya.length d4) := cell_of_heap bMz 0
  have cMz1 : (w3.alloc (.cells (mkCells (.int .i64 0) 1 14) 3)).drew.cell? ⟨w.heap.size + 1, 1, none⟩ = some (.slice a5 yb.length d5) := cell_of_heap bMz 1
  have zq : hi' ≤ w3.drew.heap.size := by omega
  clear zd
  refine wp_region_tail (k := 4) (S := fun w' => w'.cell? ⟨w.heap.size + 1, 0, none⟩ = some (.slice a4 ya.length d4) ∧ w'.cell? ⟨w.heap.size + 1, 1, none⟩ = some (.slice a5 yb.length d5)) (by kernel_rfl) ?_ (fun hHeld => ?_)
  · exact ⟨cM0, cM1⟩
  refine AnyK.tk 1 rfl ?_
  try simp only [AP]
  refine AnyK.two (i := 0) (j := 2) (by kernel_rfl) rfl rfl (fun K hK => ?_) (fun K hK => ?_)
  · go_simp
    refine hK.out _ _ ?_ (fun hHeld2 => ?_)
    · exact ⟨cMz0, cMz1⟩
    clear hK K hHeld
    have hHeld := hHeld2
    clear hHeld2
    try simp only [AP]
    refine AnyK.step (i := 2) (by kernel_rfl) rfl (fun K hK => ?_)
    go_simp
    refine (CopyM.l3Copy _ lo' hi' _ _ _ _ (sra.new zq kz) (srb.new zq kz) (by have := kz.size; omega) m0 m1 m2).mono ?_
    rintro e w4 ⟨ua, ub, rfl, hn4, hO⟩
    have bM4 := heap_new hn4 bMz
    have bR4 := heap_new hn4 (heap_new kz bRd)
    obtain ⟨⟨a6, d6, rfl⟩, a7, d7, rfl⟩ := hO.lens
    have hO1 := Lib.hid hO
    clear hO
    have d0 : w4.cell? ⟨w.heap.size + 1, 0, none⟩ = some (.slice a4 ya.length d4) := cell_of_heap bM4 0
    have d1' : w4.cell? ⟨w.heap.size + 1, 1, none⟩ = some (.slice a5 yb.length d5) := cell_of_heap bM4 1
    refine hK.out _ _ ?_ (fun hHeld2 => ?_)
    · exact ⟨d0, d1'⟩
    clear hK K hHeld
    have hHeld := hHeld2
    clear hHeld2
    try simp only [AP]
    refine AnyK.tw 3 rfl ?_
    try simp only [AP]
    refine AnyK.last (by kernel_rfl) ?_
    simp only [List.drop_succ_cons, List.drop_zero]
    clear hHeld
    obtain ⟨e0, e1, e2, e3⟩ := cells4 bR4
    have ef := frozen_of_heap bR4
    go_wp2
    have zd : w3.drew.heap.size = w3.heap.size := rfl
    have zz : (w3.alloc (.cells (mkCells (.int .i64 0) 1 14) 3)).drew.heap.size = w3.heap.size + 1 := by show (w3.alloc _).heap.size = _; simp
    have z4 := hn4.size
    have NN : New w w4 := Nd.trans (kz.trans hn4)
    have oR := hzh.out.new hn4
    have oM := hO1.out
    have hkz := setMany_kp (w.heap.size + 1 + 1) [.int .i64 0, .slice (some ⟨w3.heap.size, 0, none⟩) 14 14, .slice a6 ya.length d6, .slice a7 yb.length d7] w4 0
    have zs := setMany_size (w.heap.size + 1 + 1) [.int .i64 0, .slice (some ⟨w3.heap.size, 0, none⟩) 14 14, .slice a6 ya.length d6, .slice a7 yb.length d7] w4 0
    have hR := setMany_row [.int .i64 0, .slice (some ⟨w3.heap.size, 0, none⟩) 14 14, .slice a6 ya.length d6, .slice a7 yb.length d7] bR4 rfl
    have oM2 := oM.kp hkz (fun b e => .inl (by omega))
    have oR2 := oR.kp hkz (fun b hb e => by have := (oR.lt b hb).1; omega)
    have hMO : MarkC.MachO (setMany w4 (w.heap.size + 1 + 1) 0 [.int .i64 0, .slice (some ⟨w3.heap.size, 0, none⟩) 14 14, .slice a6 ya.length d6, .slice a7 yb.length d7]) w.heap.size (setMany w4 (w.heap.size + 1 + 1) 0 [.int .i64 0, .slice (some ⟨w3.heap.size, 0, none⟩) 14 14, .slice a6 ya.length d6, .slice a7 yb.length d7]).heap.size (.slice (some ⟨w3.heap.size, 0, none⟩) 14 14) (.slice a6 ya.length d6) (.slice a7 yb.length d7) zeros ya yb := ⟨w3.heap.size, w3.heap.size + 1, _, _, by omega, by omega, by omega, by omega, .inl (by omega), ⟨oR2, fun b hb => by simp [Value.ownBlock] at hb; omega⟩, oM2⟩
    exact bodyPost_ret (results_cell_tmp rfl _ _ _ _ _ _ _ _ rfl rfl hR Try.underlying31 rfl (by kernel_rfl)) rfl (Ret.full D.out rfl (New.one NN hkz (by omega)) hMO)
  · go_simp
    refine (CopyM.l3Copy _ lo' hi' _ _ _ _ sra srb zq m0 m1 m2).mono ?_
    rintro e w4 ⟨ua, ub, rfl, hn4, hO⟩
    have bM4 := heap_new hn4 bMd
    have bR4 := heap_new hn4 bRd
    obtain ⟨⟨a6, d6, rfl⟩, a7, d7, rfl⟩ := hO.lens
    have hO1 := Lib.hid hO
    clear hO
    have d0 : w4.cell? ⟨w.heap.size + 1, 0, none⟩ = some (.slice a4 ya.length d4) := cell_of_heap bM4 0
    have d1' : w4.cell? ⟨w.heap.size + 1, 1, none⟩ = some (.slice a5 yb.length d5) := cell_of_heap bM4 1
    refine hK.out _ _ ?_ (fun hHeld2 => ?_)
    · exact ⟨d0, d1'⟩
    clear hK K hHeld
    have hHeld := hHeld2
    clear hHeld2
    try simp only [AP]
    refine AnyK.step (i := 0) (by kernel_rfl) rfl (fun K hK => ?_)
    go_simp
    have bM5 := heap_old (x := (.cells (mkCells (.int .i64 0) 1 14) 3)) bM4
    have bR5 := heap_old (x := (.cells (mkCells (.int .i64 0) 1 14) 3)) bR4
    have f0 : (w4.alloc (.cells (mkCells (.int .i64 0) 1 14) 3)).cell? ⟨w.heap.size + 1, 0, none⟩ = some (.slice a4 ya.length d4) := cell_of_heap bM5 0
    have f1 : (w4.alloc (.cells (mkCells (.int .i64 0) 1 14) 3)).cell? ⟨w.heap.size + 1, 1, none⟩ = some (.slice a5 yb.length d5) := cell_of_heap bM5 1
    refine hK.out _ _ ?_ (fun hHeld2 => ?_)
    · exact ⟨f0, f1⟩
    clear hK K hHeld
    have hHeld := hHeld2
    clear hHeld2
    try simp only [AP]
    refine AnyK.tw 3 rfl ?_
    try simp only [AP]
    refine AnyK.last (by kernel_rfl) ?_
    simp only [List.drop_succ_cons, List.drop_zero]
    clear hHeld
    obtain ⟨e0, e1, e2, e3⟩ := cells4 bR5
    have ef := frozen_of_heap bR5
    go_wp2
    have zd : w3.drew.heap.size = w3.heap.size := rfl
    have zz : (w3.alloc (.cells (mkCells (.int .i64 0) 1 14) 3)).drew.heap.size = w3.heap.size + 1 := by show (w3.alloc _).heap.size = _; simp
    have z4 := hn4.size
    have ka : New w4 (w4.alloc (.cells (mkCells (.int .i64 0) 1 14) 3)) := (Kp.refl _ _).alloc _
    have NN : New w (w4.alloc (.cells (mkCells (.int .i64 0) 1 14) 3)) := (Nd.trans hn4).trans ka
    have oR := zeros_own w4
    have oM := hO1.out.new (Nat.le_refl _) ka
    have za : (w4.alloc (.cells (mkCells (.int .i64 0) 1 14) 3)).heap.size = w4.heap.size + 1 := by simp
    have hkz := setMany_kp (w.heap.size + 1 + 1) [.int .i64 0, .slice (some ⟨w4.heap.size, 0, none⟩) 14 14, .slice a6 ya.length d6, .slice a7 yb.length d7] (w4.alloc (.cells (mkCells (.int .i64 0) 1 14) 3)) 0
    have zs := setMany_size (w.heap.size + 1 + 1) [.int .i64 0, .slice (some ⟨w4.heap.size, 0, none⟩) 14 14, .slice a6 ya.length d6, .slice a7 yb.length d7] (w4.alloc (.cells (mkCells (.int .i64 0) 1 14) 3)) 0
    have hR := setMany_row [.int .i64 0, .slice (some ⟨w4.heap.size, 0, none⟩) 14 14, .slice a6 ya.length d6, .slice a7 yb.length d7] bR5 rfl
    have oM2 := oM.kp hkz (fun b e => .inl (by omega))
    have oR2 := oR.kp hkz (fun b hb e => by have := (oR.lt b hb).1; omega)
    have hMO : MarkC.MachO (setMany (w4.alloc (.cells (mkCells (.int .i64 0) 1 14) 3)) (w.heap.size + 1 + 1) 0 [.int .i64 0, .slice (some ⟨w4.heap.size, 0, none⟩) 14 14, .slice a6 ya.length d6, .slice a7 yb.length d7]) w.heap.size (setMany (w4.alloc (.cells (mkCells (.int .i64 0) 1 14) 3)) (w.heap.size + 1 + 1) 0 [.int .i64 0, .slice (some ⟨w4.heap.size, 0, none⟩) 14 14, .slice a6 ya.length d6, .slice a7 yb.length d7]).heap.size (.slice (some ⟨w4.heap.size, 0, none⟩) 14 14) (.slice a6 ya.length d6) (.slice a7 yb.length d7) zeros ya yb := ⟨w4.heap.size, w4.heap.size + 1, _, _, by omega, by omega, by omega, by omega, .inr (by omega), ⟨oR2, fun b hb => by simp [Value.ownBlock] at hb; omega⟩, oM2⟩
    exact bodyPost_ret (results_cell_tmp rfl _ _ _ _ _ _ _ _ rfl rfl hR Try.underlying31 rfl (by kernel_rfl)) rfl (Ret.full D.out rfl (New.one NN hkz (by omega)) hMO)
end Go.Proofs.Ytljokgoghphgdaa.StartC
