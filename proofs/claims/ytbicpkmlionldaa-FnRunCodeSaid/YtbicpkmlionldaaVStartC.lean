/- StartMachine of the program and of the reference. Condition: bounds on the lengths. -/
import Derived.Test.YtbicpkmlionldaaVP5
import Derived.Test.YtbicpkmlionldaaVP2
import Derived.Test.YtbicpkmlionldaaVP1
namespace Go.Proofs.Ytbicpkmlionldaa.StartC
open Go.RowKit Kit StartM Val
set_option linter.unusedVariables false
theorem nilO (w : World) (lo hi : Nat) (h : lo ≤ hi) : MarkC.MachO w lo hi (.slice none 0 0) (.slice none 0 0) (.slice none 0 0) [] [] [] :=
  ⟨lo, hi, hi, hi, Nat.le_refl _, Nat.le_refl _, h, Nat.le_refl _, .inl (Nat.le_refl _), ⟨OwnF.nil _ _ _, fun b hb => by simp [Value.ownBlock] at hb⟩, .of hi (Nat.le_refl _) (Nat.le_refl _) ⟨OwnF.nil _ _ _, fun b hb => by simp [Value.ownBlock] at hb⟩ (MatO.nil _ _ _ _ _)⟩
/-- what StartMachine returns -/
def Ret (w : World) (t : Bool) (ya : List Int) (yb : List (List Int)) (e : Ending) (w' : World) : Prop := ∃ vr ua ub, e = .returned (.tuple #[.agg #[.int .i64 0, vr, ua, ub], .bool t]) ∧ New w w' ∧ MarkC.MachO w' w.heap.size w'.heap.size vr ua ub (Rec.pk t zeros) (Rec.pk t ya) (Rec.pk t yb)
theorem Ret.zero {w w' : World} {t : Bool} {ya : List Int} {yb : List (List Int)} {e : Ending} (h : t = false) (he : e = .returned (.tuple #[.agg #[.int .i64 0, .slice none 0 0, .slice none 0 0, .slice none 0 0], .bool false])) (k : New w w') : Ret w t ya yb e w' := by
  subst h; exact ⟨_, _, _, he, k, nilO _ _ _ k.size⟩
theorem Ret.full {w w' : World} {t : Bool} {ya : List Int} {yb : List (List Int)} {e : Ending} {vr ua ub : Value} (h : t = true) (he : e = .returned (.tuple #[.agg #[.int .i64 0, vr, ua, ub], .bool true])) (k : New w w') (hO : MarkC.MachO w' w.heap.size w'.heap.size vr ua ub zeros ya yb) : Ret w t ya yb e w' := by
  subst h; exact ⟨_, _, _, he, k, hO⟩
set_option maxHeartbeats 2000000 in
set_option maxRecDepth 100000 in
theorem implS (w : World) (lo hi lo' hi' : Nat) (ta tb tc ma mb : Value) (xa xb ya : List Int) (x : List Ins) (yb : List (List Int)) (sa : IntsR w lo hi ta xa) (sb : IntsR w lo hi tb xb) (s : InssR w lo hi tc x) (h1 : hi ≤ w.heap.size) (hO : MarkC.MemO w lo' hi' ma mb ya yb) (h2 : hi' ≤ w.heap.size)
    (m0 : ya.length ≤ 1099511627776) (m1 : yb.length ≤ 1073741824) (m2 : ∀ x ∈ yb, x.length ≤ 1099511627776) :
    Calls Try.prog 11 #[.agg #[ta, tb, tc], .agg #[ma, mb]] w (Ret w (codeB xa xb x && fitB xa.length xb.length ya yb) ya yb) := by
  obtain ⟨a1, d1, rfl, l1⟩ := sa.len
  obtain ⟨a2, d2, rfl, l2⟩ := sb.len
  obtain ⟨a3, d3, rfl, l3⟩ := s.len
  obtain ⟨⟨a4, d4, rfl⟩, a5, d5, rfl⟩ := hO.lens
  have hOh := Lib.hid hO
  clear hO
  go_enter Try.func11, Try.ntmps11
  go_wp2_with fail
  have N0 : New w (((w.alloc (.cells #[.slice a1 xa.length d1, .slice a2 xb.length d2, .slice a3 x.length d3] 26)).alloc (.cells #[.slice a4 ya.length d4, .slice a5 yb.length d5] 29)).alloc (.cells #[.int .i64 0, .slice none 0 0, .slice none 0 0, .slice none 0 0] 38)) := ((((Kp.refl _ _).alloc _).alloc _).alloc _)
  have bC_0 : (((w.alloc (.cells #[.slice a1 xa.length d1, .slice a2 xb.length d2, .slice a3 x.length d3] 26)).alloc (.cells #[.slice a4 ya.length d4, .slice a5 yb.length d5] 29)).alloc (.cells #[.int .i64 0, .slice none 0 0, .slice none 0 0, .slice none 0 0] 38)).heap[w.heap.size]? = some (.cells #[.slice a1 xa.length d1, .slice a2 xb.length d2, .slice a3 x.length d3] 26) := heap_old (heap_old (alloc_heap _ _))
  have bM_0 : (((w.alloc (.cells #[.slice a1 xa.length d1, .slice a2 xb.length d2, .slice a3 x.length d3] 26)).alloc (.cells #[.slice a4 ya.length d4, .slice a5 yb.length d5] 29)).alloc (.cells #[.int .i64 0, .slice none 0 0, .slice none 0 0, .slice none 0 0] 38)).heap[w.heap.size + 1]? = some (.cells #[.slice a4 ya.length d4, .slice a5 yb.length d5] 29) := heap_old (heap_at (by simp))
  have bR_0 : (((w.alloc (.cells #[.slice a1 xa.length d1, .slice a2 xb.length d2, .slice a3 x.length d3] 26)).alloc (.cells #[.slice a4 ya.length d4, .slice a5 yb.length d5] 29)).alloc (.cells #[.int .i64 0, .slice none 0 0, .slice none 0 0, .slice none 0 0] 38)).heap[w.heap.size + 1 + 1]? = some (.cells #[.int .i64 0, .slice none 0 0, .slice none 0 0, .slice none 0 0] 38) := heap_at (by simp)
  have z0 : w.heap.size + 1 + 1 < (((w.alloc (.cells #[.slice a1 xa.length d1, .slice a2 xb.length d2, .slice a3 x.length d3] 26)).alloc (.cells #[.slice a4 ya.length d4, .slice a5 yb.length d5] 29)).alloc (.cells #[.int .i64 0, .slice none 0 0, .slice none 0 0, .slice none 0 0] 38)).heap.size := by simp
  generalize (((w.alloc (.cells #[.slice a1 xa.length d1, .slice a2 xb.length d2, .slice a3 x.length d3] 26)).alloc (.cells #[.slice a4 ya.length d4, .slice a5 yb.length d5] 29)).alloc (.cells #[.int .i64 0, .slice none 0 0, .slice none 0 0, .slice none 0 0] 38)) = w0 at *
  obtain ⟨bC_0_c0, bC_0_c1, bC_0_c2⟩ := cells3 bC_0
  obtain ⟨bM_0_c0, bM_0_c1⟩ := cells2 bM_0
  obtain ⟨bR_0_c0, bR_0_c1, bR_0_c2, bR_0_c3⟩ := cells4 bR_0
  refine (CodeW.implV (sa.new h1 N0) (sb.new h1 N0) (s.new h1 N0) (by omega)).mono ?_
  rintro e w1 ⟨rfl, hn1⟩
  have z1 := hn1.size
  have N1 : New w w1 := N0.trans hn1
  have bC_1 := heap_new hn1 bC_0
  have bM_1 := heap_new hn1 bM_0
  have bR_1 := heap_new hn1 bR_0
  clear bC_0_c0 bC_0_c1 bC_0_c2 bM_0_c0 bM_0_c1 bR_0_c0 bR_0_c1 bR_0_c2 bR_0_c3
  clear bC_0 bM_0 bR_0 hn1
  cases q1 : codeB xa xb x
  · have D := Lib.hid (show (codeB xa xb x && fitB xa.length xb.length ya yb) = false by rw [q1]; rfl)
    clear q1
    obtain ⟨e0_, e1_, e2_, e3_⟩ := cells4 bR_1
    have ef_ := frozen_of_heap bR_1
    go_wp2
    have hkz := setMany_kp (w.heap.size + 1 + 1) [.int .i64 0, .slice none 0 0, .slice none 0 0, .slice none 0 0] w1 0
    have hR := setMany_row [.int .i64 0, .slice none 0 0, .slice none 0 0, .slice none 0 0] bR_1 rfl
    exact bodyPost_ret (results_cell_tmp rfl _ _ _ _ _ _ _ _ rfl rfl hR Try.underlying38 rfl (by kernel_rfl)) rfl (Ret.zero D.out rfl (New.one N1 hkz (by omega)))
  have E := Lib.hid q1
  clear q1
  obtain ⟨bC_1_c0, bC_1_c1, bC_1_c2⟩ := cells3 bC_1
  obtain ⟨bM_1_c0, bM_1_c1⟩ := cells2 bM_1
  obtain ⟨bR_1_c0, bR_1_c1, bR_1_c2, bR_1_c3⟩ := cells4 bR_1
  go_wp2_with fail
  refine (Decl.isMemory (hOh.out.reads.1.new h2 N1) (hOh.out.reads.2.new h2 N1) (by omega)).mono ?_
  rintro e w2 ⟨rfl, hn2⟩
  have z2 := hn2.size
  have N2 : New w w2 := N1.trans hn2
  have bC_2 := heap_new hn2 bC_1
  have bM_2 := heap_new hn2 bM_1
  have bR_2 := heap_new hn2 bR_1
  clear bC_1_c0 bC_1_c1 bC_1_c2 bM_1_c0 bM_1_c1 bR_1_c0 bR_1_c1 bR_1_c2 bR_1_c3
  clear bC_1 bM_1 bR_1 hn2
  cases q2 : fitB xa.length xb.length ya yb
  · have D := Lib.hid (show (codeB xa xb x && fitB xa.length xb.length ya yb) = false by rw [q2, Bool.and_false])
    clear q2 E
    obtain ⟨e0_, e1_, e2_, e3_⟩ := cells4 bR_2
    have ef_ := frozen_of_heap bR_2
    go_wp2
    have hkz := setMany_kp (w.heap.size + 1 + 1) [.int .i64 0, .slice none 0 0, .slice none 0 0, .slice none 0 0] w2 0
    have hR := setMany_row [.int .i64 0, .slice none 0 0, .slice none 0 0, .slice none 0 0] bR_2 rfl
    exact bodyPost_ret (results_cell_tmp rfl _ _ _ _ _ _ _ _ rfl rfl hR Try.underlying38 rfl (by kernel_rfl)) rfl (Ret.zero D.out rfl (New.one N2 hkz (by omega)))
  have D := Lib.hid (show (codeB xa xb x && fitB xa.length xb.length ya yb) = true by rw [q2, E.out]; rfl)
  clear q2 E
  obtain ⟨bC_2_c0, bC_2_c1, bC_2_c2⟩ := cells3 bC_2
  obtain ⟨bM_2_c0, bM_2_c1⟩ := cells2 bM_2
  obtain ⟨bR_2_c0, bR_2_c1, bR_2_c2, bR_2_c3⟩ := cells4 bR_2
  go_wp2_with fail
  refine (StartM.started _ lo' hi' _ _ _ _ (hOh.out.new h2 N2) (by omega) m0 m1 m2).mono ?_
  rintro e w3 ⟨vr, ua, ub, rfl, hn3, hq⟩
  have z3 := hn3.size
  have N3 : New w w3 := N2.trans hn3
  have bC_3 := heap_new hn3 bC_2
  have bM_3 := heap_new hn3 bM_2
  have bR_3 := heap_new hn3 bR_2
  clear bC_2_c0 bC_2_c1 bC_2_c2 bM_2_c0 bM_2_c1 bR_2_c0 bR_2_c1 bR_2_c2 bR_2_c3
  clear bC_2 bM_2 bR_2 hn3
  obtain ⟨⟨a6, d6, e6⟩, ⟨a7, d7, e7⟩, a8, d8, e8⟩ := StartM.lens3 hq
  subst e6; subst e7; subst e8
  have hqh := Lib.hid hq
  clear hq
  obtain ⟨e0_, e1_, e2_, e3_⟩ := cells4 bR_3
  have ef_ := frozen_of_heap bR_3
  go_wp2
  have hkz := setMany_kp (w.heap.size + 1 + 1) [.int .i64 0, .slice a6 zeros.length d6, .slice a7 ya.length d7, .slice a8 yb.length d8] w3 0
  have hR := setMany_row [.int .i64 0, .slice a6 zeros.length d6, .slice a7 ya.length d7, .slice a8 yb.length d8] bR_3 rfl
  have zs := setMany_size (w.heap.size + 1 + 1) [.int .i64 0, .slice a6 zeros.length d6, .slice a7 ya.length d7, .slice a8 yb.length d8] w3 0
  have hMO : MarkC.MachO (setMany w3 (w.heap.size + 1 + 1) 0 [.int .i64 0, .slice a6 zeros.length d6, .slice a7 ya.length d7, .slice a8 yb.length d8]) w.heap.size (setMany w3 (w.heap.size + 1 + 1) 0 [.int .i64 0, .slice a6 zeros.length d6, .slice a7 ya.length d7, .slice a8 yb.length d8]).heap.size (.slice a6 zeros.length d6) (.slice a7 ya.length d7) (.slice a8 yb.length d8) zeros ya yb := (hqh.out.kp hkz (fun b e => .inl (by omega))).mono (by omega) (by omega)
  exact bodyPost_ret (results_cell_tmp rfl _ _ _ _ _ _ _ _ rfl rfl hR Try.underlying38 rfl (by kernel_rfl)) rfl (Ret.full D.out rfl (New.one N3 hkz (by omega)) hMO)
end Go.Proofs.Ytbicpkmlionldaa.StartC
