/- Copies of a machine's state: of the program, of the reference. Conditions: bounds on the lengths. -/
import Derived.Test.YtljokgoghphgdaaCopyM
import Derived.Test.YtljokgoghphgdaaStartM
import Derived.Test.YtljokgoghphgdaaMany
namespace Go.Proofs.Ytljokgoghphgdaa.CopyS
open Go.RowKit Kit MarkC
set_option linter.unusedVariables false
set_option maxHeartbeats 2000000 in
set_option maxRecDepth 100000 in
theorem ownMach (w : World) (lo hi : Nat) (pc : Int) (vr va vb : Value) (yr ya : List Int) (yb : List (List Int)) (h : MachO w lo hi vr va vb yr ya yb) (hh : hi ≤ w.heap.size) (mr : yr.length ≤ 1099511627776) (m0 : ya.length ≤ 1099511627776) (m1 : yb.length ≤ 1073741824) (m2 : ∀ x ∈ yb, x.length ≤ 1099511627776) :
    Calls Try.prog 48 #[.agg #[.int .i64 pc, vr, va, vb]] w fun e w' => ∃ ur ua ub, e = .returned (.agg #[.int .i64 pc, ur, ua, ub]) ∧ New w w' ∧ MachO w' w.heap.size w'.heap.size ur ua ub yr ya yb := by
  obtain ⟨p1, p2, p3, p4, q1, q2, q3, q4, q5, A, B⟩ := h
  obtain ⟨a1, d1, rfl, l1⟩ := A.reads.len
  obtain ⟨⟨a2, d2, rfl⟩, a3, d3, rfl⟩ := B.lens
  have hA0 := Lib.hid A
  have hB0 := Lib.hid B
  clear A B
  go_enter Try.func48, Try.ntmps48
  go_wp2_with fail
  have N0 : New w ((w.alloc (.cells #[.int .i64 pc, .slice a1 yr.length d1, .slice a2 ya.length d2, .slice a3 yb.length d3] 31)).alloc (.cells #[.int .i64 0, .slice none 0 0, .slice none 0 0, .slice none 0 0] 31)) := ((Kp.refl _ _).alloc _).alloc _
  have bS : ((w.alloc (.cells #[.int .i64 pc, .slice a1 yr.length d1, .slice a2 ya.length d2, .slice a3 yb.length d3] 31)).alloc (.cells #[.int .i64 0, .slice none 0 0, .slice none 0 0, .slice none 0 0] 31)).heap[w.heap.size]? = some (.cells #[.int .i64 pc, .slice a1 yr.length d1, .slice a2 ya.length d2, .slice a3 yb.length d3] 31) := heap_old (alloc_heap _ _)
  have bR : ((w.alloc (.cells #[.int .i64 pc, .slice a1 yr.length d1, .slice a2 ya.length d2, .slice a3 yb.length d3] 31)).alloc (.cells #[.int .i64 0, .slice none 0 0, .slice none 0 0, .slice none 0 0] 31)).heap[w.heap.size + 1]? = some (.cells #[.int .i64 0, .slice none 0 0, .slice none 0 0, .slice none 0 0] 31) := heap_at (by simp)
  have z0 : w.heap.size + 1 < ((w.alloc (.cells #[.int .i64 pc, .slice a1 yr.length d1, .slice a2 ya.length d2, .slice a3 yb.length d3] 31)).alloc (.cells #[.int .i64 0, .slice none 0 0, .slice none 0 0, .slice none 0 0] 31)).heap.size := by simp
  generalize ((w.alloc (.cells #[.int .i64 pc, .slice a1 yr.length d1, .slice a2 ya.length d2, .slice a3 yb.length d3] 31)).alloc (.cells #[.int .i64 0, .slice none 0 0, .slice none 0 0, .slice none 0 0] 31)) = w0 at *
  have kd := (Kp.refl (fun _ => False) w0).drew
  have Nd := N0.trans kd
  have zd : w0.drew.heap.size = w0.heap.size := rfl
  have bSd := heap_new kd bS
  have bRd := heap_new kd bR
  have hA := Lib.hid (hA0.out.new (by omega) Nd)
  have hB := Lib.hid (hB0.out.new (by omega) Nd)
  have c0 := cell_of_heap bSd 0
  have c1 := cell_of_heap bSd 1
  have c2 := cell_of_heap bSd 2
  have c3 := cell_of_heap bSd 3
  refine wp_region_tail (k := 9) (S := fun w' => w'.cell? ⟨w.heap.size, 0, none⟩ = some (.int .i64 pc) ∧ w'.cell? ⟨w.heap.size, 1, none⟩ = some (.slice a1 yr.length d1) ∧ w'.cell? ⟨w.heap.size, 2, none⟩ = some (.slice a2 ya.length d2) ∧ w'.cell? ⟨w.heap.size, 3, none⟩ = some (.slice a3 yb.length d3)) (by kernel_rfl) ?_ (fun hHeld => ?_)
  · exact ⟨c0, c1, c2, c3⟩
  refine AnyK.takeW (i := 0) (v := ?vq1) rfl (by kernel_rfl) (by kernel_rfl) (by kernel_rfl) (by kernel_rfl) (fun _ _ _ h => h) (Or.inl ⟨by kernel_rfl, ?yq1⟩) (by assumption) ?rq1
  case yq1 =>
    intro w hSw
    try dsimp only at hSw
    go_simp
    try with_reducible rfl
  try simp only [Act.put, List.getElem_toArray, List.getElem_cons_zero, List.setIfInBounds_toArray, List.set_cons_zero, List.set_cons_succ]
  refine AnyK.take (i := 1) (v := ?vq2) rfl (by kernel_rfl) (by kernel_rfl) (by kernel_rfl) (by kernel_rfl) (fun _ _ _ h => h) (Or.inl ⟨by kernel_rfl, ?yq2⟩) (by assumption) ?rq2
  case yq2 =>
    intro w hSw
    try dsimp only at hSw
    go_simp
    try with_reducible rfl
  try simp only [Act.put, List.getElem_toArray, List.getElem_cons_zero, List.getElem_cons_succ, List.setIfInBounds_toArray, List.set_cons_zero, List.set_cons_succ]
  refine AnyK.takeW (i := 2) (v := ?vq3) rfl (by kernel_rfl) (by kernel_rfl) (by kernel_rfl) (by kernel_rfl) (fun _ _ _ h => h) (Or.inl ⟨by kernel_rfl, ?yq3⟩) (by assumption) ?rq3
  case yq3 =>
    intro w hSw
    try dsimp only at hSw
    go_simp
    try with_reducible rfl
  try simp only [Act.put, List.getElem_toArray, List.getElem_cons_zero, List.getElem_cons_succ, List.setIfInBounds_toArray, List.set_cons_zero, List.set_cons_succ]
  refine AnyK.take (i := 3) (v := ?vq4) rfl (by kernel_rfl) (by kernel_rfl) (by kernel_rfl) (by kernel_rfl) (fun _ _ _ h => h) (Or.inl ⟨by kernel_rfl, ?yq4⟩) (by assumption) ?rq4
  case yq4 =>
    intro w hSw
    try dsimp only at hSw
    go_simp
    try with_reducible rfl
  try simp only [Act.put, List.getElem_toArray, List.getElem_cons_zero, List.getElem_cons_succ, List.setIfInBounds_toArray, List.set_cons_zero, List.set_cons_succ]
  refine AnyK.takeW (i := 5) (v := ?vq5) rfl (by kernel_rfl) (by kernel_rfl) (by kernel_rfl) (by kernel_rfl) (fun _ _ _ h => h) (Or.inl ⟨by kernel_rfl, ?yq5⟩) (by assumption) ?rq5
  case yq5 =>
    intro w hSw
    try dsimp only at hSw
    go_simp
    try with_reducible rfl
  try simp only [Act.put, List.getElem_toArray, List.getElem_cons_zero, List.getElem_cons_succ, List.setIfInBounds_toArray, List.set_cons_zero, List.set_cons_succ]
  refine AnyK.take (i := 6) (v := ?vq6) rfl (by kernel_rfl) (by kernel_rfl) (by kernel_rfl) (by kernel_rfl) (fun _ _ _ h => h) (Or.inl ⟨by kernel_rfl, ?yq6⟩) (by assumption) ?rq6
  case yq6 =>
    intro w hSw
    try dsimp only at hSw
    go_simp
    try with_reducible rfl
  try simp only [Act.put, List.getElem_toArray, List.getElem_cons_zero, List.getElem_cons_succ, List.setIfInBounds_toArray, List.set_cons_zero, List.set_cons_succ]
  refine AnyK.step (i := 4) (by kernel_rfl) rfl (fun K hK => ?_)
  go_simp
  refine (AppM.cloneI _ _ _ _ hA.out.own (by omega)).mono ?_
  rintro e w1 ⟨u1, rfl, hn1, hO⟩
  have bS1 := heap_new hn1 bSd
  have bR1 := heap_new hn1 bRd
  obtain ⟨a4, d4, rfl, _⟩ := hO.reads.len
  have hO1 := Lib.hid hO
  clear hO
  have z1 := hn1.size
  have hB1 := Lib.hid (hB.out.new (by omega) hn1)
  have f0 := cell_of_heap bS1 0
  have f1 := cell_of_heap bS1 1
  have f2 := cell_of_heap bS1 2
  have f3 := cell_of_heap bS1 3
  refine hK.out _ _ ?_ (fun hHeld2 => ?_)
  · exact ⟨f0, f1, f2, f3⟩
  clear hK K hHeld
  have hHeld := hHeld2
  clear hHeld2
  try simp only [Act.put, List.getElem_toArray, List.getElem_cons_zero, List.getElem_cons_succ, List.setIfInBounds_toArray, List.set_cons_zero, List.set_cons_succ]
  refine AnyK.step (i := 7) (by kernel_rfl) rfl (fun K hK => ?_)
  go_simp
  refine (OwnM.ownMem _ _ _ _ _ _ _ hB1.out (by omega) m0 m1 m2).mono ?_
  rintro e w2 ⟨ua, ub, rfl, hn2, hO⟩
  have bS2 := heap_new hn2 bS1
  have bR2 := heap_new hn2 bR1
  obtain ⟨⟨a5, d5, rfl⟩, a6, d6, rfl⟩ := hO.lens
  have hO2 := Lib.hid hO
  clear hO
  have z2 := hn2.size
  have g0 := cell_of_heap bS2 0
  have g1 := cell_of_heap bS2 1
  have g2 := cell_of_heap bS2 2
  have g3 := cell_of_heap bS2 3
  refine hK.out _ _ ?_ (fun hHeld2 => ?_)
  · exact ⟨g0, g1, g2, g3⟩
  clear hK K hHeld
  have hHeld := hHeld2
  clear hHeld2
  try simp only [Act.put, List.getElem_toArray, List.getElem_cons_zero, List.getElem_cons_succ, List.setIfInBounds_toArray, List.set_cons_zero, List.set_cons_succ]
  refine AnyK.takeW (i := 8) (v := ?vq7) rfl (by kernel_rfl) (by kernel_rfl) (by kernel_rfl) (by kernel_rfl) (fun _ _ _ h => h) (Or.inl ⟨by kernel_rfl, ?yq7⟩) (by assumption) ?rq7
  case yq7 =>
    intro w hSw
    try dsimp only at hSw
    go_simp
    try with_reducible rfl
  try simp only [Act.put, List.getElem_toArray, List.getElem_cons_zero, List.getElem_cons_succ, List.setIfInBounds_toArray, List.set_cons_zero, List.set_cons_succ]
  refine AnyK.last (by kernel_rfl) ?_
  simp only [List.drop_succ_cons, List.drop_zero]
  clear hHeld
  have e0 := cell_of_heap bR2 0
  have e1 := cell_of_heap bR2 1
  have e2 := cell_of_heap bR2 2
  have e3 := cell_of_heap bR2 3
  have ef := frozen_of_heap bR2
  go_wp2
  have hkz := setMany_kp (w.heap.size + 1) [.int .i64 pc, .slice a4 yr.length d4, .slice a5 ya.length d5, .slice a6 yb.length d6] w2 0
  have zs := setMany_size (w.heap.size + 1) [.int .i64 pc, .slice a4 yr.length d4, .slice a5 ya.length d5, .slice a6 yb.length d6] w2 0
  have hR := setMany_row [.int .i64 pc, .slice a4 yr.length d4, .slice a5 ya.length d5, .slice a6 yb.length d6] bR2 rfl
  have oM2 := (hO2.out).kp hkz (fun b e => .inl (by omega))
  have oR2 := (hO1.out.new hn2).kp hkz (fun b hb e => by have := ((hO1.out.new hn2).lt b hb).1; omega)
  have hMO : MachO (setMany w2 (w.heap.size + 1) 0 [.int .i64 pc, .slice a4 yr.length d4, .slice a5 ya.length d5, .slice a6 yb.length d6]) w.heap.size (setMany w2 (w.heap.size + 1) 0 [.int .i64 pc, .slice a4 yr.length d4, .slice a5 ya.length d5, .slice a6 yb.length d6]).heap.size (.slice a4 yr.length d4) (.slice a5 ya.length d5) (.slice a6 yb.length d6) yr ya yb := ⟨w0.heap.size, w1.heap.size, w1.heap.size, w2.heap.size, by omega, by omega, by omega, by omega, .inl (by omega), ⟨oR2, fun b hb => (hO1.out.lt b hb).2⟩, oM2⟩
  exact bodyPost_ret (results_cell_row rfl _ _ _ _ _ _ _ rfl hR Try.underlying31 rfl (by kernel_rfl)) rfl ⟨_, _, _, rfl, New.one ((Nd.trans hn1).trans hn2) hkz (by omega), hMO⟩
set_option maxHeartbeats 2000000 in
set_option maxRecDepth 100000 in
theorem l6Copy (w : World) (lo hi : Nat) (pc : Int) (vr va vb : Value) (yr ya : List Int) (yb : List (List Int)) (sr : IntsR w lo hi vr yr) (sa : IntsR w lo hi va ya) (sb : MatR w lo hi vb yb) (hh : hi ≤ w.heap.size) (mr : yr.length ≤ 1099511627776) (m0 : ya.length ≤ 1099511627776) (m1 : yb.length ≤ 1073741824) (m2 : ∀ x ∈ yb, x.length ≤ 1099511627776) :
    Calls Try.prog 52 #[.agg #[.int .i64 pc, vr, va, vb]] w fun e w' => ∃ ur ua ub, e = .returned (.agg #[.int .i64 pc, ur, ua, ub]) ∧ New w w' ∧ MachO w' w.heap.size w'.heap.size ur ua ub yr ya yb := by
  obtain ⟨a1, d1, rfl, l1⟩ := sr.len
  obtain ⟨a2, d2, rfl, l2⟩ := sa.len
  obtain ⟨a3, d3, rfl, l3⟩ := sb.len
  have hr0 := Lib.hid sr
  have ha0 := Lib.hid sa
  have hb0 := Lib.hid sb
  clear sr sa sb
  go_enter Try.func52, Try.ntmps52
  go_wp2_with fail
  have N0 : New w ((w.alloc (.cells #[.int .i64 pc, .slice a1 yr.length d1, .slice a2 ya.length d2, .slice a3 yb.length d3] 31)).alloc (.cells #[.int .i64 0, .slice none 0 0, .slice none 0 0, .slice none 0 0] 31)) := ((Kp.refl _ _).alloc _).alloc _
  have bS : ((w.alloc (.cells #[.int .i64 pc, .slice a1 yr.length d1, .slice a2 ya.length d2, .slice a3 yb.length d3] 31)).alloc (.cells #[.int .i64 0, .slice none 0 0, .slice none 0 0, .slice none 0 0] 31)).heap[w.heap.size]? = some (.cells #[.int .i64 pc, .slice a1 yr.length d1, .slice a2 ya.length d2, .slice a3 yb.length d3] 31) := heap_old (alloc_heap _ _)
  have bR : ((w.alloc (.cells #[.int .i64 pc, .slice a1 yr.length d1, .slice a2 ya.length d2, .slice a3 yb.length d3] 31)).alloc (.cells #[.int .i64 0, .slice none 0 0, .slice none 0 0, .slice none 0 0] 31)).heap[w.heap.size + 1]? = some (.cells #[.int .i64 0, .slice none 0 0, .slice none 0 0, .slice none 0 0] 31) := heap_at (by simp)
  have z0 : w.heap.size + 1 < ((w.alloc (.cells #[.int .i64 pc, .slice a1 yr.length d1, .slice a2 ya.length d2, .slice a3 yb.length d3] 31)).alloc (.cells #[.int .i64 0, .slice none 0 0, .slice none 0 0, .slice none 0 0] 31)).heap.size := by simp
  generalize ((w.alloc (.cells #[.int .i64 pc, .slice a1 yr.length d1, .slice a2 ya.length d2, .slice a3 yb.length d3] 31)).alloc (.cells #[.int .i64 0, .slice none 0 0, .slice none 0 0, .slice none 0 0] 31)) = w0 at *
  have kd := (Kp.refl (fun _ => False) w0).drew
  have Nd := N0.trans kd
  have zd : w0.drew.heap.size = w0.heap.size := rfl
  have bSd := heap_new kd bS
  have bRd := heap_new kd bR
  have kA : New w0.drew (w0.drew.alloc (.cells #[] 3)) := (Kp.refl _ _).alloc _
  have bSA := heap_new kA bSd
  have bRA := heap_new kA bRd
  have NA := Nd.trans kA
  have zA : (w0.drew.alloc (.cells #[] 3)).heap.size = w0.heap.size + 1 := by show (w0.drew.alloc _).heap.size = w0.drew.heap.size + 1; simp
  have hE := Lib.hid (OwnF.empty (α := Int) (n := 1) (enc := encI) w0.drew 3 (base := w0.heap.size) (Nat.le_refl _))
  have hA := Lib.hid (hr0.out.new hh NA)
  have hB := Lib.hid (ha0.out.new hh NA)
  have hC := Lib.hid (hb0.out.new hh NA)
  have c0 := cell_of_heap bSd 0
  have c1 := cell_of_heap bSd 1
  have c2 := cell_of_heap bSd 2
  have c3 := cell_of_heap bSd 3
  have cA0 := cell_of_heap bSA 0
  have cA1 := cell_of_heap bSA 1
  have cA2 := cell_of_heap bSA 2
  have cA3 := cell_of_heap bSA 3
  refine wp_region_tail (k := 10) (S := fun w' => w'.cell? ⟨w.heap.size, 0, none⟩ = some (.int .i64 pc) ∧ w'.cell? ⟨w.heap.size, 1, none⟩ = some (.slice a1 yr.length d1) ∧ w'.cell? ⟨w.heap.size, 2, none⟩ = some (.slice a2 ya.length d2) ∧ w'.cell? ⟨w.heap.size, 3, none⟩ = some (.slice a3 yb.length d3)) (by kernel_rfl) ?_ (fun hHeld => ?_)
  · exact ⟨c0, c1, c2, c3⟩
  refine AnyK.takeW (i := 0) (v := ?vq8) rfl (by kernel_rfl) (by kernel_rfl) (by kernel_rfl) (by kernel_rfl) (fun _ _ _ h => h) (Or.inl ⟨by kernel_rfl, ?yq8⟩) (by assumption) ?rq8
  case yq8 =>
    intro w hSw
    try dsimp only at hSw
    go_simp
    try with_reducible rfl
  try simp only [Act.put, List.getElem_toArray, List.getElem_cons_zero, List.setIfInBounds_toArray, List.set_cons_zero, List.set_cons_succ]
  refine AnyK.take (i := 1) (v := ?vq9) rfl (by kernel_rfl) (by kernel_rfl) (by kernel_rfl) (by kernel_rfl) (fun _ _ _ h => h) (Or.inl ⟨by kernel_rfl, ?yq9⟩) (by assumption) ?rq9
  case yq9 =>
    intro w hSw
    try dsimp only at hSw
    go_simp
    try with_reducible rfl
  try simp only [Act.put, List.getElem_toArray, List.getElem_cons_zero, List.getElem_cons_succ, List.setIfInBounds_toArray, List.set_cons_zero, List.set_cons_succ]
  refine AnyK.takeW (i := 3) (v := ?vq10) rfl (by kernel_rfl) (by kernel_rfl) (by kernel_rfl) (by kernel_rfl) (fun _ _ _ h => h) (Or.inl ⟨by kernel_rfl, ?yq10⟩) (by assumption) ?rq10
  case yq10 =>
    intro w hSw
    try dsimp only at hSw
    go_simp
    try with_reducible rfl
  try simp only [Act.put, List.getElem_toArray, List.getElem_cons_zero, List.getElem_cons_succ, List.setIfInBounds_toArray, List.set_cons_zero, List.set_cons_succ]
  refine AnyK.take (i := 4) (v := ?vq11) rfl (by kernel_rfl) (by kernel_rfl) (by kernel_rfl) (by kernel_rfl) (fun _ _ _ h => h) (Or.inl ⟨by kernel_rfl, ?yq11⟩) (by assumption) ?rq11
  case yq11 =>
    intro w hSw
    try dsimp only at hSw
    go_simp
    try with_reducible rfl
  try simp only [Act.put, List.getElem_toArray, List.getElem_cons_zero, List.getElem_cons_succ, List.setIfInBounds_toArray, List.set_cons_zero, List.set_cons_succ]
  refine AnyK.takeW (i := 6) (v := ?vq12) rfl (by kernel_rfl) (by kernel_rfl) (by kernel_rfl) (by kernel_rfl) (fun _ _ _ h => h) (Or.inl ⟨by kernel_rfl, ?yq12⟩) (by assumption) ?rq12
  case yq12 =>
    intro w hSw
    try dsimp only at hSw
    go_simp
    try with_reducible rfl
  try simp only [Act.put, List.getElem_toArray, List.getElem_cons_zero, List.getElem_cons_succ, List.setIfInBounds_toArray, List.set_cons_zero, List.set_cons_succ]
  refine AnyK.take (i := 7) (v := ?vq13) rfl (by kernel_rfl) (by kernel_rfl) (by kernel_rfl) (by kernel_rfl) (fun _ _ _ h => h) (Or.inl ⟨by kernel_rfl, ?yq13⟩) (by assumption) ?rq13
  case yq13 =>
    intro w hSw
    try dsimp only at hSw
    go_simp
    try with_reducible rfl
  try simp only [Act.put, List.getElem_toArray, List.getElem_cons_zero, List.getElem_cons_succ, List.setIfInBounds_toArray, List.set_cons_zero, List.set_cons_succ]
  refine AnyK.step (i := 2) (by kernel_rfl) rfl (fun K hK => ?_)
  go_simp
  refine hK.out _ _ ?_ (fun hHeld2 => ?_)
  · exact ⟨cA0, cA1, cA2, cA3⟩
  clear hK K hHeld
  have hHeld := hHeld2
  clear hHeld2
  try simp only [Act.put, List.getElem_toArray, List.getElem_cons_zero, List.getElem_cons_succ, List.setIfInBounds_toArray, List.set_cons_zero, List.set_cons_succ]
  refine AnyK.step (i := 5) (by kernel_rfl) rfl (fun K hK => ?_)
  refine step_pushes rfl (.tmp 5) (.tmp 7) 23 rfl w0.heap.size 3 _ _ Try.underlying23 LawF.infoI rfl (by omega) (.slice (some ⟨w0.heap.size, 0, none⟩) 0 0) [] rfl hE.out _ yr rfl hA.out (fun y _ _ => rfl) ?_ ?_ ?_ ?_
  · simp; omega
  · simp; omega
  · exact size_alloc_le (by show w0.heap.size ≤ w0.heap.size; omega) _
  intro v1 w1 hv1 hk1 _
  obtain ⟨a4, d4, rfl, _⟩ := hv1.reads.len
  have hO1 := Lib.hid hv1
  have hk1h : One w0.heap.size (w0.drew.alloc (.cells #[] 3)) w1 := hk1.mono fun k _ e => by simpa [Value.ownBlock] using e.symm
  clear hv1 hk1
  have z1 := hk1h.size
  have bS1 := (hk1h.block _ (by omega) (by omega)).trans bSA
  have bR1 := (hk1h.block _ (by omega) (by omega)).trans bRA
  have hB1 := Lib.hid (hB.out.kp hk1h (by omega) (fun b e => .inr (by omega)))
  have hC1 := Lib.hid (hC.out.kp hk1h (by omega) (fun b e => .inr (by omega)))
  have f0 := cell_of_heap bS1 0
  have f1 := cell_of_heap bS1 1
  have f2 := cell_of_heap bS1 2
  have f3 := cell_of_heap bS1 3
  refine hK.out _ _ ?_ (fun hHeld2 => ?_)
  · exact ⟨f0, f1, f2, f3⟩
  clear hK K hHeld
  have hHeld := hHeld2
  clear hHeld2
  try simp only [Act.put, List.getElem_toArray, List.getElem_cons_zero, List.getElem_cons_succ, List.setIfInBounds_toArray, List.set_cons_zero, List.set_cons_succ]
  refine AnyK.step (i := 8) (by kernel_rfl) rfl (fun K hK => ?_)
  go_simp
  refine (CopyM.l3Copy _ _ _ _ _ _ _ hB1.out hC1.out (by omega) m0 m1 m2).mono ?_
  rintro e w2 ⟨ua, ub, rfl, hn2, hO⟩
  have bS2 := heap_new hn2 bS1
  have bR2 := heap_new hn2 bR1
  obtain ⟨⟨a5, d5, rfl⟩, a6, d6, rfl⟩ := hO.lens
  have hO2 := Lib.hid hO
  clear hO
  have z2 := hn2.size
  have g0 := cell_of_heap bS2 0
  have g1 := cell_of_heap bS2 1
  have g2 := cell_of_heap bS2 2
  have g3 := cell_of_heap bS2 3
  refine hK.out _ _ ?_ (fun hHeld2 => ?_)
  · exact ⟨g0, g1, g2, g3⟩
  clear hK K hHeld
  have hHeld := hHeld2
  clear hHeld2
  try simp only [Act.put, List.getElem_toArray, List.getElem_cons_zero, List.getElem_cons_succ, List.setIfInBounds_toArray, List.set_cons_zero, List.set_cons_succ]
  refine AnyK.takeW (i := 9) (v := ?vq14) rfl (by kernel_rfl) (by kernel_rfl) (by kernel_rfl) (by kernel_rfl) (fun _ _ _ h => h) (Or.inl ⟨by kernel_rfl, ?yq14⟩) (by assumption) ?rq14
  case yq14 =>
    intro w hSw
    try dsimp only at hSw
    go_simp
    try with_reducible rfl
  try simp only [Act.put, List.getElem_toArray, List.getElem_cons_zero, List.getElem_cons_succ, List.setIfInBounds_toArray, List.set_cons_zero, List.set_cons_succ]
  refine AnyK.last (by kernel_rfl) ?_
  simp only [List.drop_succ_cons, List.drop_zero]
  clear hHeld
  have e0 := cell_of_heap bR2 0
  have e1 := cell_of_heap bR2 1
  have e2 := cell_of_heap bR2 2
  have e3 := cell_of_heap bR2 3
  have ef := frozen_of_heap bR2
  go_wp2
  have hkz := setMany_kp (w.heap.size + 1) [.int .i64 pc, .slice a4 yr.length d4, .slice a5 ya.length d5, .slice a6 yb.length d6] w2 0
  have zs := setMany_size (w.heap.size + 1) [.int .i64 pc, .slice a4 yr.length d4, .slice a5 ya.length d5, .slice a6 yb.length d6] w2 0
  have hR := setMany_row [.int .i64 pc, .slice a4 yr.length d4, .slice a5 ya.length d5, .slice a6 yb.length d6] bR2 rfl
  have oM2 := (hO2.out).kp hkz (fun b e => .inl (by omega))
  have oR2 := (hO1.out.new hn2).kp hkz (fun b hb e => by have := ((hO1.out.new hn2).lt b hb).1; omega)
  have hMO : MachO (setMany w2 (w.heap.size + 1) 0 [.int .i64 pc, .slice a4 yr.length d4, .slice a5 ya.length d5, .slice a6 yb.length d6]) w.heap.size (setMany w2 (w.heap.size + 1) 0 [.int .i64 pc, .slice a4 yr.length d4, .slice a5 ya.length d5, .slice a6 yb.length d6]).heap.size (.slice a4 yr.length d4) (.slice a5 ya.length d5) (.slice a6 yb.length d6) yr ya yb := ⟨w0.heap.size, w1.heap.size, w1.heap.size, w2.heap.size, by omega, by omega, by omega, by omega, .inl (by omega), ⟨oR2, fun b hb => (hO1.out.lt b hb).2⟩, oM2⟩
  exact bodyPost_ret (results_cell_row rfl _ _ _ _ _ _ _ rfl hR Try.underlying31 rfl (by kernel_rfl)) rfl ⟨_, _, _, rfl, New.one (((New.one NA hk1h (by omega))).trans hn2) hkz (by omega), hMO⟩
end Go.Proofs.Ytljokgoghphgdaa.CopyS
