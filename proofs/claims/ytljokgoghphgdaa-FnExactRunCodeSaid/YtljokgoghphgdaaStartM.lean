/- impl.started, and StartMachine of both: the state with a memory. Condition: bounds on the lengths. -/
import Derived.Test.YtljokgoghphgdaaOwnM
import Derived.Test.YtljokgoghphgdaaCopyM
import Derived.Test.YtljokgoghphgdaaCodeW
import Derived.Test.YtljokgoghphgdaaDecl
import Derived.Test.YtljokgoghphgdaaTail
import Derived.WalkKit
import Derived.ProofKit
namespace Go.Proofs.Ytljokgoghphgdaa.StartM
open Go.RowKit Kit
set_option linter.unusedVariables false
def zeros : List Int := List.replicate 14 0
theorem zeros_own (w : World) : OwnF 1 encI (w.alloc (.cells (mkCells (.int .i64 0) 1 14) 3)) w.heap.size 3 (.slice (some ⟨w.heap.size, 0, none⟩) 14 14) zeros := by
  have e : (mkCells (.int .i64 0) 1 14).toList = List.replicate 14 (.int .i64 0) := toList_madeCells_one _ _
  refine OwnF.mk' (alloc_heap _ _) (Nat.le_refl _) (by simp [zeros]) (by simp [maxLen]) (by rw [mkCells_size]) fun i hi t ht => ?_
  obtain rfl : t = 0 := by omega
  have hi' : i < 14 := by simpa [zeros] using hi
  rw [← Array.getElem?_toList, e, List.getElem?_replicate, if_pos (by omega)]
  exact congrArg (fun x => some (Value.int .i64 x)) (List.getElem_replicate (h := hi)).symm
theorem lens3 {w : World} {lo hi : Nat} {vr va vb : Value} {yr ya : List Int} {yb : List (List Int)} (h : MarkC.MachO w lo hi vr va vb yr ya yb) : (∃ a d, vr = .slice a yr.length d) ∧ (∃ a d, va = .slice a ya.length d) ∧ ∃ a d, vb = .slice a yb.length d := by
  obtain ⟨p1, p2, p3, p4, _, _, _, _, _, A, B⟩ := h
  obtain ⟨a1, d1, e, _⟩ := A.reads.len
  exact ⟨⟨a1, d1, e⟩, B.lens⟩
set_option maxHeartbeats 2000000 in
set_option maxRecDepth 100000 in
theorem started (w : World) (lo hi : Nat) (va vb : Value) (ya : List Int) (yb : List (List Int)) (h : MarkC.MemO w lo hi va vb ya yb) (hh : hi ≤ w.heap.size) (m0 : ya.length ≤ 1099511627776) (m1 : yb.length ≤ 1073741824) (m2 : ∀ x ∈ yb, x.length ≤ 1099511627776) :
    Calls Try.prog 65 #[.agg #[va, vb]] w fun e w' => ∃ vr ua ub, e = .returned (.agg #[.int .i64 0, vr, ua, ub]) ∧ New w w' ∧ MarkC.MachO w' w.heap.size w'.heap.size vr ua ub zeros ya yb := by
  obtain ⟨⟨a1, d1, rfl⟩, a2, d2, rfl⟩ := h.lens
  have hmk : ∀ w : World, (Instr.makeSlice 23 (.int .i64 14) (.int .i64 14)).run Try.prog w = .ok (.slice (some ⟨w.heap.size, 0, none⟩) 14 14) (w.alloc (.cells (mkCells (.int .i64 0) 1 14) 3)) := fun w => run_mk (P := Try.prog) _ _ _ _ _ Try.underlying23 LawF.infoI 14 (by omega) (by omega) w
  go_enter Try.func65, Try.ntmps65
  go_wp2_with fail
  have N0 : New w (((w.alloc (.cells #[.slice a1 ya.length d1, .slice a2 yb.length d2] 29)).alloc (.cells #[.int .i64 0, .slice none 0 0, .slice none 0 0, .slice none 0 0] 31))) := ((Kp.refl _ _).alloc _).alloc _
  have bM : (((w.alloc (.cells #[.slice a1 ya.length d1, .slice a2 yb.length d2] 29)).alloc (.cells #[.int .i64 0, .slice none 0 0, .slice none 0 0, .slice none 0 0] 31))).heap[w.heap.size]? = some (.cells #[.slice a1 ya.length d1, .slice a2 yb.length d2] 29) := heap_old (alloc_heap _ _)
  have bR : (((w.alloc (.cells #[.slice a1 ya.length d1, .slice a2 yb.length d2] 29)).alloc (.cells #[.int .i64 0, .slice none 0 0, .slice none 0 0, .slice none 0 0] 31))).heap[w.heap.size + 1]? = some (.cells #[.int .i64 0, .slice none 0 0, .slice none 0 0, .slice none 0 0] 31) := heap_at (by simp)
  have z0 : w.heap.size + 1 < (((w.alloc (.cells #[.slice a1 ya.length d1, .slice a2 yb.length d2] 29)).alloc (.cells #[.int .i64 0, .slice none 0 0, .slice none 0 0, .slice none 0 0] 31))).heap.size := by simp
  generalize (((w.alloc (.cells #[.slice a1 ya.length d1, .slice a2 yb.length d2] 29)).alloc (.cells #[.int .i64 0, .slice none 0 0, .slice none 0 0, .slice none 0 0] 31))) = w0 at *
  have kd := (Kp.refl (fun _ => False) w0).drew
  have hM := Lib.hid ((h.new hh N0).new (by have := N0.size; omega) kd)
  have hh0 : hi ≤ w0.heap.size := by have := N0.size; omega
  have hz : OwnF 1 encI (w0.alloc (.cells (mkCells (.int .i64 0) 1 14) 3)).drew w0.heap.size 3 (.slice (some ⟨w0.heap.size, 0, none⟩) 14 14) zeros := zeros_own w0.drew
  have kz : New w0.drew (w0.alloc (.cells (mkCells (.int .i64 0) 1 14) 3)).drew := (show New w0.drew (w0.drew.alloc (.cells (mkCells (.int .i64 0) 1 14) 3)) from (Kp.refl _ _).alloc _)
  have bMd := heap_new kd bM
  have cM0 : w0.drew.cell? ⟨w.heap.size, 0, none⟩ = some (.slice a1 ya.length d1) := cell_of_heap bMd 0
  have cM1 : w0.drew.cell? ⟨w.heap.size, 1, none⟩ = some (.slice a2 yb.length d2) := cell_of_heap bMd 1
  have bMz := heap_new kz bMd
  have cMz0 : (w0.alloc (.cells (mkCells (.int .i64 0) 1 14) 3)).drew.cell? ⟨w.heap.size, 0, none⟩ = some (.slice a1 ya.length d1) := cell_of_heap bMz 0
  have cMz1 : (w0.alloc (.cells (mkCells (.int .i64 0) 1 14) 3)).drew.cell? ⟨w.heap.size, 1, none⟩ = some (.slice a2 yb.length d2) := cell_of_heap bMz 1
  have bRd := heap_new kd bR
  have hzh := Lib.hid hz
  clear hz h
  refine wp_region_tail (k := 4) (S := fun w' => w'.cell? ⟨w.heap.size, 0, none⟩ = some (.slice a1 ya.length d1) ∧ w'.cell? ⟨w.heap.size, 1, none⟩ = some (.slice a2 yb.length d2)) (by kernel_rfl) ?_ (fun hHeld => ?_)
  · exact ⟨cM0, cM1⟩
  refine AnyK.take (i := 1) (v := ?vq1) rfl (by kernel_rfl) (by kernel_rfl) (by kernel_rfl) (by kernel_rfl) (fun _ _ _ h => h) (Or.inl ⟨by kernel_rfl, ?yq1⟩) (by assumption) ?rq1
  case yq1 =>
    intro w hSw
    try dsimp only at hSw
    go_simp
    try with_reducible rfl
  try simp only [Act.put, List.getElem_toArray, List.getElem_cons_zero, List.getElem_cons_succ, List.setIfInBounds_toArray, List.set_cons_zero, List.set_cons_succ]
  refine AnyK.two (i := 0) (j := 2) (by kernel_rfl) rfl rfl (fun K hK => ?_) (fun K hK => ?_)
  · go_simp
    refine hK.out _ _ ?_ (fun hHeld2 => ?_)
    · exact ⟨cMz0, cMz1⟩
    clear hK K hHeld
    have hHeld := hHeld2
    clear hHeld2
    try simp only [Act.put, List.getElem_toArray, List.getElem_cons_zero, List.setIfInBounds_toArray, List.set_cons_zero, List.set_cons_succ]
    refine AnyK.step (i := 2) (by kernel_rfl) rfl (fun K hK => ?_)
    go_simp
    refine (OwnM.ownMem _ lo hi _ _ _ _ (hM.out.new (by have : w0.drew.heap.size = w0.heap.size := rfl; have := kz.size; omega) kz) (by have : w0.drew.heap.size = w0.heap.size := rfl; have := kz.size; omega) m0 m1 m2).mono ?_
    rintro e w1 ⟨ua, ub, rfl, hn1, hO⟩
    have bM1 := heap_new hn1 bMz
    have bR1 := heap_new hn1 (heap_new kz bRd)
    obtain ⟨⟨a3, d3, rfl⟩, a4, d4, rfl⟩ := hO.lens
    have hO1 := Lib.hid hO
    clear hO
    have d0 : w1.cell? ⟨w.heap.size, 0, none⟩ = some (.slice a1 ya.length d1) := cell_of_heap bM1 0
    have d1' : w1.cell? ⟨w.heap.size, 1, none⟩ = some (.slice a2 yb.length d2) := cell_of_heap bM1 1
    refine hK.out _ _ ?_ (fun hHeld2 => ?_)
    · exact ⟨d0, d1'⟩
    clear hK K hHeld
    have hHeld := hHeld2
    clear hHeld2
    try simp only [Act.put, List.getElem_toArray, List.getElem_cons_zero, List.getElem_cons_succ, List.setIfInBounds_toArray, List.set_cons_zero, List.set_cons_succ]
    refine AnyK.takeW (i := 3) (v := ?vq2) rfl (by kernel_rfl) (by kernel_rfl) (by kernel_rfl) (by kernel_rfl) (fun _ _ _ h => h) (Or.inl ⟨by kernel_rfl, ?yq2⟩) (by assumption) ?rq2
    case yq2 =>
      intro w hSw
      try dsimp only at hSw
      go_simp
      try with_reducible rfl
    try simp only [Act.put, List.getElem_toArray, List.getElem_cons_zero, List.getElem_cons_succ, List.setIfInBounds_toArray, List.set_cons_zero, List.set_cons_succ]
    refine AnyK.last (by kernel_rfl) ?_
    simp only [List.drop_succ_cons, List.drop_zero]
    clear hHeld
    have e0 := cell_of_heap bR1 0
    have e1 := cell_of_heap bR1 1
    have e2 := cell_of_heap bR1 2
    have e3 := cell_of_heap bR1 3
    have ef := frozen_of_heap bR1
    go_wp2
    have zd : w0.drew.heap.size = w0.heap.size := rfl
    have zz : (w0.alloc (.cells (mkCells (.int .i64 0) 1 14) 3)).drew.heap.size = w0.heap.size + 1 := by show (w0.alloc _).heap.size = _; simp
    have z1 := hn1.size
    have NN : New w w1 := (N0.trans kd).trans (kz.trans hn1)
    have oR := hzh.out.new hn1
    have oM := hO1.out
    have hkz := setMany_kp (w.heap.size + 1) [.int .i64 0, .slice (some ⟨w0.heap.size, 0, none⟩) 14 14, .slice a3 ya.length d3, .slice a4 yb.length d4] w1 0
    have zs := setMany_size (w.heap.size + 1) [.int .i64 0, .slice (some ⟨w0.heap.size, 0, none⟩) 14 14, .slice a3 ya.length d3, .slice a4 yb.length d4] w1 0
    have hR := setMany_row [.int .i64 0, .slice (some ⟨w0.heap.size, 0, none⟩) 14 14, .slice a3 ya.length d3, .slice a4 yb.length d4] bR1 rfl
    have oM2 := oM.kp hkz (fun b e => .inl (by omega))
    have oR2 := oR.kp hkz (fun b hb e => by have := (oR.lt b hb).1; omega)
    have hMO : MarkC.MachO (setMany w1 (w.heap.size + 1) 0 [.int .i64 0, .slice (some ⟨w0.heap.size, 0, none⟩) 14 14, .slice a3 ya.length d3, .slice a4 yb.length d4]) w.heap.size (setMany w1 (w.heap.size + 1) 0 [.int .i64 0, .slice (some ⟨w0.heap.size, 0, none⟩) 14 14, .slice a3 ya.length d3, .slice a4 yb.length d4]).heap.size (.slice (some ⟨w0.heap.size, 0, none⟩) 14 14) (.slice a3 ya.length d3) (.slice a4 yb.length d4) zeros ya yb := ⟨w0.heap.size, w0.heap.size + 1, _, _, by omega, by omega, by omega, by omega, .inl (by omega), ⟨oR2, fun b hb => by simp [Value.ownBlock] at hb; omega⟩, oM2⟩
    refine bodyPost_ret (results_cell_row rfl _ _ _ _ _ _ _ rfl hR Try.underlying31 rfl (by kernel_rfl)) rfl ⟨_, _, _, rfl, New.one NN hkz (by omega), hMO⟩
  · go_simp
    refine (OwnM.ownMem _ lo hi _ _ _ _ hM.out (by have : w0.drew.heap.size = w0.heap.size := rfl; have := kz.size; omega) m0 m1 m2).mono ?_
    rintro e w1 ⟨ua, ub, rfl, hn1, hO⟩
    have bM1 := heap_new hn1 bMd
    have bR1 := heap_new hn1 bRd
    obtain ⟨⟨a3, d3, rfl⟩, a4, d4, rfl⟩ := hO.lens
    have hO1 := Lib.hid hO
    clear hO
    have d0 : w1.cell? ⟨w.heap.size, 0, none⟩ = some (.slice a1 ya.length d1) := cell_of_heap bM1 0
    have d1' : w1.cell? ⟨w.heap.size, 1, none⟩ = some (.slice a2 yb.length d2) := cell_of_heap bM1 1
    refine hK.out _ _ ?_ (fun hHeld2 => ?_)
    · exact ⟨d0, d1'⟩
    clear hK K hHeld
    have hHeld := hHeld2
    clear hHeld2
    try simp only [Act.put, List.getElem_toArray, List.getElem_cons_zero, List.getElem_cons_succ, List.setIfInBounds_toArray, List.set_cons_zero, List.set_cons_succ]
    refine AnyK.step (i := 0) (by kernel_rfl) rfl (fun K hK => ?_)
    go_simp
    have bM2 := heap_old (x := (.cells (mkCells (.int .i64 0) 1 14) 3)) bM1
    have bR2 := heap_old (x := (.cells (mkCells (.int .i64 0) 1 14) 3)) bR1
    have f0 : (w1.alloc (.cells (mkCells (.int .i64 0) 1 14) 3)).cell? ⟨w.heap.size, 0, none⟩ = some (.slice a1 ya.length d1) := cell_of_heap bM2 0
    have f1 : (w1.alloc (.cells (mkCells (.int .i64 0) 1 14) 3)).cell? ⟨w.heap.size, 1, none⟩ = some (.slice a2 yb.length d2) := cell_of_heap bM2 1
    refine hK.out _ _ ?_ (fun hHeld2 => ?_)
    · exact ⟨f0, f1⟩
    clear hK K hHeld
    have hHeld := hHeld2
    clear hHeld2
    try simp only [Act.put, List.getElem_toArray, List.getElem_cons_zero, List.setIfInBounds_toArray, List.set_cons_zero, List.set_cons_succ]
    refine AnyK.takeW (i := 3) (v := ?vq3) rfl (by kernel_rfl) (by kernel_rfl) (by kernel_rfl) (by kernel_rfl) (fun _ _ _ h => h) (Or.inl ⟨by kernel_rfl, ?yq3⟩) (by assumption) ?rq3
    case yq3 =>
      intro w hSw
      try dsimp only at hSw
      go_simp
      try with_reducible rfl
    try simp only [Act.put, List.getElem_toArray, List.getElem_cons_zero, List.getElem_cons_succ, List.setIfInBounds_toArray, List.set_cons_zero, List.set_cons_succ]
    refine AnyK.last (by kernel_rfl) ?_
    simp only [List.drop_succ_cons, List.drop_zero]
    clear hHeld
    have e0 := cell_of_heap bR2 0
    have e1 := cell_of_heap bR2 1
    have e2 := cell_of_heap bR2 2
    have e3 := cell_of_heap bR2 3
    have ef := frozen_of_heap bR2
    go_wp2
    have zd : w0.drew.heap.size = w0.heap.size := rfl
    have zz : (w0.alloc (.cells (mkCells (.int .i64 0) 1 14) 3)).drew.heap.size = w0.heap.size + 1 := by show (w0.alloc _).heap.size = _; simp
    have z1 := hn1.size
    have ka : New w1 (w1.alloc (.cells (mkCells (.int .i64 0) 1 14) 3)) := (Kp.refl _ _).alloc _
    have NN : New w (w1.alloc (.cells (mkCells (.int .i64 0) 1 14) 3)) := ((N0.trans kd).trans hn1).trans ka
    have oR := zeros_own w1
    have oM := hO1.out.new (Nat.le_refl _) ka
    have za : (w1.alloc (.cells (mkCells (.int .i64 0) 1 14) 3)).heap.size = w1.heap.size + 1 := by simp
    have hkz := setMany_kp (w.heap.size + 1) [.int .i64 0, .slice (some ⟨w1.heap.size, 0, none⟩) 14 14, .slice a3 ya.length d3, .slice a4 yb.length d4] (w1.alloc (.cells (mkCells (.int .i64 0) 1 14) 3)) 0
    have zs := setMany_size (w.heap.size + 1) [.int .i64 0, .slice (some ⟨w1.heap.size, 0, none⟩) 14 14, .slice a3 ya.length d3, .slice a4 yb.length d4] (w1.alloc (.cells (mkCells (.int .i64 0) 1 14) 3)) 0
    have hR := setMany_row [.int .i64 0, .slice (some ⟨w1.heap.size, 0, none⟩) 14 14, .slice a3 ya.length d3, .slice a4 yb.length d4] bR2 rfl
    have oM2 := oM.kp hkz (fun b e => .inl (by omega))
    have oR2 := oR.kp hkz (fun b hb e => by have := (oR.lt b hb).1; omega)
    have hMO : MarkC.MachO (setMany (w1.alloc (.cells (mkCells (.int .i64 0) 1 14) 3)) (w.heap.size + 1) 0 [.int .i64 0, .slice (some ⟨w1.heap.size, 0, none⟩) 14 14, .slice a3 ya.length d3, .slice a4 yb.length d4]) w.heap.size (setMany (w1.alloc (.cells (mkCells (.int .i64 0) 1 14) 3)) (w.heap.size + 1) 0 [.int .i64 0, .slice (some ⟨w1.heap.size, 0, none⟩) 14 14, .slice a3 ya.length d3, .slice a4 yb.length d4]).heap.size (.slice (some ⟨w1.heap.size, 0, none⟩) 14 14) (.slice a3 ya.length d3) (.slice a4 yb.length d4) zeros ya yb := ⟨w1.heap.size, w1.heap.size + 1, _, _, by omega, by omega, by omega, by omega, .inr (by omega), ⟨oR2, fun b hb => by simp [Value.ownBlock] at hb; omega⟩, oM2⟩
    refine bodyPost_ret (results_cell_row rfl _ _ _ _ _ _ _ rfl hR Try.underlying31 rfl (by kernel_rfl)) rfl ⟨_, _, _, rfl, New.one NN hkz (by omega), hMO⟩
end Go.Proofs.Ytljokgoghphgdaa.StartM
