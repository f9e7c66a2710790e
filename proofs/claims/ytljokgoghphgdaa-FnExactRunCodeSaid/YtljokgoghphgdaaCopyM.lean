/- spec.l3Copy: a memory of the call's own with the same values. Condition: bounds on the lengths. -/
import Derived.Test.YtljokgoghphgdaaOwnM
import Derived.Test.YtljokgoghphgdaaTail
import Derived.Deep.RegionHeld3
import Derived.WalkKit
import Derived.ProofKit
namespace Go.Proofs.Ytljokgoghphgdaa.CopyM
open Go.RowKit Kit
set_option linter.unusedVariables false
def CopyI (w : World) (ya : List Int) (yb : List (List Int)) (a1 : Option Addr) (d1 : Nat) (m1 m2 : Value) (bo : Nat) (j : Nat) (wr : World) : Prop := New w wr ∧ wr.heap[w.heap.size]? = some (.cells #[m1, m2] 29) ∧ wr.heap[w.heap.size + 1]? = some (.cells #[.slice none 0 0, .slice none 0 0] 29) ∧
  bo < wr.heap.size ∧ w.heap.size + 2 ≤ bo ∧ OwnR 1 encI wr (w.heap.size + 2) bo 3 (.slice a1 ya.length d1) ya ∧ ∃ a2 d2, wr.heap[bo]? = some (.cells #[.slice a1 ya.length d1, .slice a2 j d2] 29) ∧ MatO wr (bo + 1) wr.heap.size 23 3 (.slice a2 j d2) (yb.take j)
set_option maxHeartbeats 2000000 in
set_option maxRecDepth 100000 in
theorem l3Copy (w : World) (lo hi : Nat) (va vb : Value) (ya : List Int) (yb : List (List Int)) (sa : IntsR w lo hi va ya) (sb : MatR w lo hi vb yb) (hh : hi ≤ w.heap.size) (m0 : ya.length ≤ 1099511627776) (m1 : yb.length ≤ 1073741824) (m2 : ∀ x ∈ yb, x.length ≤ 1099511627776) :
    Calls Try.prog 71 #[.agg #[va, vb]] w fun e w' => ∃ ua ub, e = .returned (.agg #[ua, ub]) ∧ New w w' ∧ MarkC.MemO w' w.heap.size w'.heap.size ua ub ya yb := by
  obtain ⟨a1, d1, rfl, l1⟩ := sa.len
  obtain ⟨a2, d2, rfl, l2⟩ := sb.len
  have hsa := Lib.hid sa
  have hsb := Lib.hid sb
  clear sa sb
  go_enter Try.func71, Try.ntmps71
  have N0 : New w ((((w.alloc (.cells #[.slice a1 ya.length d1, .slice a2 yb.length d2] 29)).alloc (.cells #[.slice none 0 0, .slice none 0 0] 29))).alloc (.cells #[] 3)) := (((Kp.refl _ _).alloc _).alloc _).alloc _
  have z0 : ((w.alloc (.cells #[.slice a1 ya.length d1, .slice a2 yb.length d2] 29)).alloc (.cells #[.slice none 0 0, .slice none 0 0] 29)).heap.size = w.heap.size + 2 := by simp
  have bM : ((((w.alloc (.cells #[.slice a1 ya.length d1, .slice a2 yb.length d2] 29)).alloc (.cells #[.slice none 0 0, .slice none 0 0] 29))).alloc (.cells #[] 3)).heap[w.heap.size]? = some (.cells #[.slice a1 ya.length d1, .slice a2 yb.length d2] 29) := heap_old (heap_old (alloc_heap _ _))
  have bR : ((((w.alloc (.cells #[.slice a1 ya.length d1, .slice a2 yb.length d2] 29)).alloc (.cells #[.slice none 0 0, .slice none 0 0] 29))).alloc (.cells #[] 3)).heap[w.heap.size + 1]? = some (.cells #[.slice none 0 0, .slice none 0 0] 29) := heap_old (heap_at (by simp))
  have hE := Lib.hid (OwnF.empty (α := Int) (n := 1) (enc := encI) ((w.alloc (.cells #[.slice a1 ya.length d1, .slice a2 yb.length d2] 29)).alloc (.cells #[.slice none 0 0, .slice none 0 0] 29)) 3 (base := w.heap.size + 2) (by simp))
  have hz0 := Lib.hid z0
  have hN0 := Lib.hid N0
  have hbM := Lib.hid bM
  have hbR := Lib.hid bR
  clear z0 N0 bM bR
  go_wp2_with (at_builtin; refine wpList_pushesN rfl _ _ _ rfl (w.heap.size + 2) 3 _ _ Try.underlying23 LawF.infoI rfl (by omega) _ [] rfl (by have := hE.out; rw [hz0.out] at this; exact this) _ ya rfl (hsa.out.new hh hN0.out) (fun y _ _ => rfl) ?qc1 ?qc2 ?qc3 ?_)
  case qc1 => simp; omega
  case qc2 => simp; omega
  case qc3 => simp
  intro v1 w1 hv1 hk1 _
  have hk2 : One (w.heap.size + 2) ((((w.alloc (.cells #[.slice a1 ya.length d1, .slice a2 yb.length d2] 29)).alloc (.cells #[.slice none 0 0, .slice none 0 0] 29))).alloc (.cells #[] 3)) w1 := hk1.mono fun k _ e => by simpa [Value.ownBlock] using e.symm
  have N1 := New.one hN0.out hk2 (by omega)
  have bM1 := (hk2.block _ (by simp <;> omega) (by omega)).trans hbM.out
  have bR1 := (hk2.block _ (by simp <;> omega) (by omega)).trans hbR.out
  have z1 : w.heap.size + 2 < w1.heap.size := by have := hk2.size; simp at this; omega
  have hvt := Lib.hid (show ∀ b, v1.ownBlock = some b → b < w1.heap.size from fun b hb => (hv1.lt b hb).2)
  obtain ⟨a3, d3, rfl, l3⟩ := hv1.reads.len
  have kb : New w1 (w1.alloc (.cells #[.slice a3 ya.length d3, .slice none 0 0] 29)) := (Kp.refl _ _).alloc _
  have hI : CopyI w ya yb a3 d3 (.slice a1 ya.length d1) (.slice a2 yb.length d2) w1.heap.size 0 (w1.alloc (.cells #[.slice a3 ya.length d3, .slice none 0 0] 29)) :=
    ⟨N1.trans kb, heap_new kb bM1, heap_new kb bR1, by simp, by omega, ⟨hv1.new kb, hvt.out⟩, none, 0, alloc_heap _ _, by rw [List.take_zero]; exact MatO.nil _ _ _ _ _⟩
  clear hE hz0 hN0 hbM hbR hk1 hk2 N1 bM1 bR1 hv1 hvt kb
  have hIh := Lib.hid hI
  clear hI
  go_wp2_with fail
  generalize w1.heap.size = bo at *
  generalize w1.alloc (.cells #[.slice a3 ya.length d3, .slice none 0 0] 29) = wb at *
  go_loopw [4] (fun i wr => ∃ j : Nat, j ≤ yb.length ∧ i = .int .i64 j ∧ CopyI w ya yb a3 d3 (.slice a1 ya.length d1) (.slice a2 yb.length d2) bo j wr) (fun i _ => yb.length - (intOf i).toNat)
  case atStart => exact ⟨0, Nat.zero_le _, rfl, hIh.out⟩
  case round =>
    obtain ⟨j, hj, rfl, N2, bM2, bR2, q1, q2, oA, a4, d4, bO2, oM⟩ := hrel
    clear hIh
    have cM1 := cell_of_heap bM2 1
    by_cases hlt : j < yb.length
    · obtain ⟨b, o, s, rfl, hb1, hb2, c0, hs⟩ := hsb.out.at' j hlt
      have cS := (N2.cell (b := b) (by omega) (fun f => f) (o + j)).trans c0
      have hs1 := Lib.hid ((hs.new hh N2).new (by have := N2.size; omega) ((Kp.refl (fun _ => False) wr).drew))
      have hx := Lib.hid (m2 _ (List.getElem_mem (l := yb) (n := j) hlt))
      obtain ⟨vs, hO, hOl, hG⟩ := oM.grow (by omega)
      have hOl2 : vs.length = j := by rw [hOl]; simp; omega
      clear hOl c0 hs oM
      have hOh := Lib.hid hO
      have hGh := Lib.hid hG
      have hOl3 := Lib.hid hOl2
      clear hO hG hOl2
      go_wp2_with fail
      have kd := (Kp.refl (fun _ => False) wr).drew
      have hE := Lib.hid (OwnF.empty (α := Int) (n := 1) (enc := encI) wr.drew 3 (base := wr.heap.size) (Nat.le_refl _))
      have bOd := heap_new kd bO2
      have cOd := cell_of_heap bOd 1
      have bMd := heap_new kd bM2
      have cMd := cell_of_heap bMd 1
      have cSd : wr.drew.cell? ⟨b, o + j, none⟩ = some s := cS
      have kA : New wr.drew (wr.drew.alloc (.cells #[] 3)) := (Kp.refl _ _).alloc _
      have bOA := heap_new kA bOd
      have cOA := cell_of_heap bOA 1
      have bMA := heap_new kA bMd
      have cMA := cell_of_heap bMA 1
      have cSA : (wr.drew.alloc (.cells #[] 3)).cell? ⟨b, o + j, none⟩ = some s := (kA.cell (b := b) (by have := N2.size; have : wr.drew.heap.size = wr.heap.size := rfl; omega) (fun f => f) _).trans cSd
      clear cS cM1
      refine wp_region_tail (k := 12) (S := fun w' => w'.cell? ⟨w.heap.size, 1, none⟩ = some (.slice (some ⟨b, o, none⟩) yb.length d2) ∧ w'.cell? ⟨b, o + j, none⟩ = some s ∧ w'.cell? ⟨bo, 1, none⟩ = some (.slice a4 j d4)) (by kernel_rfl) ?_ (fun hHeld => ?_)
      · exact ⟨cMd, cSd, cOd⟩
      refine AnyK.takeW (i := 0) (v := ?vbq0) rfl (by kernel_rfl) (by kernel_rfl) (by kernel_rfl) (by kernel_rfl) (fun _ _ _ h => h) (Or.inl ⟨by kernel_rfl, ?ybq0⟩) (by assumption) ?rbq0
      case ybq0 =>
        intro w hSw
        try dsimp only at hSw
        go_simp
        try with_reducible rfl
      try simp only [Act.put, List.getElem_toArray, List.getElem_cons_zero, List.setIfInBounds_toArray, List.set_cons_zero, List.set_cons_succ]
      refine AnyK.take (i := 1) (v := ?vbq1) rfl (by kernel_rfl) (by kernel_rfl) (by kernel_rfl) (by kernel_rfl) (fun _ _ _ h => h) (Or.inl ⟨by kernel_rfl, ?ybq1⟩) (by assumption) ?rbq1
      case ybq1 =>
        intro w hSw
        try dsimp only at hSw
        go_simp
        try with_reducible rfl
      try simp only [Act.put, List.getElem_toArray, List.getElem_cons_zero, List.getElem_cons_succ, List.setIfInBounds_toArray, List.set_cons_zero, List.set_cons_succ]
      refine AnyK.takeW (i := 3) (v := ?vbq3) rfl (by kernel_rfl) (by kernel_rfl) (by kernel_rfl) (by kernel_rfl) (fun _ _ _ h => h) (Or.inl ⟨by kernel_rfl, ?ybq3⟩) (by assumption) ?rbq3
      case ybq3 =>
        intro w hSw
        try dsimp only at hSw
        go_simp
        try with_reducible rfl
      try simp only [Act.put, List.getElem_toArray, List.getElem_cons_zero, List.getElem_cons_succ, List.setIfInBounds_toArray, List.set_cons_zero, List.set_cons_succ]
      refine AnyK.take (i := 4) (v := ?vbq4) rfl (by kernel_rfl) (by kernel_rfl) (by kernel_rfl) (by kernel_rfl) (fun _ _ _ h => h) (Or.inl ⟨by kernel_rfl, ?ybq4⟩) (by assumption) ?rbq4
      case ybq4 =>
        intro w hSw
        try dsimp only at hSw
        go_simp
        try with_reducible rfl
      try simp only [Act.put, List.getElem_toArray, List.getElem_cons_zero, List.getElem_cons_succ, List.setIfInBounds_toArray, List.set_cons_zero, List.set_cons_succ]
      refine AnyK.takeW (i := 5) (v := ?vbq5) rfl (by kernel_rfl) (by kernel_rfl) (by kernel_rfl) (by kernel_rfl) (fun _ _ _ h => h) (Or.inl ⟨by kernel_rfl, ?ybq5⟩) (by assumption) ?rbq5
      case ybq5 =>
        intro w hSw
        try dsimp only at hSw
        go_simp
        try with_reducible rfl
      try simp only [Act.put, List.getElem_toArray, List.getElem_cons_zero, List.getElem_cons_succ, List.setIfInBounds_toArray, List.set_cons_zero, List.set_cons_succ]
      refine AnyK.takeW (i := 6) (v := ?vbq6) rfl (by kernel_rfl) (by kernel_rfl) (by kernel_rfl) (by kernel_rfl) (fun _ _ _ h => h) (Or.inl ⟨by kernel_rfl, ?ybq6⟩) (by assumption) ?rbq6
      case ybq6 =>
        intro w hSw
        try dsimp only at hSw
        go_simp
        try with_reducible rfl
      try simp only [Act.put, List.getElem_toArray, List.getElem_cons_zero, List.getElem_cons_succ, List.setIfInBounds_toArray, List.set_cons_zero, List.set_cons_succ]
      refine AnyK.take (i := 7) (v := ?vbq7) rfl (by kernel_rfl) (by kernel_rfl) (by kernel_rfl) (by kernel_rfl) (fun _ _ _ h => h) (Or.inl ⟨by kernel_rfl, ?ybq7⟩) (by assumption) ?rbq7
      case ybq7 =>
        intro w hSw
        try dsimp only at hSw
        go_simp
        try with_reducible rfl
      try simp only [Act.put, List.getElem_toArray, List.getElem_cons_zero, List.getElem_cons_succ, List.setIfInBounds_toArray, List.set_cons_zero, List.set_cons_succ]
      refine AnyK.step (i := 2) (by kernel_rfl) rfl (fun K hK => ?_)
      go_simp
      refine hK.out _ _ ?_ (fun hHeld2 => ?_)
      · exact ⟨cMA, cSA, cOA⟩
      clear hK K hHeld
      have hHeld := hHeld2
      clear hHeld2
      try simp only [Act.put, List.getElem_toArray, List.getElem_cons_zero, List.getElem_cons_succ, List.setIfInBounds_toArray, List.set_cons_zero, List.set_cons_succ]
      refine AnyK.step (i := 8) (by kernel_rfl) rfl (fun K hK => ?_)
      refine step_pushes rfl (.tmp 19) (.tmp 24) 23 rfl wr.heap.size 3 _ _ Try.underlying23 LawF.infoI rfl (by omega) (.slice (some ⟨wr.heap.size, 0, none⟩) 0 0) [] rfl hE.out _ yb[j] rfl (hs1.out.new (by have := N2.size; have : wr.drew.heap.size = wr.heap.size := rfl; omega) kA) (fun y _ _ => rfl) ?_ ?_ ?_ ?_
      · simp; have := hx.out; omega
      · simp; have := hx.out; omega
      · simp
      intro v1 w1 hv1 hk1 _
      obtain ⟨a5, d5, rfl, _⟩ := hv1.reads.len
      have hv1h := Lib.hid hv1
      have hk1h : One wr.heap.size (wr.drew.alloc (.cells #[] 3)) w1 := hk1.mono fun k _ e => by simpa [Value.ownBlock] using e.symm
      clear hv1 hk1
      have zA : (wr.drew.alloc (.cells #[] 3)).heap.size = wr.heap.size + 1 := by simp
      have z1 := hk1h.size
      have bM1 := (hk1h.block _ (by have := heap_lt bMd; have : wr.drew.heap.size = wr.heap.size := rfl; omega) (by have := heap_lt bMd; have : wr.drew.heap.size = wr.heap.size := rfl; omega)).trans bMA
      have bO1 := (hk1h.block _ (by omega) (by omega)).trans bOA
      have cM1 := cell_of_heap bM1 1
      have cO1 := cell_of_heap bO1 1
      have cS1 : w1.cell? ⟨b, o + j, none⟩ = some s := (hk1h.cell (b := b) (by have := N2.size; omega) (by have := N2.size; omega) _).trans cSA
      refine hK.out _ _ ?_ (fun hHeld2 => ?_)
      · exact ⟨cM1, cS1, cO1⟩
      clear hK K hHeld
      have hHeld := hHeld2
      clear hHeld2
      try simp only [Act.put, List.getElem_toArray, List.getElem_cons_zero, List.getElem_cons_succ, List.setIfInBounds_toArray, List.set_cons_zero, List.set_cons_succ]
      refine AnyK.step (i := 9) (by kernel_rfl) rfl (fun K hK => ?_)
      go_simp
      have kB : New w1 (w1.alloc (.cells #[.slice a5 yb[j].length d5] 23)) := (Kp.refl _ _).alloc _
      have bMB := heap_new kB bM1
      have bOB := heap_new kB bO1
      have cMB := cell_of_heap bMB 1
      have cOB := cell_of_heap bOB 1
      have cSB : (w1.alloc (.cells #[.slice a5 yb[j].length d5] 23)).cell? ⟨b, o + j, none⟩ = some s := (kB.cell (b := b) (by have := N2.size; omega) (fun f => f) _).trans cS1
      have cNB : (w1.alloc (.cells #[.slice a5 yb[j].length d5] 23)).cell? ⟨w1.heap.size, 0, none⟩ = some (.slice a5 yb[j].length d5) := cell_of_heap (alloc_heap _ _) 0
      have zB : (w1.alloc (.cells #[.slice a5 yb[j].length d5] 23)).heap.size = w1.heap.size + 1 := by simp
      have zBh := Lib.hid zB
      clear zB
      have hkb := hOh.out.lt
      have hO2 := Lib.hid (((hOh.out.new kd).new kA).kp hk1h (fun k e f => by have := hkb k e; omega))
      refine hK.out _ _ ?_ (fun hHeld2 => ?_)
      · exact ⟨cMB, cSB, cOB⟩
      clear hK K hHeld
      have hHeld := hHeld2
      clear hHeld2
      try simp only [Act.put, List.getElem_toArray, List.getElem_cons_zero, List.getElem_cons_succ, List.setIfInBounds_toArray, List.set_cons_zero, List.set_cons_succ]
      refine AnyK.step (i := 10) (by kernel_rfl) rfl (fun K hK => ?_)
      refine step_pushes rfl (.tmp 18) (.tmp 26) 27 rfl (bo + 1) 23 _ _ Try.underlying27 MatF.infoM rfl (by omega) (.slice a4 j d4) vs rfl (hO2.out.new kB) _ [.slice a5 yb[j].length d5] rfl (FlR.one (b := w1.heap.size) fun t ht => (by have e : t = 0 := (by omega); subst e; exact cNB)) ?_ ?_ ?_ ?_ ?_
      · intro y hy t
        rw [List.mem_singleton] at hy
        subst hy; rfl
      · have := hOl3.out; simp; omega
      · have := hOl3.out; simp; omega
      · have := zBh.out; omega
      intro v2 w2 hv2 hk2 hat2
      have hG2 := hGh.out _ w2 v2 (.slice a5 yb[j].length d5) yb[j] ((kd.trans (New.one kA hk1h (Nat.le_refl _))).trans kB) (hv1h.out.new kB) hk2 hat2 hv2
      have hlen2 : (vs ++ [Value.slice a5 yb[j].length d5]).length = j + 1 := by simp [hOl3.out]
      obtain ⟨a6, d6, e6, _⟩ := hv2.reads.len
      rw [hlen2] at e6
      subst e6
      have hG3 := Lib.hid hG2
      have hk3 : Kp (fun k => bo + 1 ≤ k) (w1.alloc (.cells #[.slice a5 yb[j].length d5] 23)) w2 := hk2.mono fun k _ e => (hkb k e).1
      clear hlen2 hG2 hv2 hk2 hat2
      have z2 := hk3.size
      have bM3 := (hk3.block _ (by have := zBh.out; omega) (by omega)).trans bMB
      have bO3 := (hk3.block _ (by have := zBh.out; omega) (by omega)).trans bOB
      have cM3 := cell_of_heap bM3 1
      have cO3 := cell_of_heap bO3 1
      have cO3f := frozen_of_heap bO3
      have cS3 : w2.cell? ⟨b, o + j, none⟩ = some s := (hk3.cell (b := b) (by have := N2.size; have := zBh.out; omega) (by have := N2.size; omega) _).trans cSB
      refine hK.out _ _ ?_ (fun hHeld2 => ?_)
      · exact ⟨cM3, cS3, cO3⟩
      clear hK K hHeld
      have hHeld := hHeld2
      clear hHeld2
      try simp only [Act.put, List.getElem_toArray, List.getElem_cons_zero, List.getElem_cons_succ, List.setIfInBounds_toArray, List.set_cons_zero, List.set_cons_succ]
      refine AnyK.takeW (i := 11) (v := ?vbq11) rfl (by kernel_rfl) (by kernel_rfl) (by kernel_rfl) (by kernel_rfl) (fun _ _ _ h => h) (Or.inl ⟨by kernel_rfl, ?ybq11⟩) (by assumption) ?rbq11
      case ybq11 =>
        intro w hSw
        try dsimp only at hSw
        go_simp
        try with_reducible rfl
      try simp only [Act.put, List.getElem_toArray, List.getElem_cons_zero, List.getElem_cons_succ, List.setIfInBounds_toArray, List.set_cons_zero, List.set_cons_succ]
      refine AnyK.last (by kernel_rfl) ?_
      simp only [List.drop_succ_cons, List.drop_zero]
      clear hHeld
      have zd : wr.drew.heap.size = wr.heap.size := rfl
      have kk : One bo w2 (w2.setCell ⟨bo, 1, none⟩ (.slice a6 (j + 1) d6)) := (Kp.refl (fun k => k = bo) _).setCell (.inl rfl) _
      have zk := kk.size
      have bR3 := (hk3.block _ (by have := zBh.out; have := heap_lt bR2; omega) (by omega)).trans (heap_new kB ((hk1h.block _ (by have := heap_lt bR2; omega) (by have := heap_lt bR2; omega)).trans (heap_new kA (heap_new kd bR2))))
      have NB := (New.one ((N2.trans kd).trans kA) hk1h (by have := N2.size; omega)).trans kB
      have N4 := New.one (New.on NB hk3 (fun i hi => by omega)) kk (by omega)
      have oA4 := (((((oA.new (by omega) kd).new (by omega) kA).kp hk1h (fun k e => .inr (by omega))).new (by omega) kB).kp hk3 (fun k e => .inr (by omega))).kp kk (fun k e => .inr (by omega))
      have bM4 := heap_set (o := 1) bM3 (show w.heap.size ≠ bo by omega) (.slice a6 (j + 1) d6)
      have bR4 := heap_set (o := 1) bR3 (show w.heap.size + 1 ≠ bo by omega) (.slice a6 (j + 1) d6)
      have bO4 := setCell_heap (o := 1) bO3 (.slice a6 (j + 1) d6)
      have zO := heap_lt bO4
      have hG4 := hG3.out.kp kk (fun k e => .inl (by omega))
      rw [← List.take_succ_eq_append_getElem hlt] at hG4
      have hG5 := hG4.mono (lo' := bo + 1) (hi' := (w2.setCell ⟨bo, 1, none⟩ (.slice a6 (j + 1) d6)).heap.size) (Nat.le_refl _) zk
      have hI := Lib.hid (show CopyI w ya yb a3 d3 (.slice a1 ya.length d1) (.slice (some ⟨b, o, none⟩) yb.length d2) bo (j + 1) (w2.setCell ⟨bo, 1, none⟩ (.slice a6 (j + 1) d6)) from ⟨N4, bM4, bR4, zO, q2, oA4, a6, d6, bO4, hG5⟩)
      clear bM4 bR4 bO4 oA4 N4 NB hG4 hG5 hG3 bR3 bM3 cM3 cS3 cNB cMB cOB bMB bOB cSB bM1 bO1 cM1 cO1 cS1 cMA cSA cOA bMA bOA cMd cSd cOd bMd bOd bM2 bR2 bO2 oA N2 hO2 hv1h kk zd
      go_wp2
      go_roundw
      case rel => exact ⟨j + 1, by omega, by go_num, hI.out⟩
      case measure => simp [intOf]; omega
    · have hge : yb.length ≤ j := by omega
      have oM2 := oM
      rw [List.take_of_length_le hge] at oM2
      have hj2 : j = yb.length := by omega
      subst hj2
      clear oM
      have cO0 := cell_of_heap bO2 0
      have cO1 := cell_of_heap bO2 1
      have cR0 := cell_of_heap bR2 0
      have cR1 := cell_of_heap bR2 1
      have cRf := frozen_of_heap bR2
      go_wp2
      have kz : One (w.heap.size + 1) wr ((wr.setCell ⟨w.heap.size + 1, 0, none⟩ (.slice a3 ya.length d3)).setCell ⟨w.heap.size + 1, 1, none⟩ (.slice a4 yb.length d4)) := ((Kp.refl (fun k => k = w.heap.size + 1) _).setCell (.inl rfl) _).setCell (.inl rfl) _
      have hR := setCell_heap (o := 1) (setCell_heap (o := 0) bR2 (.slice a3 ya.length d3)) (.slice a4 yb.length d4)
      refine bodyPost_ret (results_cell_row rfl _ _ _ _ _ _ _ rfl hR Try.underlying29 rfl (by kernel_rfl)) rfl ⟨_, _, rfl, New.one N2 kz (by omega), bo, by omega, by simp; omega, (oA.kp kz (fun b e => .inl (by omega))).mono (by omega) (Nat.le_refl _), (oM2.kp kz (fun b e => .inl (by omega))).mono (by omega) (by simp)⟩
end Go.Proofs.Ytljokgoghphgdaa.CopyM
