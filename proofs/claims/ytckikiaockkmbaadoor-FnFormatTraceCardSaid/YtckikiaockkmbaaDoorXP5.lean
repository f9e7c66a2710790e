/- Draws of values. Conditions: fewer than 2^40 picks so far. -/
import Derived.Test.YtckikiaockkmbaaDoorXP1
import Derived.Test.YtckikiaockkmbaaDoorXP2
import Derived.Deep.RegionHeld3
import Derived.WalkKit
import Derived.ProofKit
namespace Go.Proofs.YtckikiaockkmbaaDoor.DrawV
open Go.RowKit Kit Draw
set_option linter.unusedVariables false
set_option maxHeartbeats 1000000 in
theorem l3Value (w : World) (br p : Nat) (h : Rd w br p) (hp : p < 1099511627776) :
    Calls Tryd.prog 73 #[.pointer (some ⟨br, 0, none⟩)] w (Drawn w br p (fun x => 0 ≤ x ∧ x ≤ 255)) := by
  have hbl := h.lt
  go_enter Tryd.func73, Tryd.ntmps73
  go_wp2_with fail
  refine (num _ br p _ 9 _ (fun x => 0 ≤ x ∧ x ≤ 255) (h.keep (S := fun _ => False) ((Kp.refl _ _).alloc _) (fun _ f => f.elim)) hp (by omega) (by omega) (by omega) ?_).mono ?_
  · intro i hi
    match i, hi with
    | 0, _ => exact ⟨_, by decide, World.cell?_alloc_new _ _ _ _⟩
    | 1, _ => exact ⟨_, by decide, World.cell?_alloc_new _ _ _ _⟩
    | 2, _ => exact ⟨_, by decide, World.cell?_alloc_new _ _ _ _⟩
    | 3, _ => exact ⟨_, by decide, World.cell?_alloc_new _ _ _ _⟩
    | 4, _ => exact ⟨_, by decide, World.cell?_alloc_new _ _ _ _⟩
    | 5, _ => exact ⟨_, by decide, World.cell?_alloc_new _ _ _ _⟩
    | 6, _ => exact ⟨_, by decide, World.cell?_alloc_new _ _ _ _⟩
    | 7, _ => exact ⟨_, by decide, World.cell?_alloc_new _ _ _ _⟩
    | 8, _ => exact ⟨_, by decide, World.cell?_alloc_new _ _ _ _⟩
  · rintro e w2 ⟨x, rfl, hx, k2, h2⟩
    have kk : One br w w2 := ((Kp.refl (fun k => k = br) w).alloc _).trans k2
    have hxh := Lib.hid hx
    clear hx
    go_wp2
    go_ret
    exact ⟨x, rfl, hxh.out, kk, h2⟩
end Go.Proofs.YtckikiaockkmbaaDoor.DrawV

/- spec.l3Copy: a memory of the call's own with the same values. Condition: bounds on the lengths. -/
namespace Go.Proofs.YtckikiaockkmbaaDoor.CopyM
open Go.RowKit Kit
set_option linter.unusedVariables false
def CopyI (w : World) (ya : List Int) (yb : List (List Int)) (a1 : Option Addr) (d1 : Nat) (m1 m2 : Value) (bo : Nat) (j : Nat) (wr : World) : Prop := New w wr ∧ wr.heap[w.heap.size]? = some (.cells #[m1, m2] 101) ∧ wr.heap[w.heap.size + 1]? = some (.cells #[.slice none 0 0, .slice none 0 0] 101) ∧
  bo < wr.heap.size ∧ w.heap.size + 2 ≤ bo ∧ OwnR 1 encI wr (w.heap.size + 2) bo 3 (.slice a1 ya.length d1) ya ∧ ∃ a2 d2, wr.heap[bo]? = some (.cells #[.slice a1 ya.length d1, .slice a2 j d2] 101) ∧ MatO wr (bo + 1) wr.heap.size 29 3 (.slice a2 j d2) (yb.take j)
set_option maxHeartbeats 2000000 in
set_option maxRecDepth 100000 in
theorem l3Copy (w : World) (lo hi : Nat) (va vb : Value) (ya : List Int) (yb : List (List Int)) (sa : IntsR w lo hi va ya) (sb : MatR w lo hi vb yb) (hh : hi ≤ w.heap.size) (m0 : ya.length ≤ 1099511627776) (m1 : yb.length ≤ 1073741824) (m2 : ∀ x ∈ yb, x.length ≤ 1099511627776) :
    Calls Tryd.prog 71 #[.agg #[va, vb]] w fun e w' => ∃ ua ub, e = .returned (.agg #[ua, ub]) ∧ New w w' ∧ MarkC.MemO w' w.heap.size w'.heap.size ua ub ya yb := by
  obtain ⟨a1, d1, rfl, l1⟩ := sa.len
  obtain ⟨a2, d2, rfl, l2⟩ := sb.len
  have hsa := Lib.hid sa
  have hsb := Lib.hid sb
  clear sa sb
  go_enter Tryd.func71, Tryd.ntmps71
  have N0 : New w ((((w.alloc (.cells #[.slice a1 ya.length d1, .slice a2 yb.length d2] 101)).alloc (.cells #[.slice none 0 0, .slice none 0 0] 101))).alloc (.cells #[] 3)) := (((Kp.refl _ _).alloc _).alloc _).alloc _
  have z0 : ((w.alloc (.cells #[.slice a1 ya.length d1, .slice a2 yb.length d2] 101)).alloc (.cells #[.slice none 0 0, .slice none 0 0] 101)).heap.size = w.heap.size + 2 := by simp
  have bM : ((((w.alloc (.cells #[.slice a1 ya.length d1, .slice a2 yb.length d2] 101)).alloc (.cells #[.slice none 0 0, .slice none 0 0] 101))).alloc (.cells #[] 3)).heap[w.heap.size]? = some (.cells #[.slice a1 ya.length d1, .slice a2 yb.length d2] 101) := heap_old (heap_old (alloc_heap _ _))
  have bR : ((((w.alloc (.cells #[.slice a1 ya.length d1, .slice a2 yb.length d2] 101)).alloc (.cells #[.slice none 0 0, .slice none 0 0] 101))).alloc (.cells #[] 3)).heap[w.heap.size + 1]? = some (.cells #[.slice none 0 0, .slice none 0 0] 101) := heap_old (heap_at (by simp))
  have hE := Lib.hid (OwnF.empty (α := Int) (n := 1) (enc := encI) ((w.alloc (.cells #[.slice a1 ya.length d1, .slice a2 yb.length d2] 101)).alloc (.cells #[.slice none 0 0, .slice none 0 0] 101)) 3 (base := w.heap.size + 2) (by simp))
  have hz0 := Lib.hid z0
  have hN0 := Lib.hid N0
  have hbM := Lib.hid bM
  have hbR := Lib.hid bR
  clear z0 N0 bM bR
  go_wp2_with (at_builtin; refine wpList_pushesN rfl _ _ _ rfl (w.heap.size + 2) 3 _ _ Tryd.underlying29 LawF.infoI rfl (by omega) _ [] rfl (by have := hE.out; rw [hz0.out] at this; exact this) _ ya rfl (hsa.out.new hh hN0.out) (fun y _ _ => rfl) ?qc1 ?qc2 ?qc3 ?_)
  case qc1 => simp; omega
  case qc2 => simp; omega
  case qc3 => simp
  intro v1 w1 hv1 hk1 _
  have hk2 : One (w.heap.size + 2) ((((w.alloc (.cells #[.slice a1 ya.length d1, .slice a2 yb.length d2] 101)).alloc (.cells #[.slice none 0 0, .slice none 0 0] 101))).alloc (.cells #[] 3)) w1 := hk1.mono fun k _ e => by simpa [Value.ownBlock] using e.symm
  have N1 := New.one hN0.out hk2 (by omega)
  have bM1 := (hk2.block _ (by simp <;> omega) (by omega)).trans hbM.out
  have bR1 := (hk2.block _ (by simp <;> omega) (by omega)).trans hbR.out
  have z1 : w.heap.size + 2 < w1.heap.size := by have := hk2.size; simp at this; omega
  have hvt := Lib.hid (show ∀ b, v1.ownBlock = some b → b < w1.heap.size from fun b hb => (hv1.lt b hb).2)
  obtain ⟨a3, d3, rfl, l3⟩ := hv1.reads.len
  have kb : New w1 (w1.alloc (.cells #[.slice a3 ya.length d3, .slice none 0 0] 101)) := (Kp.refl _ _).alloc _
  have hI : CopyI w ya yb a3 d3 (.slice a1 ya.length d1) (.slice a2 yb.length d2) w1.heap.size 0 (w1.alloc (.cells #[.slice a3 ya.length d3, .slice none 0 0] 101)) :=
    ⟨N1.trans kb, heap_new kb bM1, heap_new kb bR1, by simp, by omega, ⟨hv1.new kb, hvt.out⟩, none, 0, alloc_heap _ _, by rw [List.take_zero]; exact MatO.nil _ _ _ _ _⟩
  clear hE hz0 hN0 hbM hbR hk1 hk2 N1 bM1 bR1 hv1 hvt kb
  have hIh := Lib.hid hI
  clear hI
  go_wp2_with fail
  generalize w1.heap.size = bo at *
  generalize w1.alloc (.cells #[.slice a3 ya.length d3, .slice none 0 0] 101) = wb at *
  go_loopw [4] (fun i wr => ∃ j : Nat, j ≤ yb.length ∧ i = .int .i64 j ∧ CopyI w ya yb a3 d3 (.slice a1 ya.length d1) (.slice a2 yb.length d2) bo j wr) (fun i _ => yb.length - (intOf i).toNat)
  case atStart => exact ⟨0, Nat.zero_le _, rfl, hIh.out⟩
  case round =>
    obtain ⟨j, hj, rfl, N2, bM2, bR2, q1, q2, oA, a4, d4, bO2, oM⟩ := hrel
    clear hIh
    have cM1 := cell_of_heap bM2 1
    by_cases hlt : j < yb.length
    · obtain ⟨b, o, s, rfl, hb1, hb2, c0, hs⟩ := hsb.out.at' j hlt
      have cS := (N2.cell (b := b) (by omega) (fun f => f) (o + j)).trans c0
      have hs1 := Lib.hid ((hs.new hh N2).new (by have := N2.size; omega) ((Kp.refl (fun _ => False) wr).drew))
      have hx := Lib.hid (m2 _ (List.getElem_mem (l := yb) (n := j) hlt))
      obtain ⟨vs, hO, hOl, hG⟩ := oM.grow (by omega)
      have hOl2 : vs.length = j := by rw [hOl]; simp; omega
      clear hOl c0 hs oM
      have hOh := Lib.hid hO
      have hGh := Lib.hid hG
      have hOl3 := Lib.hid hOl2
      clear hO hG hOl2
      go_wp2_with fail
      have kd := (Kp.refl (fun _ => False) wr).drew
      have hE := Lib.hid (OwnF.empty (α := Int) (n := 1) (enc := encI) wr.drew 3 (base := wr.heap.size) (Nat.le_refl _))
      have bOd := heap_new kd bO2
      have cOd := cell_of_heap bOd 1
      have bMd := heap_new kd bM2
      have cMd := cell_of_heap bMd 1
      have cSd : wr.drew.cell? ⟨b, o + j, none⟩ = some s := cS
      have kA : New wr.drew (wr.drew.alloc (.cells #[] 3)) := (Kp.refl _ _).alloc _
      have bOA := heap_new kA bOd
      have cOA := cell_of_heap bOA 1
      have bMA := heap_new kA bMd
      have cMA := cell_of_heap bMA 1
      have cSA : (wr.drew.alloc (.cells #[] 3)).cell? ⟨b, o + j, none⟩ = some s := (kA.cell (b := b) (by have := N2.size; have : wr.drew.heap.size = wr.heap.size := rfl; omega) (fun f => f) _).trans cSd
      clear cS cM1
      refine wp_region_tail (k := 12) (S := fun w' => w'.cell? ⟨w.heap.size, 1, none⟩ = some (.slice (some ⟨b, o, none⟩) yb.length d2) ∧ w'.cell? ⟨b, o + j, none⟩ = some s ∧ w'.cell? ⟨bo, 1, none⟩ = some (.slice a4 j d4)) (by kernel_rfl) ?_ (fun hHeld => ?_)
      · exact ⟨cMd, cSd, cOd⟩
      refine AnyK.tw 0 rfl ?_
      try simp only [AP]
      refine AnyK.tk 1 rfl ?_
      try simp only [AP]
      refine AnyK.tw 3 rfl ?_
      try simp only [AP]
      refine AnyK.tk 4 rfl ?_
      try simp only [AP]
      refine AnyK.tw 5 rfl ?_
      try simp only [AP]
      refine AnyK.tw 6 rfl ?_
      try simp only [AP]
      refine AnyK.tk 7 rfl ?_
      try simp only [AP]
      refine AnyK.step (i := 2) (by kernel_rfl) rfl (fun K hK => ?_)
      go_simp
      refine hK.out _ _ ?_ (fun hHeld2 => ?_)
      · exact ⟨cMA, cSA, cOA⟩
      clear hK K hHeld
      have hHeld := hHeld2
      clear hHeld2
      try simp only [AP]
      refine AnyK.step (i := 8) (by kernel_rfl) rfl (fun K hK => ?_)
      refine step_pushes rfl (.tmp 19) (.tmp 24) 29 rfl wr.heap.size 3 _ _ Tryd.underlying29 LawF.infoI rfl (by omega) (.slice (some ⟨wr.heap.size, 0, none⟩) 0 0) [] rfl hE.out _ yb[j] rfl (hs1.out.new (by have := N2.size; have : wr.drew.heap.size = wr.heap.size := rfl; omega) kA) (fun y _ _ => rfl) ?_ ?_ ?_ ?_
      · simp; have := hx.out; omega
      · simp; have := hx.out; omega
      · simp
      intro v1 w1 hv1 hk1 _
      obtain ⟨a5, d5, rfl, _⟩ := hv1.reads.len
      have hv1h := Lib.hid hv1
      have hk1h : One wr.heap.size (wr.drew.alloc (.cells #[] 3)) w1 := hk1.mono fun k _ e => by simpa [Value.ownBlock] using e.symm
      clear hv1 hk1
      have zA : (wr.drew.alloc (.cells #[] 3)).heap.size = wr.heap.size + 1 := by simp
      have z1 := hk1h.size
      have bM1 := (hk1h.block _ (by have := heap_lt bMd; have : wr.drew.heap.size = wr.heap.size := rfl; omega) (by have := heap_lt bMd; have : wr.drew.heap.size = wr.heap.size := rfl; omega)).trans bMA
      have bO1 := (hk1h.block _ (by omega) (by omega)).trans bOA
      have cM1 := cell_of_heap bM1 1
      have cO1 := cell_of_heap bO1 1
      have cS1 : w1.cell? ⟨b, o + j, none⟩ = some s := (hk1h.cell (b := b) (by have := N2.size; omega) (by have := N2.size; omega) _).trans cSA
      refine hK.out _ _ ?_ (fun hHeld2 => ?_)
      · exact ⟨cM1, cS1, cO1⟩
      clear hK K hHeld
      have hHeld := hHeld2
      clear hHeld2
      try simp only [AP]
      refine AnyK.step (i := 9) (by kernel_rfl) rfl (fun K hK => ?_)
      go_simp
      have kB : New w1 (w1.alloc (.cells #[.slice a5 yb[j].length d5] 29)) := (Kp.refl _ _).alloc _
      have bMB := heap_new kB bM1
      have bOB := heap_new kB bO1
      have cMB := cell_of_heap bMB 1
      have cOB := cell_of_heap bOB 1
      have cSB : (w1.alloc (.cells #[.slice a5 yb[j].length d5] 29)).cell? ⟨b, o + j, none⟩ = some s := (kB.cell (b := b) (by have := N2.size; omega) (fun f => f) _).trans cS1
      have cNB : (w1.alloc (.cells #[.slice a5 yb[j].length d5] 29)).cell? ⟨w1.heap.size, 0, none⟩ = some (.slice a5 yb[j].length d5) := cell_of_heap (alloc_heap _ _) 0
      have zB : (w1.alloc (.cells #[.slice a5 yb[j].length d5] 29)).heap.size = w1.heap.size + 1 := by simp
      have zBh := Lib.hid zB
      clear zB
      have hkb := hOh.out.lt
      have hO2 := Lib.hid (((hOh.out.new kd).new kA).kp hk1h (fun k e f => by have := hkb k e; omega))
      refine hK.out _ _ ?_ (fun hHeld2 => ?_)
      · exact ⟨cMB, cSB, cOB⟩
      clear hK K hHeld
      have hHeld := hHeld2
      clear hHeld2
      try simp only [AP]
      refine AnyK.step (i := 10) (by kernel_rfl) rfl (fun K hK => ?_)
      refine step_pushes rfl (.tmp 18) (.tmp 26) 99 rfl (bo + 1) 29 _ _ Tryd.underlying99 MatF.infoM rfl (by omega) (.slice a4 j d4) vs rfl (hO2.out.new kB) _ [.slice a5 yb[j].length d5] rfl (FlR.one (b := w1.heap.size) fun t ht => (by have e : t = 0 := (by omega); subst e; exact cNB)) ?_ ?_ ?_ ?_ ?_
      · intro y hy t
        rw [List.mem_singleton] at hy
        subst hy; rfl
      · have := hOl3.out; simp; omega
      · have := hOl3.out; simp; omega
      · have := zBh.out; omega
      intro v2 w2 hv2 hk2 hat2
      have hG2 := hGh.out _ w2 v2 (.slice a5 yb[j].length d5) yb[j] ((kd.trans (New.one kA hk1h (Nat.le_refl _))).trans kB) (hv1h.out.new kB) hk2 hat2 hv2
      have hlen2 : (vs ++ [Value.slice a5 yb[j].length d5]).length = j + 1 := by simp [hOl3.out]
      obtain ⟨a6, d6, e6, _⟩ := hv2.reads.len
      rw [hlen2] at e6
      subst e6
      have hG3 := Lib.hid hG2
      have hk3 : Kp (fun k => bo + 1 ≤ k) (w1.alloc (.cells #[.slice a5 yb[j].length d5] 29)) w2 := hk2.mono fun k _ e => (hkb k e).1
      clear hlen2 hG2 hv2 hk2 hat2
      have z2 := hk3.size
      have bM3 := (hk3.block _ (by have := zBh.out; omega) (by omega)).trans bMB
      have bO3 := (hk3.block _ (by have := zBh.out; omega) (by omega)).trans bOB
      have cM3 := cell_of_heap bM3 1
      have cO3 := cell_of_heap bO3 1
      have cO3f := frozen_of_heap bO3
      have cS3 : w2.cell? ⟨b, o + j, none⟩ = some s := (hk3.cell (b := b) (by have := N2.size; have := zBh.out; omega) (by have := N2.size; omega) _).trans cSB
      refine hK.out _ _ ?_ (fun hHeld2 => ?_)
      · exact ⟨cM3, cS3, cO3⟩
      clear hK K hHeld
      have hHeld := hHeld2
      clear hHeld2
      try simp only [AP]
      refine AnyK.tw 11 rfl ?_
      try simp only [AP]
      refine AnyK.last (by kernel_rfl) ?_
      simp only [List.drop_succ_cons, List.drop_zero]
      clear hHeld
      have zd : wr.drew.heap.size = wr.heap.size := rfl
      have kk : One bo w2 (w2.setCell ⟨bo, 1, none⟩ (.slice a6 (j + 1) d6)) := (Kp.refl (fun k => k = bo) _).setCell (.inl rfl) _
      have zk := kk.size
      have bR3 := (hk3.block _ (by have := zBh.out; have := heap_lt bR2; omega) (by omega)).trans (heap_new kB ((hk1h.block _ (by have := heap_lt bR2; omega) (by have := heap_lt bR2; omega)).trans (heap_new kA (heap_new kd bR2))))
      have NB := (New.one ((N2.trans kd).trans kA) hk1h (by have := N2.size; omega)).trans kB
      have N4 := New.one (New.on NB hk3 (fun i hi => by omega)) kk (by omega)
      have oA4 := (((((oA.new (by omega) kd).new (by omega) kA).kp hk1h (fun k e => .inr (by omega))).new (by omega) kB).kp hk3 (fun k e => .inr (by omega))).kp kk (fun k e => .inr (by omega))
      have bM4 := heap_set (o := 1) bM3 (show w.heap.size ≠ bo by omega) (.slice a6 (j + 1) d6)
      have bR4 := heap_set (o := 1) bR3 (show w.heap.size + 1 ≠ bo by omega) (.slice a6 (j + 1) d6)
      have bO4 := setCell_heap (o := 1) bO3 (.slice a6 (j + 1) d6)
      have zO := heap_lt bO4
      have hG4 := hG3.out.kp kk (fun k e => .inl (by omega))
      rw [← List.take_succ_eq_append_getElem hlt] at hG4
      have hG5 := hG4.mono (lo' := bo + 1) (hi' := (w2.setCell ⟨bo, 1, none⟩ (.slice a6 (j + 1) d6)).heap.size) (Nat.le_refl _) zk
      have hI := Lib.hid (show CopyI w ya yb a3 d3 (.slice a1 ya.length d1) (.slice (some ⟨b, o, none⟩) yb.length d2) bo (j + 1) (w2.setCell ⟨bo, 1, none⟩ (.slice a6 (j + 1) d6)) from ⟨N4, bM4, bR4, zO, q2, oA4, a6, d6, bO4, hG5⟩)
      clear bM4 bR4 bO4 oA4 N4 NB hG4 hG5 hG3 bR3 bM3 cM3 cS3 cNB cMB cOB bMB bOB cSB bM1 bO1 cM1 cO1 cS1 cMA cSA cOA bMA bOA cMd cSd cOd bMd bOd bM2 bR2 bO2 oA N2 hO2 hv1h kk zd
      go_wp2
      go_roundw
      case rel => exact ⟨j + 1, by omega, by go_num, hI.out⟩
      case measure => simp [intOf]; omega
    · have hge : yb.length ≤ j := by omega
      have oM2 := oM
      rw [List.take_of_length_le hge] at oM2
      have hj2 : j = yb.length := by omega
      subst hj2
      clear oM
      obtain ⟨cO0, cO1⟩ := cells2 bO2
      obtain ⟨cR0, cR1⟩ := cells2 bR2
      have cRf := frozen_of_heap bR2
      go_wp2
      have kz : One (w.heap.size + 1) wr ((wr.setCell ⟨w.heap.size + 1, 0, none⟩ (.slice a3 ya.length d3)).setCell ⟨w.heap.size + 1, 1, none⟩ (.slice a4 yb.length d4)) := ((Kp.refl (fun k => k = w.heap.size + 1) _).setCell (.inl rfl) _).setCell (.inl rfl) _
      have hR := setCell_heap (o := 1) (setCell_heap (o := 0) bR2 (.slice a3 ya.length d3)) (.slice a4 yb.length d4)
      refine bodyPost_ret (results_cell_row rfl _ _ _ _ _ _ _ rfl hR Tryd.underlying101 rfl (by kernel_rfl)) rfl ⟨_, _, rfl, New.one N2 kz (by omega), .of bo (by omega) (by simp; omega) ((oA.kp kz (fun b e => .inl (by omega))).mono (by omega) (Nat.le_refl _)) ((oM2.kp kz (fun b e => .inl (by omega))).mono (by omega) (by simp))⟩
end Go.Proofs.YtckikiaockkmbaaDoor.CopyM

/- sz, to, eq of laws for Memory. Condition: at most 2^20 elements. -/
namespace Go.Proofs.YtckikiaockkmbaaDoor.MemF
open Go.RowKit Kit
set_option linter.unusedVariables false
end Go.Proofs.YtckikiaockkmbaaDoor.MemF

/- Machine: a struct with a Memory inside. Condition: at most 2^20 elements. -/
namespace Go.Proofs.YtckikiaockkmbaaDoor.MachF
open Go.RowKit Kit
set_option linter.unusedVariables false
end Go.Proofs.YtckikiaockkmbaaDoor.MachF

/- szCode, toCode, eqCode of laws: a struct of three flat lists. Condition: at most 2^20 elements. -/
namespace Go.Proofs.YtckikiaockkmbaaDoor.CodeF
open Go.RowKit Kit
set_option linter.unusedVariables false
end Go.Proofs.YtckikiaockkmbaaDoor.CodeF

/- Readings of memories, machines and codes as one fact each, and the laws' comparisons of equals. No conditions. -/
namespace Go.Proofs.YtckikiaockkmbaaDoor.Rec
open Go.RowKit Kit
set_option linter.unusedVariables false
def MemR (w : World) (lo hi : Nat) (va vb : Value) (ya : List Int) (yb : List (List Int)) : Prop := IntsR w lo hi va ya ∧ MatR w lo hi vb yb
theorem MemR.kp {w w' : World} {lo hi : Nat} {va vb : Value} {ya : List Int} {yb : List (List Int)} (h : MemR w lo hi va vb ya yb) {S : Nat → Prop} (k : Kp S w w') (hh : hi ≤ w.heap.size) (hs : ∀ b, S b → b < lo ∨ hi ≤ b) : MemR w' lo hi va vb ya yb := ⟨h.1.kp k hh hs, h.2.kp k hh hs⟩
theorem MemR.new {w w' : World} {lo hi : Nat} {va vb : Value} {ya : List Int} {yb : List (List Int)} (h : MemR w lo hi va vb ya yb) (hh : hi ≤ w.heap.size) (k : New w w') : MemR w' lo hi va vb ya yb := ⟨h.1.new hh k, h.2.new hh k⟩
theorem MemR.mono {w : World} {lo hi lo' hi' : Nat} {va vb : Value} {ya : List Int} {yb : List (List Int)} (h : MemR w lo hi va vb ya yb) (h1 : lo' ≤ lo) (h2 : hi ≤ hi') : MemR w lo' hi' va vb ya yb := ⟨h.1.mono h1 h2, h.2.mono h1 h2⟩
theorem MemR.lens {w : World} {lo hi : Nat} {va vb : Value} {ya : List Int} {yb : List (List Int)} (h : MemR w lo hi va vb ya yb) : (∃ a d, va = .slice a ya.length d) ∧ ∃ a d, vb = .slice a yb.length d := by
  obtain ⟨a, d, e, _⟩ := h.1.len
  obtain ⟨a', d', e', _⟩ := h.2.len
  exact ⟨⟨a, d, e⟩, a', d', e'⟩
def MachR (w : World) (lo hi : Nat) (vr va vb : Value) (yr ya : List Int) (yb : List (List Int)) : Prop := IntsR w lo hi vr yr ∧ IntsR w lo hi va ya ∧ MatR w lo hi vb yb
theorem MachR.kp {w w' : World} {lo hi : Nat} {vr va vb : Value} {yr ya : List Int} {yb : List (List Int)} (h : MachR w lo hi vr va vb yr ya yb) {S : Nat → Prop} (k : Kp S w w') (hh : hi ≤ w.heap.size) (hs : ∀ b, S b → b < lo ∨ hi ≤ b) : MachR w' lo hi vr va vb yr ya yb := ⟨h.1.kp k hh hs, h.2.1.kp k hh hs, h.2.2.kp k hh hs⟩
theorem MachR.new {w w' : World} {lo hi : Nat} {vr va vb : Value} {yr ya : List Int} {yb : List (List Int)} (h : MachR w lo hi vr va vb yr ya yb) (hh : hi ≤ w.heap.size) (k : New w w') : MachR w' lo hi vr va vb yr ya yb := ⟨h.1.new hh k, h.2.1.new hh k, h.2.2.new hh k⟩
theorem MachR.mono {w : World} {lo hi lo' hi' : Nat} {vr va vb : Value} {yr ya : List Int} {yb : List (List Int)} (h : MachR w lo hi vr va vb yr ya yb) (h1 : lo' ≤ lo) (h2 : hi ≤ hi') : MachR w lo' hi' vr va vb yr ya yb := ⟨h.1.mono h1 h2, h.2.1.mono h1 h2, h.2.2.mono h1 h2⟩
theorem MachR.lens {w : World} {lo hi : Nat} {vr va vb : Value} {yr ya : List Int} {yb : List (List Int)} (h : MachR w lo hi vr va vb yr ya yb) : (∃ a d, vr = .slice a yr.length d) ∧ (∃ a d, va = .slice a ya.length d) ∧ ∃ a d, vb = .slice a yb.length d := by
  obtain ⟨a, d, e, _⟩ := h.1.len
  obtain ⟨a', d', e', _⟩ := h.2.1.len
  obtain ⟨a2, d2, e2, _⟩ := h.2.2.len
  exact ⟨⟨a, d, e⟩, ⟨a', d', e'⟩, a2, d2, e2⟩
def CodeR (w : World) (lo hi : Nat) (va vb vc : Value) (xa xb : List Int) (x : List Ins) : Prop := IntsR w lo hi va xa ∧ IntsR w lo hi vb xb ∧ InssR w lo hi vc x
theorem CodeR.kp {w w' : World} {lo hi : Nat} {va vb vc : Value} {xa xb : List Int} {x : List Ins} (h : CodeR w lo hi va vb vc xa xb x) {S : Nat → Prop} (k : Kp S w w') (hh : hi ≤ w.heap.size) (hs : ∀ b, S b → b < lo ∨ hi ≤ b) : CodeR w' lo hi va vb vc xa xb x := ⟨h.1.kp k hh hs, h.2.1.kp k hh hs, h.2.2.kp k hh hs⟩
theorem CodeR.new {w w' : World} {lo hi : Nat} {va vb vc : Value} {xa xb : List Int} {x : List Ins} (h : CodeR w lo hi va vb vc xa xb x) (hh : hi ≤ w.heap.size) (k : New w w') : CodeR w' lo hi va vb vc xa xb x := ⟨h.1.new hh k, h.2.1.new hh k, h.2.2.new hh k⟩
theorem CodeR.lens {w : World} {lo hi : Nat} {va vb vc : Value} {xa xb : List Int} {x : List Ins} (h : CodeR w lo hi va vb vc xa xb x) : (∃ a d, va = .slice a xa.length d) ∧ (∃ a d, vb = .slice a xb.length d) ∧ ∃ a d, vc = .slice a x.length d := by
  obtain ⟨a, d, e, _⟩ := h.1.len
  obtain ⟨a', d', e', _⟩ := h.2.1.len
  obtain ⟨a2, d2, e2, _⟩ := h.2.2.len
  exact ⟨⟨a, d, e⟩, ⟨a', d', e'⟩, a2, d2, e2⟩
theorem lt_alloc (w : World) (o : Obj) : w.heap.size < (w.alloc o).heap.size := by simp
/-- a list, or none of it -/
def pk {α : Type} (t : Bool) (l : List α) : List α := if t then l else []
end Go.Proofs.YtckikiaockkmbaaDoor.Rec

/- One change of a machine's register, variable or element, in the ownership of the whole machine. No conditions. -/
namespace Go.Proofs.YtckikiaockkmbaaDoor.MarkC
open Go.RowKit Kit
set_option linter.unusedVariables false
theorem own_cells {w : World} {base n d : Nat} {a : Option Addr} {T : TypeId} {xs : List Int} (h : OwnF 1 encI w base T (.slice a n d) xs) (h0 : 0 < xs.length) :
    n = xs.length ∧ ∃ b, a = some ⟨b, 0, none⟩ ∧ (∀ i (h : i < xs.length), w.cell? ⟨b, i, none⟩ = some (.int .i64 xs[i])) ∧ ∀ i, w.frozen? ⟨b, i, none⟩ = false := by
  rcases h.form with ⟨e, _⟩ | ⟨b, cap, cs, e, hb, _, _, hh, hn, hc⟩
  · subst e; exact absurd h0 (Nat.lt_irrefl _)
  · cases e
    refine ⟨rfl, b, rfl, fun i hi => ?_, fun i => frozen_of_heap hh i⟩
    have := hc i hi 0 (by omega)
    rw [Nat.mul_one, Nat.add_zero] at this
    exact (cell_of_heap hh i).trans this
theorem ownBlock_at (b n d : Nat) : (Value.slice (some ⟨b, 0, none⟩) n d).ownBlock = some b := by simp [Value.ownBlock]
theorem OwnR_set {w : World} {lo hi b n d : Nat} {T : TypeId} {xs : List Int} (h : OwnR 1 encI w lo hi T (.slice (some ⟨b, 0, none⟩) n d) xs) (hn : n = xs.length) (j : Nat) (hj : j < xs.length) (z : Int) :
    OwnR 1 encI (w.setCell ⟨b, j, none⟩ (.int .i64 z)) lo hi T (.slice (some ⟨b, 0, none⟩) n d) (xs.set j z) := by
  subst hn
  exact ⟨h.own.set1 (enc := encI) j hj z, h.top⟩
theorem MachO.vals {w : World} {lo hi n d : Nat} {a : Option Addr} {vr vb : Value} {yr ya : List Int} {yb : List (List Int)} (h : MachO w lo hi vr (.slice a n d) vb yr ya yb) (h0 : 0 < ya.length) :
    ∃ b, a = some ⟨b, 0, none⟩ ∧ lo ≤ b ∧ b < hi ∧ (∀ i (h : i < ya.length), w.cell? ⟨b, i, none⟩ = some (.int .i64 ya[i])) ∧ (∀ i, w.frozen? ⟨b, i, none⟩ = false) ∧
      ∀ j (hj : j < ya.length) z, MachO (w.setCell ⟨b, j, none⟩ (.int .i64 z)) lo hi vr (.slice a n d) vb yr (ya.set j z) yb := by
  obtain ⟨p1, p2, p3, p4, q1, q2, q3, q4, q5, A, m1, m2, m3, m4, r1, r2, r3, r4, r5, B, C⟩ := h
  obtain ⟨hn, b, rfl, hc, hf⟩ := own_cells B.own h0
  have hl := B.own.lt b (ownBlock_at _ _ _)
  have ht := B.top b (ownBlock_at _ _ _)
  refine ⟨b, rfl, by omega, by omega, hc, hf, fun j hj z => ⟨p1, p2, p3, p4, q1, q2, q3, q4, q5, A.kp (S := fun x => x = b) ((Kp.refl (fun x => x = b) w).setCell (.inl rfl) _) (fun x e => by omega), m1, m2, m3, m4, r1, r2, r3, r4, r5, OwnR_set B hn j hj z, C.kp (S := fun x => x = b) ((Kp.refl (fun x => x = b) w).setCell (.inl rfl) _) (fun x e => by omega)⟩⟩
theorem MachO.rows {w : World} {lo hi n d : Nat} {a : Option Addr} {vr va : Value} {yr ya : List Int} {yb : List (List Int)} (h : MachO w lo hi vr va (.slice a n d) yr ya yb) (k : Nat) (hk : k < yb.length) (h0 : 0 < yb[k].length) :
    ∃ b c d2, a = some ⟨b, 0, none⟩ ∧ lo ≤ b ∧ b < hi ∧ w.cell? ⟨b, k, none⟩ = some (.slice (some ⟨c, 0, none⟩) yb[k].length d2) ∧ lo ≤ c ∧ c < hi ∧ (∀ i (h : i < yb[k].length), w.cell? ⟨c, i, none⟩ = some (.int .i64 yb[k][i])) ∧ (∀ i, w.frozen? ⟨c, i, none⟩ = false) ∧
      ∀ j (hj : j < yb[k].length) z, MachO (w.setCell ⟨c, j, none⟩ (.int .i64 z)) lo hi vr va (.slice a n d) yr ya (yb.set k (yb[k].set j z)) := by
  obtain ⟨p1, p2, p3, p4, q1, q2, q3, q4, q5, A, m1, m2, m3, m4, r1, r2, r3, r4, r5, B, C⟩ := h
  obtain ⟨b, s, rfl, hb1, hb2, hcell, hO, hne, hset⟩ := C.row k hk
  rcases hO.form with ⟨e, _⟩ | ⟨c, cap, cs, rfl, hc1, _, _, hh, hn, hc⟩
  · rw [e] at h0; exact absurd h0 (Nat.lt_irrefl _)
  · have hcc := hne c (ownBlock_at _ _ _)
    obtain ⟨_, c', e', hcs, hf⟩ := own_cells hO h0
    cases e'
    refine ⟨b, c, cap, rfl, by omega, by omega, hcell, by omega, by omega, hcs, hf, fun j hj z => ?_⟩
    have kk : Kp (fun x => x = c) w (w.setCell ⟨c, j, none⟩ (.int .i64 z)) := (Kp.refl (fun x => x = c) w).setCell (.inl rfl) _
    refine ⟨p1, p2, p3, p4, q1, q2, q3, q4, q5, A.kp kk (fun x e => by omega), m1, m2, m3, m4, r1, r2, r3, r4, r5, B.kp kk (fun x e => by omega), hset _ _ (kk.mono fun x _ e => by subst e; exact ownBlock_at _ _ _) (hO.set1 (enc := encI) j hj z)⟩
end Go.Proofs.YtckikiaockkmbaaDoor.MarkC

/- What valid code is, in plain words: as the reference says it, as the program says it; they agree. No program in sight; no conditions. -/
namespace Go.Proofs.YtckikiaockkmbaaDoor.Val
open Go.RowKit Kit
set_option linter.unusedVariables false
/-- the letters of the fields of an operation: the reference's, the program's -/
def lettersS (op : Int) : List UInt8 := if op = 1 then [114, 99] else if op = 2 then [114, 118] else if op = 3 then [118, 114] else if op = 4 then [114, 97, 114] else if op = 5 then [97, 114, 114] else if op = 6 then [114, 111, 114, 114] else if op = 7 then [114, 114, 114, 114] else if op = 8 then [116] else if op = 9 then [114, 116] else if op = 10 then [114, 116] else if op = 11 then [114] else if op = 12 then [] else if op = 13 then [] else []
def lettersI (op : Int) : List UInt8 := if op = 1 then [114, 110, 45, 45] else if op = 2 then [114, 118, 45, 45] else if op = 3 then [118, 114, 45, 45] else if op = 4 then [114, 97, 114, 45] else if op = 5 then [97, 114, 114, 45] else if op = 6 then [114, 111, 114, 114] else if op = 7 then [114, 114, 114, 114] else if op = 8 then [105, 45, 45, 45] else if op = 9 then [114, 105, 45, 45] else if op = 10 then [114, 105, 45, 45] else if op = 11 then [114, 45, 45, 45] else if op = 12 then [45, 45, 45, 45] else if op = 13 then [45, 45, 45, 45] else []
/-- is a field as its letter says -/
def rangeS (nv na nl : Nat) (c n : Int) : Bool :=
  if c = 114 then decide (0 ≤ n) && decide (n < 14) else if c = 99 then decide (0 ≤ n) && decide (n ≤ 255) else if c = 118 then decide (0 ≤ n) && decide (n < nv) else if c = 97 then decide (0 ≤ n) && decide (n < na) else if c = 111 then decide (4 ≤ n) && decide (n ≤ 10) else decide (0 ≤ n) && decide (n < nl)
def rangeI (nv na nl : Nat) (c n : Int) : Bool :=
  if c = 114 then Lab.inside n 0 13 else if c = 118 then Lab.inside n 0 (nv - 1) else if c = 97 then Lab.inside n 0 (na - 1) else if c = 110 then Lab.inside n 0 255 else if c = 111 then Lab.inside n 4 10 else if c = 105 then Lab.inside n 0 (nl - 1) else n == 0
/-- all fields as the letters say; a field without a letter is 0 -/
def fieldsS (nv na nl : Nat) : List UInt8 → List Int → Bool
  | _, [] => true
  | [], n :: ns => n == 0 && fieldsS nv na nl [] ns
  | c :: cs, n :: ns => rangeS nv na nl c.toNat n && fieldsS nv na nl cs ns
def fieldsI (nv na nl : Nat) : List UInt8 → List Int → Bool
  | _, [] => true
  | [], _ :: _ => false
  | c :: cs, n :: ns => rangeI nv na nl c.toNat n && fieldsI nv na nl cs ns
def parts (x : Ins) : List Int := [x.a, x.b, x.c, x.d]
def insS (nv na nl : Nat) (x : Ins) : Bool := decide (1 ≤ x.op) && decide (x.op ≤ 13) && fieldsS nv na nl (lettersS x.op) (parts x)
def insI (nv na nl : Nat) (x : Ins) : Bool := fieldsI nv na nl (lettersI x.op) (parts x)
def lastOp (l : List Ins) : Int := match l.getLast? with | some x => x.op | none => 0
def codeB (xa xb : List Int) (l : List Ins) : Bool := declB xa xb && decide (1 ≤ l.length) && decide (l.length ≤ 400) && l.all (insS xa.length xb.length l.length) && (lastOp l == 13 || lastOp l == 8)
end Go.Proofs.YtckikiaockkmbaaDoor.Val
