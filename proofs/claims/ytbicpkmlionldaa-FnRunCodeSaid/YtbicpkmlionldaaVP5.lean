/- Draws of values. Conditions: fewer than 2^40 picks so far. -/
import Derived.Test.YtbicpkmlionldaaVP1
import Derived.Test.YtbicpkmlionldaaVP2
import Derived.Deep.RegionHeld3
import Derived.WalkKit
import Derived.ProofKit
import Derived.Test.YtbicpkmlionldaaVP4
import Derived.StillTailTactics
import Derived.Deep.QuietTactic
import Derived.BigQuiet
import Derived.Shelf.Abstract
namespace Go.Proofs.Ytbicpkmlionldaa.DrawV
open Go.RowKit Kit Draw
set_option linter.unusedVariables false
set_option maxHeartbeats 1000000 in
theorem l3Value (w : World) (br p : Nat) (h : Rd w br p) (hp : p < 1099511627776) :
    Calls Try.prog 70 #[.pointer (some ⟨br, 0, none⟩)] w (Drawn w br p (fun x => 0 ≤ x ∧ x ≤ 255)) := by
  have hbl := h.lt
  go_enter Try.func70, Try.ntmps70
  go_wp2_with fail
  refine (num _ br p _ 9 _ (fun x => 0 ≤ x ∧ x ≤ 255) (h.keep (S := fun _ => False) ((Kp.refl _ _).alloc _) (fun _ f => f.elim)) hp (by omega) (by omega) (by omega) ?_).mono ?_
  · intro i hi
    match i, hi with
    | 0, _ => exact ⟨_, by decide, World.cell?_alloc_new _ _ _ _⟩
    | 1, _ => exact ⟨_, by decide, World.cell?_alloc_new _ _ _ _⟩
    | 2, _ => exact ⟨_, by decide, World.cell?_alloc_new _ _ _ _⟩
    | 3, _ => exact ⟨_, by decide, World.cell?_alloc_new _ _ _ _⟩
    | 4, _ => exact ⟨_, by decide, World.cell?_alloc_new _ _ _ _⟩
    | 5, _ => exact ⟨_, by decide, World.cell?_alloc_new _ _ _ _⟩
    | 6, _ => exact ⟨_, by decide, World.cell?_alloc_new _ _ _ _⟩
    | 7, _ => exact ⟨_, by decide, World.cell?_alloc_new _ _ _ _⟩
    | 8, _ => exact ⟨_, by decide, World.cell?_alloc_new _ _ _ _⟩
  · rintro e w2 ⟨x, rfl, hx, k2, h2⟩
    have kk : One br w w2 := ((Kp.refl (fun k => k = br) w).alloc _).trans k2
    have hxh := Lib.hid hx
    clear hx
    go_wp2
    go_ret
    exact ⟨x, rfl, hxh.out, kk, h2⟩
end Go.Proofs.Ytbicpkmlionldaa.DrawV

/- spec.l3Copy: a memory of the call's own with the same values. Condition: bounds on the lengths. -/
namespace Go.Proofs.Ytbicpkmlionldaa.CopyM
open Go.RowKit Kit
set_option linter.unusedVariables false
def CopyI (w : World) (ya : List Int) (yb : List (List Int)) (a1 : Option Addr) (d1 : Nat) (m1 m2 : Value) (bo : Nat) (j : Nat) (wr : World) : Prop := New w wr ∧ wr.heap[w.heap.size]? = some (.cells #[m1, m2] 29) ∧ wr.heap[w.heap.size + 1]? = some (.cells #[.slice none 0 0, .slice none 0 0] 29) ∧
  bo < wr.heap.size ∧ w.heap.size + 2 ≤ bo ∧ OwnR 1 encI wr (w.heap.size + 2) bo 3 (.slice a1 ya.length d1) ya ∧ ∃ a2 d2, wr.heap[bo]? = some (.cells #[.slice a1 ya.length d1, .slice a2 j d2] 29) ∧ MatO wr (bo + 1) wr.heap.size 23 3 (.slice a2 j d2) (yb.take j)
set_option maxHeartbeats 2000000 in
set_option maxRecDepth 100000 in
theorem l3Copy (w : World) (lo hi : Nat) (va vb : Value) (ya : List Int) (yb : List (List Int)) (sa : IntsR w lo hi va ya) (sb : MatR w lo hi vb yb) (hh : hi ≤ w.heap.size) (m0 : ya.length ≤ 1099511627776) (m1 : yb.length ≤ 1073741824) (m2 : ∀ x ∈ yb, x.length ≤ 1099511627776) :
    Calls Try.prog 54 #[.agg #[va, vb]] w fun e w' => ∃ ua ub, e = .returned (.agg #[ua, ub]) ∧ New w w' ∧ MarkC.MemO w' w.heap.size w'.heap.size ua ub ya yb := by
  obtain ⟨a1, d1, rfl, l1⟩ := sa.len
  obtain ⟨a2, d2, rfl, l2⟩ := sb.len
  have hsa := Lib.hid sa
  have hsb := Lib.hid sb
  clear sa sb
  go_enter Try.func54, Try.ntmps54
  have N0 : New w ((((w.alloc (.cells #[.slice a1 ya.length d1, .slice a2 yb.length d2] 29)).alloc (.cells #[.slice none 0 0, .slice none 0 0] 29))).alloc (.cells #[] 3)) := (((Kp.refl _ _).alloc _).alloc _).alloc _
  have z0 : ((w.alloc (.cells #[.slice a1 ya.length d1, .slice a2 yb.length d2] 29)).alloc (.cells #[.slice none 0 0, .slice none 0 0] 29)).heap.size = w.heap.size + 2 := by simp
  have bM : ((((w.alloc (.cells #[.slice a1 ya.length d1, .slice a2 yb.length d2] 29)).alloc (.cells #[.slice none 0 0, .slice none 0 0] 29))).alloc (.cells #[] 3)).heap[w.heap.size]? = some (.cells #[.slice a1 ya.length d1, .slice a2 yb.length d2] 29) := heap_old (heap_old (alloc_heap _ _))
  have bR : ((((w.alloc (.cells #[.slice a1 ya.length d1, .slice a2 yb.length d2] 29)).alloc (.cells #[.slice none 0 0, .slice none 0 0] 29))).alloc (.cells #[] 3)).heap[w.heap.size + 1]? = some (.cells #[.slice none 0 0, .slice none 0 0] 29) := heap_old (heap_at (by simp))
  have hE := Lib.hid (OwnF.empty (α := Int) (n := 1) (enc := encI) ((w.alloc (.cells #[.slice a1 ya.length d1, .slice a2 yb.length d2] 29)).alloc (.cells #[.slice none 0 0, .slice none 0 0] 29)) 3 (base := w.heap.size + 2) (by simp))
  have hz0 := Lib.hid z0
  have hN0 := Lib.hid N0
  have hbM := Lib.hid bM
  have hbR := Lib.hid bR
  clear z0 N0 bM bR
  go_wp2_with (at_builtin; refine wpList_pushesN rfl _ _ _ rfl (w.heap.size + 2) 3 _ _ Try.underlying23 LawF.infoI rfl (by omega) _ [] rfl (by have := hE.out; rw [hz0.out] at this; exact this) _ ya rfl (hsa.out.new hh hN0.out) (fun y _ _ => rfl) ?qc1 ?qc2 ?qc3 ?_)
  case qc1 => simp; omega
  case qc2 => simp; omega
  case qc3 => simp
  intro v1 w1 hv1 hk1 _
  have hk2 : One (w.heap.size + 2) ((((w.alloc (.cells #[.slice a1 ya.length d1, .slice a2 yb.length d2] 29)).alloc (.cells #[.slice none 0 0, .slice none 0 0] 29))).alloc (.cells #[] 3)) w1 := hk1.mono fun k _ e => by simpa [Value.ownBlock] using e.symm
  have N1 := New.one hN0.out hk2 (by omega)
  have bM1 := (hk2.block _ (by simp <;> omega) (by omega)).trans hbM.out
  have bR1 := (hk2.block _ (by simp <;> omega) (by omega)).trans hbR.out
  have z1 : w.heap.size + 2 < w1.heap.size := by have := hk2.size; simp at this; omega
  have hvt := Lib.hid (show ∀ b, v1.ownBlock = some b → b < w1.heap.size from fun b hb => (hv1.lt b hb).2)
  obtain ⟨a3, d3, rfl, l3⟩ := hv1.reads.len
  have kb : New w1 (w1.alloc (.cells #[.slice a3 ya.length d3, .slice none 0 0] 29)) := (Kp.refl _ _).alloc _
  have hI : CopyI w ya yb a3 d3 (.slice a1 ya.length d1) (.slice a2 yb.length d2) w1.heap.size 0 (w1.alloc (.cells #[.slice a3 ya.length d3, .slice none 0 0] 29)) :=
    ⟨N1.trans kb, heap_new kb bM1, heap_new kb bR1, by simp, by omega, ⟨hv1.new kb, hvt.out⟩, none, 0, alloc_heap _ _, by rw [List.take_zero]; exact MatO.nil _ _ _ _ _⟩
  clear hE hz0 hN0 hbM hbR hk1 hk2 N1 bM1 bR1 hv1 hvt kb
  have hIh := Lib.hid hI
  clear hI
  go_wp2_with fail
  generalize w1.heap.size = bo at *
  generalize w1.alloc (.cells #[.slice a3 ya.length d3, .slice none 0 0] 29) = wb at *
  go_loopw [4] (fun i wr => ∃ j : Nat, j ≤ yb.length ∧ i = .int .i64 j ∧ CopyI w ya yb a3 d3 (.slice a1 ya.length d1) (.slice a2 yb.length d2) bo j wr) (fun i _ => yb.length - (intOf i).toNat)
  case atStart => exact ⟨0, Nat.zero_le _, rfl, hIh.out⟩
  case round =>
    obtain ⟨j, hj, rfl, N2, bM2, bR2, q1, q2, oA, a4, d4, bO2, oM⟩ := hrel
    clear hIh
    have cM1 := cell_of_heap bM2 1
    by_cases hlt : j < yb.length
    · obtain ⟨b, o, s, rfl, hb1, hb2, c0, hs⟩ := hsb.out.at' j hlt
      have cS := (N2.cell (b := b) (by omega) (fun f => f) (o + j)).trans c0
      have hs1 := Lib.hid ((hs.new hh N2).new (by have := N2.size; omega) ((Kp.refl (fun _ => False) wr).drew))
      have hx := Lib.hid (m2 _ (List.getElem_mem (l := yb) (n := j) hlt))
      obtain ⟨vs, hO, hOl, hG⟩ := oM.grow (by omega)
      have hOl2 : vs.length = j := by rw [hOl]; simp; omega
      clear hOl c0 hs oM
      have hOh := Lib.hid hO
      have hGh := Lib.hid hG
      have hOl3 := Lib.hid hOl2
      clear hO hG hOl2
      go_wp2_with fail
      have kd := (Kp.refl (fun _ => False) wr).drew
      have hE := Lib.hid (OwnF.empty (α := Int) (n := 1) (enc := encI) wr.drew 3 (base := wr.heap.size) (Nat.le_refl _))
      have bOd := heap_new kd bO2
      have cOd := cell_of_heap bOd 1
      have bMd := heap_new kd bM2
      have cMd := cell_of_heap bMd 1
      have cSd : wr.drew.cell? ⟨b, o + j, none⟩ = some s := cS
      have kA : New wr.drew (wr.drew.alloc (.cells #[] 3)) := (Kp.refl _ _).alloc _
      have bOA := heap_new kA bOd
      have cOA := cell_of_heap bOA 1
      have bMA := heap_new kA bMd
      have cMA := cell_of_heap bMA 1
      have cSA : (wr.drew.alloc (.cells #[] 3)).cell? ⟨b, o + j, none⟩ = some s := (kA.cell (b := b) (by have := N2.size; have : wr.drew.heap.size = wr.heap.size := rfl; omega) (fun f => f) _).trans cSd
      clear cS cM1
      refine wp_region_tail (k := 12) (S := fun w' => w'.cell? ⟨w.heap.size, 1, none⟩ = some (.slice (some ⟨b, o, none⟩) yb.length d2) ∧ w'.cell? ⟨b, o + j, none⟩ = some s ∧ w'.cell? ⟨bo, 1, none⟩ = some (.slice a4 j d4)) (by kernel_rfl) ?_ (fun hHeld => ?_)
      · exact ⟨cMd, cSd, cOd⟩
      refine AnyK.tw 0 rfl ?_
      try simp only [AP]
      refine AnyK.tk 1 rfl ?_
      try simp only [AP]
      refine AnyK.tw 3 rfl ?_
      try simp only [AP]
      refine AnyK.tk 4 rfl ?_
      try simp only [AP]
      refine AnyK.tw 5 rfl ?_
      try simp only [AP]
      refine AnyK.tw 6 rfl ?_
      try simp only [AP]
      refine AnyK.tk 7 rfl ?_
      try simp only [AP]
      refine AnyK.step (i := 2) (by kernel_rfl) rfl (fun K hK => ?_)
      go_simp
      refine hK.out _ _ ?_ (fun hHeld2 => ?_)
      · exact ⟨cMA, cSA, cOA⟩
      clear hK K hHeld
      have hHeld := hHeld2
      clear hHeld2
      try simp only [AP]
      refine AnyK.step (i := 8) (by kernel_rfl) rfl (fun K hK => ?_)
      refine step_pushes rfl (.tmp 19) (.tmp 24) 23 rfl wr.heap.size 3 _ _ Try.underlying23 LawF.infoI rfl (by omega) (.slice (some ⟨wr.heap.size, 0, none⟩) 0 0) [] rfl hE.out _ yb[j] rfl (hs1.out.new (by have := N2.size; have : wr.drew.heap.size = wr.heap.size := rfl; omega) kA) (fun y _ _ => rfl) ?_ ?_ ?_ ?_
      · simp; have := hx.out; omega
      · simp; have := hx.out; omega
      · simp
      intro v1 w1 hv1 hk1 _
      obtain ⟨a5, d5, rfl, _⟩ := hv1.reads.len
      have hv1h := Lib.hid hv1
      have hk1h : One wr.heap.size (wr.drew.alloc (.cells #[] 3)) w1 := hk1.mono fun k _ e => by simpa [Value.ownBlock] using e.symm
      clear hv1 hk1
      have zA : (wr.drew.alloc (.cells #[] 3)).heap.size = wr.heap.size + 1 := by simp
      have z1 := hk1h.size
      have bM1 := (hk1h.block _ (by have := heap_lt bMd; have : wr.drew.heap.size = wr.heap.size := rfl; omega) (by have := heap_lt bMd; have : wr.drew.heap.size = wr.heap.size := rfl; omega)).trans bMA
      have bO1 := (hk1h.block _ (by omega) (by omega)).trans bOA
      have cM1 := cell_of_heap bM1 1
      have cO1 := cell_of_heap bO1 1
      have cS1 : w1.cell? ⟨b, o + j, none⟩ = some s := (hk1h.cell (b := b) (by have := N2.size; omega) (by have := N2.size; omega) _).trans cSA
      refine hK.out _ _ ?_ (fun hHeld2 => ?_)
      · exact ⟨cM1, cS1, cO1⟩
      clear hK K hHeld
      have hHeld := hHeld2
      clear hHeld2
      try simp only [AP]
      refine AnyK.step (i := 9) (by kernel_rfl) rfl (fun K hK => ?_)
      go_simp
      have kB : New w1 (w1.alloc (.cells #[.slice a5 yb[j].length d5] 23)) := (Kp.refl _ _).alloc _
      have bMB := heap_new kB bM1
      have bOB := heap_new kB bO1
      have cMB := cell_of_heap bMB 1
      have cOB := cell_of_heap bOB 1
      have cSB : (w1.alloc (.cells #[.slice a5 yb[j].length d5] 23)).cell? ⟨b, o + j, none⟩ = some s := (kB.cell (b := b) (by have := N2.size; omega) (fun f => f) _).trans cS1
      have cNB : (w1.alloc (.cells #[.slice a5 yb[j].length d5] 23)).cell? ⟨w1.heap.size, 0, none⟩ = some (.slice a5 yb[j].length d5) := cell_of_heap (alloc_heap _ _) 0
      have zB : (w1.alloc (.cells #[.slice a5 yb[j].length d5] 23)).heap.size = w1.heap.size + 1 := by simp
      have zBh := Lib.hid zB
      clear zB
      have hkb := hOh.out.lt
      have hO2 := Lib.hid (((hOh.out.new kd).new kA).kp hk1h (fun k e f => by have := hkb k e; omega))
      refine hK.out _ _ ?_ (fun hHeld2 => ?_)
      · exact ⟨cMB, cSB, cOB⟩
      clear hK K hHeld
      have hHeld := hHeld2
      clear hHeld2
      try simp only [AP]
      refine AnyK.step (i := 10) (by kernel_rfl) rfl (fun K hK => ?_)
      refine step_pushes rfl (.tmp 18) (.tmp 26) 27 rfl (bo + 1) 23 _ _ Try.underlying27 MatF.infoM rfl (by omega) (.slice a4 j d4) vs rfl (hO2.out.new kB) _ [.slice a5 yb[j].length d5] rfl (FlR.one (b := w1.heap.size) fun t ht => (by have e : t = 0 := (by omega); subst e; exact cNB)) ?_ ?_ ?_ ?_ ?_
      · intro y hy t
        rw [List.mem_singleton] at hy
        subst hy; rfl
      · have := hOl3.out; simp; omega
      · have := hOl3.out; simp; omega
      · have := zBh.out; omega
      intro v2 w2 hv2 hk2 hat2
      have hG2 := hGh.out _ w2 v2 (.slice a5 yb[j].length d5) yb[j] ((kd.trans (New.one kA hk1h (Nat.le_refl _))).trans kB) (hv1h.out.new kB) hk2 hat2 hv2
      have hlen2 : (vs ++ [Value.slice a5 yb[j].length d5]).length = j + 1 := by simp [hOl3.out]
      obtain ⟨a6, d6, e6, _⟩ := hv2.reads.len
      rw [hlen2] at e6
      subst e6
      have hG3 := Lib.hid hG2
      have hk3 : Kp (fun k => bo + 1 ≤ k) (w1.alloc (.cells #[.slice a5 yb[j].length d5] 23)) w2 := hk2.mono fun k _ e => (hkb k e).1
      clear hlen2 hG2 hv2 hk2 hat2
      have z2 := hk3.size
      have bM3 := (hk3.block _ (by have := zBh.out; omega) (by omega)).trans bMB
      have bO3 := (hk3.block _ (by have := zBh.out; omega) (by omega)).trans bOB
      have cM3 := cell_of_heap bM3 1
      have cO3 := cell_of_heap bO3 1
      have cO3f := frozen_of_heap bO3
      have cS3 : w2.cell? ⟨b, o + j, none⟩ = some s := (hk3.cell (b := b) (by have := N2.size; have := zBh.out; omega) (by have := N2.size; omega) _).trans cSB
      refine hK.out _ _ ?_ (fun hHeld2 => ?_)
      · exact ⟨cM3, cS3, cO3⟩
      clear hK K hHeld
      have hHeld := hHeld2
      clear hHeld2
      try simp only [AP]
      refine AnyK.tw 11 rfl ?_
      try simp only [AP]
      refine AnyK.last (by kernel_rfl) ?_
      simp only [List.drop_succ_cons, List.drop_zero]
      clear hHeld
      have zd : wr.drew.heap.size = wr.heap.size := rfl
      have kk : One bo w2 (w2.setCell ⟨bo, 1, none⟩ (.slice a6 (j + 1) d6)) := (Kp.refl (fun k => k = bo) _).setCell (.inl rfl) _
      have zk := kk.size
      have bR3 := (hk3.block _ (by have := zBh.out; have := heap_lt bR2; omega) (by omega)).trans (heap_new kB ((hk1h.block _ (by have := heap_lt bR2; omega) (by have := heap_lt bR2; omega)).trans (heap_new kA (heap_new kd bR2))))
      have NB := (New.one ((N2.trans kd).trans kA) hk1h (by have := N2.size; omega)).trans kB
      have N4 := New.one (New.on NB hk3 (fun i hi => by omega)) kk (by omega)
      have oA4 := (((((oA.new (by omega) kd).new (by omega) kA).kp hk1h (fun k e => .inr (by omega))).new (by omega) kB).kp hk3 (fun k e => .inr (by omega))).kp kk (fun k e => .inr (by omega))
      have bM4 := heap_set (o := 1) bM3 (show w.heap.size ≠ bo by omega) (.slice a6 (j + 1) d6)
      have bR4 := heap_set (o := 1) bR3 (show w.heap.size + 1 ≠ bo by omega) (.slice a6 (j + 1) d6)
      have bO4 := setCell_heap (o := 1) bO3 (.slice a6 (j + 1) d6)
      have zO := heap_lt bO4
      have hG4 := hG3.out.kp kk (fun k e => .inl (by omega))
      rw [← List.take_succ_eq_append_getElem hlt] at hG4
      have hG5 := hG4.mono (lo' := bo + 1) (hi' := (w2.setCell ⟨bo, 1, none⟩ (.slice a6 (j + 1) d6)).heap.size) (Nat.le_refl _) zk
      have hI := Lib.hid (show CopyI w ya yb a3 d3 (.slice a1 ya.length d1) (.slice (some ⟨b, o, none⟩) yb.length d2) bo (j + 1) (w2.setCell ⟨bo, 1, none⟩ (.slice a6 (j + 1) d6)) from ⟨N4, bM4, bR4, zO, q2, oA4, a6, d6, bO4, hG5⟩)
      clear bM4 bR4 bO4 oA4 N4 NB hG4 hG5 hG3 bR3 bM3 cM3 cS3 cNB cMB cOB bMB bOB cSB bM1 bO1 cM1 cO1 cS1 cMA cSA cOA bMA bOA cMd cSd cOd bMd bOd bM2 bR2 bO2 oA N2 hO2 hv1h kk zd
      go_wp2
      go_roundw
      case rel => exact ⟨j + 1, by omega, by go_num, hI.out⟩
      case measure => simp [intOf]; omega
    · have hge : yb.length ≤ j := by omega
      have oM2 := oM
      rw [List.take_of_length_le hge] at oM2
      have hj2 : j = yb.length := by omega
      subst hj2
      clear oM
      obtain ⟨cO0, cO1⟩ := cells2 bO2
      obtain ⟨cR0, cR1⟩ := cells2 bR2
      have cRf := frozen_of_heap bR2
      go_wp2
      have kz : One (w.heap.size + 1) wr ((wr.setCell ⟨w.heap.size + 1, 0, none⟩ (.slice a3 ya.length d3)).setCell ⟨w.heap.size + 1, 1, none⟩ (.slice a4 yb.length d4)) := ((Kp.refl (fun k => k = w.heap.size + 1) _).setCell (.inl rfl) _).setCell (.inl rfl) _
      have hR := setCell_heap (o := 1) (setCell_heap (o := 0) bR2 (.slice a3 ya.length d3)) (.slice a4 yb.length d4)
      refine bodyPost_ret (results_cell_row rfl _ _ _ _ _ _ _ rfl hR Try.underlying29 rfl (by kernel_rfl)) rfl ⟨_, _, rfl, New.one N2 kz (by omega), .of bo (by omega) (by simp; omega) ((oA.kp kz (fun b e => .inl (by omega))).mono (by omega) (Nat.le_refl _)) ((oM2.kp kz (fun b e => .inl (by omega))).mono (by omega) (by simp))⟩
end Go.Proofs.Ytbicpkmlionldaa.CopyM

/- sz, to, eq of laws for Memory. Condition: at most 2^20 elements. -/
namespace Go.Proofs.Ytbicpkmlionldaa.MemF
open Go.RowKit Kit
set_option linter.unusedVariables false
end Go.Proofs.Ytbicpkmlionldaa.MemF

/- Machine: a struct with a Memory inside. Condition: at most 2^20 elements. -/
namespace Go.Proofs.Ytbicpkmlionldaa.MachF
open Go.RowKit Kit
set_option linter.unusedVariables false
end Go.Proofs.Ytbicpkmlionldaa.MachF

/- szCode, toCode, eqCode of laws: a struct of three flat lists. Condition: at most 2^20 elements. -/
namespace Go.Proofs.Ytbicpkmlionldaa.CodeF
open Go.RowKit Kit
set_option linter.unusedVariables false
end Go.Proofs.Ytbicpkmlionldaa.CodeF

/- Readings of memories, machines and codes as one fact each, and the laws' comparisons of equals. No conditions. -/
namespace Go.Proofs.Ytbicpkmlionldaa.Rec
open Go.RowKit Kit
set_option linter.unusedVariables false
def MemR (w : World) (lo hi : Nat) (va vb : Value) (ya : List Int) (yb : List (List Int)) : Prop := IntsR w lo hi va ya ∧ MatR w lo hi vb yb
theorem MemR.kp {w w' : World} {lo hi : Nat} {va vb : Value} {ya : List Int} {yb : List (List Int)} (h : MemR w lo hi va vb ya yb) {S : Nat → Prop} (k : Kp S w w') (hh : hi ≤ w.heap.size) (hs : ∀ b, S b → b < lo ∨ hi ≤ b) : MemR w' lo hi va vb ya yb := ⟨h.1.kp k hh hs, h.2.kp k hh hs⟩
theorem MemR.new {w w' : World} {lo hi : Nat} {va vb : Value} {ya : List Int} {yb : List (List Int)} (h : MemR w lo hi va vb ya yb) (hh : hi ≤ w.heap.size) (k : New w w') : MemR w' lo hi va vb ya yb := ⟨h.1.new hh k, h.2.new hh k⟩
theorem MemR.mono {w : World} {lo hi lo' hi' : Nat} {va vb : Value} {ya : List Int} {yb : List (List Int)} (h : MemR w lo hi va vb ya yb) (h1 : lo' ≤ lo) (h2 : hi ≤ hi') : MemR w lo' hi' va vb ya yb := ⟨h.1.mono h1 h2, h.2.mono h1 h2⟩
theorem MemR.lens {w : World} {lo hi : Nat} {va vb : Value} {ya : List Int} {yb : List (List Int)} (h : MemR w lo hi va vb ya yb) : (∃ a d, va = .slice a ya.length d) ∧ ∃ a d, vb = .slice a yb.length d := by
  obtain ⟨a, d, e, _⟩ := h.1.len
  obtain ⟨a', d', e', _⟩ := h.2.len
  exact ⟨⟨a, d, e⟩, a', d', e'⟩
def MachR (w : World) (lo hi : Nat) (vr va vb : Value) (yr ya : List Int) (yb : List (List Int)) : Prop := IntsR w lo hi vr yr ∧ IntsR w lo hi va ya ∧ MatR w lo hi vb yb
theorem MachR.kp {w w' : World} {lo hi : Nat} {vr va vb : Value} {yr ya : List Int} {yb : List (List Int)} (h : MachR w lo hi vr va vb yr ya yb) {S : Nat → Prop} (k : Kp S w w') (hh : hi ≤ w.heap.size) (hs : ∀ b, S b → b < lo ∨ hi ≤ b) : MachR w' lo hi vr va vb yr ya yb := ⟨h.1.kp k hh hs, h.2.1.kp k hh hs, h.2.2.kp k hh hs⟩
theorem MachR.new {w w' : World} {lo hi : Nat} {vr va vb : Value} {yr ya : List Int} {yb : List (List Int)} (h : MachR w lo hi vr va vb yr ya yb) (hh : hi ≤ w.heap.size) (k : New w w') : MachR w' lo hi vr va vb yr ya yb := ⟨h.1.new hh k, h.2.1.new hh k, h.2.2.new hh k⟩
theorem MachR.mono {w : World} {lo hi lo' hi' : Nat} {vr va vb : Value} {yr ya : List Int} {yb : List (List Int)} (h : MachR w lo hi vr va vb yr ya yb) (h1 : lo' ≤ lo) (h2 : hi ≤ hi') : MachR w lo' hi' vr va vb yr ya yb := ⟨h.1.mono h1 h2, h.2.1.mono h1 h2, h.2.2.mono h1 h2⟩
theorem MachR.lens {w : World} {lo hi : Nat} {vr va vb : Value} {yr ya : List Int} {yb : List (List Int)} (h : MachR w lo hi vr va vb yr ya yb) : (∃ a d, vr = .slice a yr.length d) ∧ (∃ a d, va = .slice a ya.length d) ∧ ∃ a d, vb = .slice a yb.length d := by
  obtain ⟨a, d, e, _⟩ := h.1.len
  obtain ⟨a', d', e', _⟩ := h.2.1.len
  obtain ⟨a2, d2, e2, _⟩ := h.2.2.len
  exact ⟨⟨a, d, e⟩, ⟨a', d', e'⟩, a2, d2, e2⟩
def CodeR (w : World) (lo hi : Nat) (va vb vc : Value) (xa xb : List Int) (x : List Ins) : Prop := IntsR w lo hi va xa ∧ IntsR w lo hi vb xb ∧ InssR w lo hi vc x
theorem CodeR.kp {w w' : World} {lo hi : Nat} {va vb vc : Value} {xa xb : List Int} {x : List Ins} (h : CodeR w lo hi va vb vc xa xb x) {S : Nat → Prop} (k : Kp S w w') (hh : hi ≤ w.heap.size) (hs : ∀ b, S b → b < lo ∨ hi ≤ b) : CodeR w' lo hi va vb vc xa xb x := ⟨h.1.kp k hh hs, h.2.1.kp k hh hs, h.2.2.kp k hh hs⟩
theorem CodeR.new {w w' : World} {lo hi : Nat} {va vb vc : Value} {xa xb : List Int} {x : List Ins} (h : CodeR w lo hi va vb vc xa xb x) (hh : hi ≤ w.heap.size) (k : New w w') : CodeR w' lo hi va vb vc xa xb x := ⟨h.1.new hh k, h.2.1.new hh k, h.2.2.new hh k⟩
theorem CodeR.lens {w : World} {lo hi : Nat} {va vb vc : Value} {xa xb : List Int} {x : List Ins} (h : CodeR w lo hi va vb vc xa xb x) : (∃ a d, va = .slice a xa.length d) ∧ (∃ a d, vb = .slice a xb.length d) ∧ ∃ a d, vc = .slice a x.length d := by
  obtain ⟨a, d, e, _⟩ := h.1.len
  obtain ⟨a', d', e', _⟩ := h.2.1.len
  obtain ⟨a2, d2, e2, _⟩ := h.2.2.len
  exact ⟨⟨a, d, e⟩, ⟨a', d', e'⟩, a2, d2, e2⟩
theorem _root_.Go.Proofs.Ytbicpkmlionldaa.MarkC.MemO.toR {w : World} {lo hi : Nat} {va vb : Value} {ya : List Int} {yb : List (List Int)} (h : MarkC.MemO w lo hi va vb ya yb) : MemR w lo hi va vb ya yb := h.reads
theorem _root_.Go.Proofs.Ytbicpkmlionldaa.MarkC.MachO.toR {w : World} {lo hi : Nat} {vr va vb : Value} {yr ya : List Int} {yb : List (List Int)} (h : MarkC.MachO w lo hi vr va vb yr ya yb) : MachR w lo hi vr va vb yr ya yb := h.reads
theorem lt_alloc (w : World) (o : Obj) : w.heap.size < (w.alloc o).heap.size := by simp
/-- a list, or none of it -/
def pk {α : Type} (t : Bool) (l : List α) : List α := if t then l else []
end Go.Proofs.Ytbicpkmlionldaa.Rec

/- One change of a machine's register, variable or element, in the ownership of the whole machine. No conditions. -/
namespace Go.Proofs.Ytbicpkmlionldaa.MarkC
open Go.RowKit Kit
set_option linter.unusedVariables false
theorem own_cells {w : World} {base n d : Nat} {a : Option Addr} {T : TypeId} {xs : List Int} (h : OwnF 1 encI w base T (.slice a n d) xs) (h0 : 0 < xs.length) :
    n = xs.length ∧ ∃ b, a = some ⟨b, 0, none⟩ ∧ (∀ i (h : i < xs.length), w.cell? ⟨b, i, none⟩ = some (.int .i64 xs[i])) ∧ ∀ i, w.frozen? ⟨b, i, none⟩ = false := by
  rcases h.form with ⟨e, _⟩ | ⟨b, cap, cs, e, hb, _, _, hh, hn, hc⟩
  · subst e; exact absurd h0 (Nat.lt_irrefl _)
  · cases e
    refine ⟨rfl, b, rfl, fun i hi => ?_, fun i => frozen_of_heap hh i⟩
    have := hc i hi 0 (by omega)
    rw [Nat.mul_one, Nat.add_zero] at this
    exact (cell_of_heap hh i).trans this
theorem ownBlock_at (b n d : Nat) : (Value.slice (some ⟨b, 0, none⟩) n d).ownBlock = some b := by simp [Value.ownBlock]
theorem OwnR_set {w : World} {lo hi b n d : Nat} {T : TypeId} {xs : List Int} (h : OwnR 1 encI w lo hi T (.slice (some ⟨b, 0, none⟩) n d) xs) (hn : n = xs.length) (j : Nat) (hj : j < xs.length) (z : Int) :
    OwnR 1 encI (w.setCell ⟨b, j, none⟩ (.int .i64 z)) lo hi T (.slice (some ⟨b, 0, none⟩) n d) (xs.set j z) := by
  subst hn
  exact ⟨h.own.set1 (enc := encI) j hj z, h.top⟩
theorem MachO.regs {w : World} {lo hi n d : Nat} {a : Option Addr} {va vb : Value} {yr ya : List Int} {yb : List (List Int)} (h : MachO w lo hi (.slice a n d) va vb yr ya yb) (h0 : 0 < yr.length) :
    ∃ b, a = some ⟨b, 0, none⟩ ∧ lo ≤ b ∧ b < hi ∧ (∀ i (h : i < yr.length), w.cell? ⟨b, i, none⟩ = some (.int .i64 yr[i])) ∧ (∀ i, w.frozen? ⟨b, i, none⟩ = false) ∧
      ∀ j (hj : j < yr.length) z, MachO (w.setCell ⟨b, j, none⟩ (.int .i64 z)) lo hi (.slice a n d) va vb (yr.set j z) ya yb := by
  obtain ⟨p1, p2, p3, p4, q1, q2, q3, q4, q5, A, B⟩ := h
  obtain ⟨hn, b, rfl, hc, hf⟩ := own_cells A.own h0
  have hl := A.own.lt b (ownBlock_at _ _ _)
  have ht := A.top b (ownBlock_at _ _ _)
  refine ⟨b, rfl, by omega, by omega, hc, hf, fun j hj z => ⟨p1, p2, p3, p4, q1, q2, q3, q4, q5, OwnR_set A hn j hj z, B.kp (S := fun x => x = b) ((Kp.refl (fun x => x = b) w).setCell (.inl rfl) _) (fun x e => by omega)⟩⟩
theorem MachO.vals {w : World} {lo hi n d : Nat} {a : Option Addr} {vr vb : Value} {yr ya : List Int} {yb : List (List Int)} (h : MachO w lo hi vr (.slice a n d) vb yr ya yb) (h0 : 0 < ya.length) :
    ∃ b, a = some ⟨b, 0, none⟩ ∧ lo ≤ b ∧ b < hi ∧ (∀ i (h : i < ya.length), w.cell? ⟨b, i, none⟩ = some (.int .i64 ya[i])) ∧ (∀ i, w.frozen? ⟨b, i, none⟩ = false) ∧
      ∀ j (hj : j < ya.length) z, MachO (w.setCell ⟨b, j, none⟩ (.int .i64 z)) lo hi vr (.slice a n d) vb yr (ya.set j z) yb := by
  obtain ⟨p1, p2, p3, p4, q1, q2, q3, q4, q5, A, m1, m2, m3, m4, r1, r2, r3, r4, r5, B, C⟩ := h
  obtain ⟨hn, b, rfl, hc, hf⟩ := own_cells B.own h0
  have hl := B.own.lt b (ownBlock_at _ _ _)
  have ht := B.top b (ownBlock_at _ _ _)
  refine ⟨b, rfl, by omega, by omega, hc, hf, fun j hj z => ⟨p1, p2, p3, p4, q1, q2, q3, q4, q5, A.kp (S := fun x => x = b) ((Kp.refl (fun x => x = b) w).setCell (.inl rfl) _) (fun x e => by omega), m1, m2, m3, m4, r1, r2, r3, r4, r5, OwnR_set B hn j hj z, C.kp (S := fun x => x = b) ((Kp.refl (fun x => x = b) w).setCell (.inl rfl) _) (fun x e => by omega)⟩⟩
theorem MachO.rows {w : World} {lo hi n d : Nat} {a : Option Addr} {vr va : Value} {yr ya : List Int} {yb : List (List Int)} (h : MachO w lo hi vr va (.slice a n d) yr ya yb) (k : Nat) (hk : k < yb.length) (h0 : 0 < yb[k].length) :
    ∃ b c d2, a = some ⟨b, 0, none⟩ ∧ lo ≤ b ∧ b < hi ∧ w.cell? ⟨b, k, none⟩ = some (.slice (some ⟨c, 0, none⟩) yb[k].length d2) ∧ lo ≤ c ∧ c < hi ∧ (∀ i (h : i < yb[k].length), w.cell? ⟨c, i, none⟩ = some (.int .i64 yb[k][i])) ∧ (∀ i, w.frozen? ⟨c, i, none⟩ = false) ∧
      ∀ j (hj : j < yb[k].length) z, MachO (w.setCell ⟨c, j, none⟩ (.int .i64 z)) lo hi vr va (.slice a n d) yr ya (yb.set k (yb[k].set j z)) := by
  obtain ⟨p1, p2, p3, p4, q1, q2, q3, q4, q5, A, m1, m2, m3, m4, r1, r2, r3, r4, r5, B, C⟩ := h
  obtain ⟨b, s, rfl, hb1, hb2, hcell, hO, hne, hset⟩ := C.row k hk
  rcases hO.form with ⟨e, _⟩ | ⟨c, cap, cs, rfl, hc1, _, _, hh, hn, hc⟩
  · rw [e] at h0; exact absurd h0 (Nat.lt_irrefl _)
  · have hcc := hne c (ownBlock_at _ _ _)
    obtain ⟨_, c', e', hcs, hf⟩ := own_cells hO h0
    cases e'
    refine ⟨b, c, cap, rfl, by omega, by omega, hcell, by omega, by omega, hcs, hf, fun j hj z => ?_⟩
    have kk : Kp (fun x => x = c) w (w.setCell ⟨c, j, none⟩ (.int .i64 z)) := (Kp.refl (fun x => x = c) w).setCell (.inl rfl) _
    refine ⟨p1, p2, p3, p4, q1, q2, q3, q4, q5, A.kp kk (fun x e => by omega), m1, m2, m3, m4, r1, r2, r3, r4, r5, B.kp kk (fun x e => by omega), hset _ _ (kk.mono fun x _ e => by subst e; exact ownBlock_at _ _ _) (hO.set1 (enc := encI) j hj z)⟩
end Go.Proofs.Ytbicpkmlionldaa.MarkC

/- What valid code is, in plain words: as the reference says it, as the program says it; they agree. No program in sight; no conditions. -/
namespace Go.Proofs.Ytbicpkmlionldaa.Val
open Go.RowKit Kit
set_option linter.unusedVariables false
/-- the letters of the fields of an operation: the reference's, the program's -/
def lettersS (op : Int) : List UInt8 := if op = 1 then [114, 99] else if op = 2 then [114, 118] else if op = 3 then [118, 114] else if op = 4 then [114, 97, 114] else if op = 5 then [97, 114, 114] else if op = 6 then [114, 111, 114, 114] else if op = 7 then [114, 114, 114, 114] else if op = 8 then [116] else if op = 9 then [114, 116] else if op = 10 then [114, 116] else if op = 11 then [114] else if op = 12 then [] else if op = 13 then [] else []
def lettersI (op : Int) : List UInt8 := if op = 1 then [114, 110, 45, 45] else if op = 2 then [114, 118, 45, 45] else if op = 3 then [118, 114, 45, 45] else if op = 4 then [114, 97, 114, 45] else if op = 5 then [97, 114, 114, 45] else if op = 6 then [114, 111, 114, 114] else if op = 7 then [114, 114, 114, 114] else if op = 8 then [105, 45, 45, 45] else if op = 9 then [114, 105, 45, 45] else if op = 10 then [114, 105, 45, 45] else if op = 11 then [114, 45, 45, 45] else if op = 12 then [45, 45, 45, 45] else if op = 13 then [45, 45, 45, 45] else []
/-- is a field as its letter says -/
def rangeS (nv na nl : Nat) (c n : Int) : Bool :=
  if c = 114 then decide (0 ≤ n) && decide (n < 14) else if c = 99 then decide (0 ≤ n) && decide (n ≤ 255) else if c = 118 then decide (0 ≤ n) && decide (n < nv) else if c = 97 then decide (0 ≤ n) && decide (n < na) else if c = 111 then decide (4 ≤ n) && decide (n ≤ 10) else decide (0 ≤ n) && decide (n < nl)
def rangeI (nv na nl : Nat) (c n : Int) : Bool :=
  if c = 114 then Lab.inside n 0 13 else if c = 118 then Lab.inside n 0 (nv - 1) else if c = 97 then Lab.inside n 0 (na - 1) else if c = 110 then Lab.inside n 0 255 else if c = 111 then Lab.inside n 4 10 else if c = 105 then Lab.inside n 0 (nl - 1) else n == 0
/-- all fields as the letters say; a field without a letter is 0 -/
def fieldsS (nv na nl : Nat) : List UInt8 → List Int → Bool
  | _, [] => true
  | [], n :: ns => n == 0 && fieldsS nv na nl [] ns
  | c :: cs, n :: ns => rangeS nv na nl c.toNat n && fieldsS nv na nl cs ns
def fieldsI (nv na nl : Nat) : List UInt8 → List Int → Bool
  | _, [] => true
  | [], _ :: _ => false
  | c :: cs, n :: ns => rangeI nv na nl c.toNat n && fieldsI nv na nl cs ns
def parts (x : Ins) : List Int := [x.a, x.b, x.c, x.d]
def insS (nv na nl : Nat) (x : Ins) : Bool := decide (1 ≤ x.op) && decide (x.op ≤ 13) && fieldsS nv na nl (lettersS x.op) (parts x)
def insI (nv na nl : Nat) (x : Ins) : Bool := fieldsI nv na nl (lettersI x.op) (parts x)
theorem ops_of {op : Int} (h1 : 1 ≤ op) (h2 : op ≤ 13) : op = 1 ∨ op = 2 ∨ op = 3 ∨ op = 4 ∨ op = 5 ∨ op = 6 ∨ op = 7 ∨ op = 8 ∨ op = 9 ∨ op = 10 ∨ op = 11 ∨ op = 12 ∨ op = 13 := by omega
theorem lettersI_off {op : Int} (h : op < 1 ∨ 13 < op) : lettersI op = [] := by
  unfold lettersI; repeat' rw [if_neg (by omega)]
theorem lettersI_on {op : Int} (h1 : 1 ≤ op) (h2 : op ≤ 13) : (lettersI op).length = 4 := by
  obtain rfl | rfl | rfl | rfl | rfl | rfl | rfl | rfl | rfl | rfl | rfl | rfl | rfl := ops_of h1 h2 <;> rfl
theorem lettersS_off {op : Int} (h : op < 1 ∨ 13 < op) : lettersS op = [] := by
  unfold lettersS; repeat' rw [if_neg (by omega)]
theorem lettersS_len (op : Int) : (lettersS op).length ≤ 4 := by
  by_cases h1 : 1 ≤ op
  · by_cases h2 : op ≤ 13
    · obtain rfl | rfl | rfl | rfl | rfl | rfl | rfl | rfl | rfl | rfl | rfl | rfl | rfl := ops_of h1 h2 <;> decide
    · rw [lettersS_off (by omega)]; simp
  · rw [lettersS_off (by omega)]; simp
theorem rng_r (nv na nl : Nat) (n : Int) : rangeI nv na nl 114 n = rangeS nv na nl 114 n := by rw [Bool.eq_iff_iff]; simp [rangeI, rangeS, Lab.inside]; omega
theorem rng_v (nv na nl : Nat) (n : Int) : rangeI nv na nl 118 n = rangeS nv na nl 118 n := by rw [Bool.eq_iff_iff]; simp [rangeI, rangeS, Lab.inside]; omega
theorem rng_a (nv na nl : Nat) (n : Int) : rangeI nv na nl 97 n = rangeS nv na nl 97 n := by rw [Bool.eq_iff_iff]; simp [rangeI, rangeS, Lab.inside]; omega
theorem rng_n (nv na nl : Nat) (n : Int) : rangeI nv na nl 110 n = rangeS nv na nl 99 n := by rw [Bool.eq_iff_iff]; simp [rangeI, rangeS, Lab.inside]
theorem rng_o (nv na nl : Nat) (n : Int) : rangeI nv na nl 111 n = rangeS nv na nl 111 n := by rw [Bool.eq_iff_iff]; simp [rangeI, rangeS, Lab.inside]
theorem rng_i (nv na nl : Nat) (n : Int) : rangeI nv na nl 105 n = rangeS nv na nl 116 n := by rw [Bool.eq_iff_iff]; simp [rangeI, rangeS, Lab.inside]; omega
theorem rng_0 (nv na nl : Nat) (n : Int) : rangeI nv na nl 45 n = (n == 0) := by simp [rangeI]
theorem ins_eq (nv na nl : Nat) (x : Ins) : insI nv na nl x = insS nv na nl x := by
  obtain ⟨op, a, b, c, d⟩ := x
  by_cases h1 : 1 ≤ op
  · by_cases h2 : op ≤ 13
    · obtain rfl | rfl | rfl | rfl | rfl | rfl | rfl | rfl | rfl | rfl | rfl | rfl | rfl := ops_of h1 h2 <;>
        simp [insI, insS, lettersI, lettersS, parts, fieldsI, fieldsS, rng_r, rng_v, rng_a, rng_n, rng_o, rng_i, rng_0]
    · simp only [insI, insS, lettersI_off (show op < 1 ∨ 13 < op by omega), parts, fieldsI]; simp [h2]
  · simp only [insI, insS, lettersI_off (show op < 1 ∨ 13 < op by omega), parts, fieldsI]; simp [h1]
def lastOp (l : List Ins) : Int := match l.getLast? with | some x => x.op | none => 0
def codeB (xa xb : List Int) (l : List Ins) : Bool := declB xa xb && decide (1 ≤ l.length) && decide (l.length ≤ 400) && l.all (insS xa.length xb.length l.length) && (lastOp l == 13 || lastOp l == 8)
theorem lastOp_get {l : List Ins} (h : l.length - 1 < l.length) : lastOp l = l[l.length - 1].op := by
  unfold lastOp; rw [List.getLast?_eq_getElem?, List.getElem?_eq_getElem h]
theorem fieldsS_drop {nv na nl : Nat} {ks : List UInt8} {ps : List Int} {j : Nat} (h : j < ps.length) : fieldsS nv na nl (ks.drop j) (ps.drop j) = ((if hk : j < ks.length then rangeS nv na nl ks[j].toNat ps[j] else ps[j] == 0) && fieldsS nv na nl (ks.drop (j + 1)) (ps.drop (j + 1))) := by
  rw [List.drop_eq_getElem_cons h]
  by_cases hk : j < ks.length
  · rw [List.drop_eq_getElem_cons hk, dif_pos hk]; rfl
  · rw [List.drop_of_length_le (l := ks) (i := j) (by omega), List.drop_of_length_le (l := ks) (i := j + 1) (by omega), dif_neg hk]; rfl
theorem fieldsI_drop {nv na nl : Nat} {ks : List UInt8} {ps : List Int} {j : Nat} (h : j < ps.length) (hk : j < ks.length) : fieldsI nv na nl (ks.drop j) (ps.drop j) = (rangeI nv na nl ks[j].toNat ps[j] && fieldsI nv na nl (ks.drop (j + 1)) (ps.drop (j + 1))) := by
  rw [List.drop_eq_getElem_cons h, List.drop_eq_getElem_cons hk]; rfl
end Go.Proofs.Ytbicpkmlionldaa.Val

/- CodeValid of spec and of impl, with what they call. No conditions. -/
namespace Go.Proofs.Ytbicpkmlionldaa.CodeV
open Go.RowKit Kit Val
set_option linter.unusedVariables false
theorem ints4 {w : World} {b : Nat} {T : TypeId} {f : Nat × Nat} {p q r s : Int} (h : w.heap[b]? = some (.cells #[.int .i64 p, .int .i64 q, .int .i64 r, .int .i64 s] T f)) {lo hi : Nat} (h0 : lo ≤ b) (h1 : b < hi) : IntsR w lo hi (.slice (some ⟨b, 0, none⟩) 4 4) [p, q, r, s] :=
  .cons b 0 4 [p, q, r, s] (by simp) h0 h1 (by simp) (by omega) (fun i hi t ht => by
    obtain rfl : t = 0 := by omega
    match i, hi with
    | 0, _ => exact cell_of_heap h 0
    | 1, _ => exact cell_of_heap h 1
    | 2, _ => exact cell_of_heap h 2
    | 3, _ => exact cell_of_heap h 3)
theorem ba_len {s : ByteArray} {l : List UInt8} (h : s.data.toList = l) : s.size = l.length := by subst h; rfl
theorem ba_get {s : ByteArray} {l : List UInt8} (h : s.data.toList = l) (j : Nat) (hj : j < s.size) (hj2 : j < l.length) : s[j] = l[j] := by subst h; rfl
set_option maxHeartbeats 400000 in
theorem l6Parts {w : World} (x : Ins) : Calls Try.prog 85 #[.agg #[.int .i64 x.op, .int .i64 x.a, .int .i64 x.b, .int .i64 x.c, .int .i64 x.d]] w fun e w' => e = .returned (.slice (some ⟨w.heap.size + 1, 0, none⟩) 4 4) ∧ New w w' ∧ IntsR w' w.heap.size w'.heap.size (.slice (some ⟨w.heap.size + 1, 0, none⟩) 4 4) (parts x) := by
  go_enter Try.func85, Try.ntmps85
  go_wp2_with fail
  go_ret
  exact ⟨rfl, ((Kp.refl _ _).alloc _).alloc _, ints4 (heap_at (by simp)) (by omega) (by simp)⟩
set_option maxHeartbeats 400000 in
theorem fields {w : World} (x : Ins) : Calls Try.prog 91 #[.agg #[.int .i64 x.op, .int .i64 x.a, .int .i64 x.b, .int .i64 x.c, .int .i64 x.d]] w fun e w' => e = .returned (.slice (some ⟨w.heap.size + 1, 0, none⟩) 4 4) ∧ New w w' ∧ IntsR w' w.heap.size w'.heap.size (.slice (some ⟨w.heap.size + 1, 0, none⟩) 4 4) (parts x) := by
  go_enter Try.func91, Try.ntmps91
  go_wp2_with fail
  go_ret
  exact ⟨rfl, ((Kp.refl _ _).alloc _).alloc _, ints4 (heap_at (by simp)) (by omega) (by simp)⟩
set_option maxHeartbeats 4000000 in
theorem l6Fields {w : World} {op : Int} (h1 : 1 ≤ op) (h2 : op ≤ 13) : Calls Try.prog 84 #[.int .i64 op] w fun e w' => ∃ s : ByteArray, e = .returned (.string s) ∧ s.data.toList = lettersS op ∧ New w w' := by
  obtain rfl | rfl | rfl | rfl | rfl | rfl | rfl | rfl | rfl | rfl | rfl | rfl | rfl := ops_of h1 h2
  all_goals
    go_enter Try.func84, Try.ntmps84
    go_wp2
    go_ret
    exact ⟨_, rfl, rfl, (Kp.refl _ _).alloc _⟩
set_option maxHeartbeats 4000000 in
theorem shapeOn {w : World} {op : Int} (h1 : 1 ≤ op) (h2 : op ≤ 13) : Calls Try.prog 90 #[.int .i64 op] w fun e w' => ∃ s : ByteArray, e = .returned (.string s) ∧ s.data.toList = lettersI op ∧ New w w' := by
  have hin : Lab.inside op 1 13 = true := by simp [Lab.inside]; omega
  obtain rfl | rfl | rfl | rfl | rfl | rfl | rfl | rfl | rfl | rfl | rfl | rfl | rfl := ops_of h1 h2
  all_goals
    clear h1 h2
    go_enter Try.func90, Try.ntmps90
    go_wp2_with fail
    refine (Lab.within _ _ _ _).mono ?_
    rintro e w1 ⟨rfl, rfl⟩
    rw [hin]
    clear hin
    go_wp2
    go_ret
    exact ⟨_, rfl, rfl, (Kp.refl _ _).alloc _⟩
theorem shapeOff {w : World} {op : Int} (h : op < 1 ∨ 13 < op) : Calls Try.prog 90 #[.int .i64 op] w fun e w' => e = .returned (.string ⟨#[]⟩) ∧ New w w' := by
  have hin : Lab.inside op 1 13 = false := by simp [Lab.inside]; omega
  go_enter Try.func90, Try.ntmps90
  go_wp2_with fail
  refine (Lab.within _ _ _ _).mono ?_
  rintro e w1 ⟨rfl, rfl⟩
  rw [hin]
  clear hin h
  go_wp2
  go_ret
  exact ⟨rfl, Kp.refl _ _⟩
set_option maxHeartbeats 4000000 in
theorem l6Range {w : World} {a a1 a2 : Option Addr} {n c n1 c1 n2 c2 : Nat} {x y : Int} (hn : n ≤ 9223372036854775807) (hn1 : n1 ≤ 9223372036854775807) (hn2 : n2 ≤ 9223372036854775807) :
    Calls Try.prog 86 #[.agg #[.slice a n c, .slice a1 n1 c1, .slice a2 n2 c2], .int .u8 x, .int .i64 y] w fun e w' => e = .returned (.bool (rangeS n n1 n2 x y)) ∧ New w w' := by
  by_cases h114 : x = 114
  · subst h114
    have D := Lib.hid (show rangeS n n1 n2 114 y = (decide (0 ≤ y) && decide (y < 14)) by simp [rangeS])
    by_cases g1 : 0 ≤ y
    · by_cases g2 : y < 14
      · go_enter Try.func86, Try.ntmps86
        go_wp2
        go_ret
        exact ⟨retB (by rw [D.out]; simp [g1, g2]), (Kp.refl _ _).alloc _⟩
      · go_enter Try.func86, Try.ntmps86
        go_wp2
        go_ret
        exact ⟨retB (by rw [D.out]; simp [g1, g2]), (Kp.refl _ _).alloc _⟩
    · go_enter Try.func86, Try.ntmps86
      go_wp2
      go_ret
      exact ⟨retB (by rw [D.out]; simp; omega), (Kp.refl _ _).alloc _⟩
  · by_cases h99 : x = 99
    · subst h99
      have D := Lib.hid (show rangeS n n1 n2 99 y = (decide (0 ≤ y) && decide (y ≤ 255)) by simp [rangeS])
      clear h114
      by_cases g1 : 0 ≤ y
      · by_cases g2 : y ≤ 255
        · go_enter Try.func86, Try.ntmps86
          go_wp2
          go_ret
          exact ⟨retB (by rw [D.out]; simp [g1, g2]), (Kp.refl _ _).alloc _⟩
        · go_enter Try.func86, Try.ntmps86
          go_wp2
          go_ret
          exact ⟨retB (by rw [D.out]; simp [g1, g2]), (Kp.refl _ _).alloc _⟩
      · go_enter Try.func86, Try.ntmps86
        go_wp2
        go_ret
        exact ⟨retB (by rw [D.out]; simp; omega), (Kp.refl _ _).alloc _⟩
    · by_cases h118 : x = 118
      · subst h118
        have D := Lib.hid (show rangeS n n1 n2 118 y = (decide (0 ≤ y) && decide (y < (n : Int))) by simp [rangeS])
        clear h114 h99
        by_cases g1 : 0 ≤ y
        · by_cases g2 : y < (n : Int)
          · go_enter Try.func86, Try.ntmps86
            go_wp2
            go_ret
            exact ⟨retB (by rw [D.out]; simp [g1, g2]), (Kp.refl _ _).alloc _⟩
          · go_enter Try.func86, Try.ntmps86
            go_wp2
            go_ret
            exact ⟨retB (by rw [D.out]; simp [g1, g2]), (Kp.refl _ _).alloc _⟩
        · go_enter Try.func86, Try.ntmps86
          go_wp2
          go_ret
          exact ⟨retB (by rw [D.out]; simp; omega), (Kp.refl _ _).alloc _⟩
      · by_cases h97 : x = 97
        · subst h97
          have D := Lib.hid (show rangeS n n1 n2 97 y = (decide (0 ≤ y) && decide (y < (n1 : Int))) by simp [rangeS])
          clear h114 h99 h118
          by_cases g1 : 0 ≤ y
          · by_cases g2 : y < (n1 : Int)
            · go_enter Try.func86, Try.ntmps86
              go_wp2
              go_ret
              exact ⟨retB (by rw [D.out]; simp [g1, g2]), (Kp.refl _ _).alloc _⟩
            · go_enter Try.func86, Try.ntmps86
              go_wp2
              go_ret
              exact ⟨retB (by rw [D.out]; simp [g1, g2]), (Kp.refl _ _).alloc _⟩
          · go_enter Try.func86, Try.ntmps86
            go_wp2
            go_ret
            exact ⟨retB (by rw [D.out]; simp; omega), (Kp.refl _ _).alloc _⟩
        · by_cases h111 : x = 111
          · subst h111
            have D := Lib.hid (show rangeS n n1 n2 111 y = (decide (4 ≤ y) && decide (y ≤ 10)) by simp [rangeS])
            clear h114 h99 h118 h97
            by_cases g1 : 4 ≤ y
            · by_cases g2 : y ≤ 10
              · go_enter Try.func86, Try.ntmps86
                go_wp2
                go_ret
                exact ⟨retB (by rw [D.out]; simp [g1, g2]), (Kp.refl _ _).alloc _⟩
              · go_enter Try.func86, Try.ntmps86
                go_wp2
                go_ret
                exact ⟨retB (by rw [D.out]; simp [g1, g2]), (Kp.refl _ _).alloc _⟩
            · go_enter Try.func86, Try.ntmps86
              go_wp2
              go_ret
              exact ⟨retB (by rw [D.out]; simp; omega), (Kp.refl _ _).alloc _⟩
          · have e114 : (x == 114) = false := by simp [h114]
            have e99 : (x == 99) = false := by simp [h99]
            have e118 : (x == 118) = false := by simp [h118]
            have e97 : (x == 97) = false := by simp [h97]
            have e111 : (x == 111) = false := by simp [h111]
            have D := Lib.hid (show rangeS n n1 n2 x y = (decide (0 ≤ y) && decide (y < (n2 : Int))) by simp [rangeS, h114, h99, h118, h97, h111])
            clear h114 h99 h118 h97 h111
            by_cases g1 : 0 ≤ y
            · by_cases g2 : y < (n2 : Int)
              · go_enter Try.func86, Try.ntmps86
                go_wp2
                go_ret
                exact ⟨retB (by rw [D.out]; simp [g1, g2]), (Kp.refl _ _).alloc _⟩
              · go_enter Try.func86, Try.ntmps86
                go_wp2
                go_ret
                exact ⟨retB (by rw [D.out]; simp [g1, g2]), (Kp.refl _ _).alloc _⟩
            · go_enter Try.func86, Try.ntmps86
              go_wp2
              go_ret
              exact ⟨retB (by rw [D.out]; simp; omega), (Kp.refl _ _).alloc _⟩
set_option maxHeartbeats 4000000 in
theorem fieldOk {w : World} {a a1 a2 : Option Addr} {n c n1 c1 n2 c2 : Nat} {x y : Int} (hn : n ≤ 9223372036854775807) (hn1 : n1 ≤ 9223372036854775807) (hn2 : n2 ≤ 9223372036854775807) :
    Calls Try.prog 92 #[.agg #[.slice a n c, .slice a1 n1 c1, .slice a2 n2 c2], .int .u8 x, .int .i64 y] w fun e w' => e = .returned (.bool (rangeI n n1 n2 x y)) ∧ New w w' := by
  by_cases h114 : x = 114
  · subst h114
    have D := Lib.hid (show rangeI n n1 n2 114 y = Lab.inside y 0 13 by simp [rangeI])
    go_enter Try.func92, Try.ntmps92
    go_wp2_with fail
    refine (Lab.within _ _ _ _).mono ?_
    rintro e w1 ⟨rfl, rfl⟩
    go_wp2
    go_ret
    exact ⟨retB D.out.symm, (Kp.refl _ _).alloc _⟩
  · by_cases h118 : x = 118
    · subst h118
      have D := Lib.hid (show rangeI n n1 n2 118 y = Lab.inside y 0 ((n : Int) - 1) by simp [rangeI])
      clear h114
      go_enter Try.func92, Try.ntmps92
      go_wp2_with fail
      refine (Lab.within _ _ _ _).mono ?_
      rintro e w1 ⟨rfl, rfl⟩
      go_wp2
      go_ret
      exact ⟨retB D.out.symm, (Kp.refl _ _).alloc _⟩
    · by_cases h97 : x = 97
      · subst h97
        have D := Lib.hid (show rangeI n n1 n2 97 y = Lab.inside y 0 ((n1 : Int) - 1) by simp [rangeI])
        clear h114 h118
        go_enter Try.func92, Try.ntmps92
        go_wp2_with fail
        refine (Lab.within _ _ _ _).mono ?_
        rintro e w1 ⟨rfl, rfl⟩
        go_wp2
        go_ret
        exact ⟨retB D.out.symm, (Kp.refl _ _).alloc _⟩
      · by_cases h110 : x = 110
        · subst h110
          have D := Lib.hid (show rangeI n n1 n2 110 y = Lab.inside y 0 255 by simp [rangeI])
          clear h114 h118 h97
          go_enter Try.func92, Try.ntmps92
          go_wp2_with fail
          refine (Lab.within _ _ _ _).mono ?_
          rintro e w1 ⟨rfl, rfl⟩
          go_wp2
          go_ret
          exact ⟨retB D.out.symm, (Kp.refl _ _).alloc _⟩
        · by_cases h111 : x = 111
          · subst h111
            have D := Lib.hid (show rangeI n n1 n2 111 y = Lab.inside y 4 10 by simp [rangeI])
            clear h114 h118 h97 h110
            go_enter Try.func92, Try.ntmps92
            go_wp2_with fail
            refine (Lab.within _ _ _ _).mono ?_
            rintro e w1 ⟨rfl, rfl⟩
            go_wp2
            go_ret
            exact ⟨retB D.out.symm, (Kp.refl _ _).alloc _⟩
          · by_cases h105 : x = 105
            · subst h105
              have D := Lib.hid (show rangeI n n1 n2 105 y = Lab.inside y 0 ((n2 : Int) - 1) by simp [rangeI])
              clear h114 h118 h97 h110 h111
              go_enter Try.func92, Try.ntmps92
              go_wp2_with fail
              refine (Lab.within _ _ _ _).mono ?_
              rintro e w1 ⟨rfl, rfl⟩
              go_wp2
              go_ret
              exact ⟨retB D.out.symm, (Kp.refl _ _).alloc _⟩
            · have e114 : (x == 114) = false := by simp [h114]
              have e118 : (x == 118) = false := by simp [h118]
              have e97 : (x == 97) = false := by simp [h97]
              have e110 : (x == 110) = false := by simp [h110]
              have e111 : (x == 111) = false := by simp [h111]
              have e105 : (x == 105) = false := by simp [h105]
              have D := Lib.hid (show rangeI n n1 n2 x y = (y == 0) by simp [rangeI, h114, h118, h97, h110, h111, h105])
              clear h114 h118 h97 h110 h111 h105
              go_enter Try.func92, Try.ntmps92
              go_wp2
              go_ret
              exact ⟨retB D.out.symm, (Kp.refl _ _).alloc _⟩
end Go.Proofs.Ytbicpkmlionldaa.CodeV

/- l6Instr of spec, instrOk of impl. No conditions. -/
namespace Go.Proofs.Ytbicpkmlionldaa.InsV
open Go.RowKit Kit Val CodeV
set_option linter.unusedVariables false
set_option maxHeartbeats 1000000 in
theorem l6Instr {w : World} {a a1 a2 : Option Addr} {n c n1 c1 n2 c2 : Nat} (x : Ins) (hn : n ≤ 9223372036854775807) (hn1 : n1 ≤ 9223372036854775807) (hn2 : n2 ≤ 9223372036854775807) :
    Calls Try.prog 52 #[.agg #[.slice a n c, .slice a1 n1 c1, .slice a2 n2 c2], .agg #[.int .i64 x.op, .int .i64 x.a, .int .i64 x.b, .int .i64 x.c, .int .i64 x.d]] w fun e w' => e = .returned (.bool (insS n n1 n2 x)) ∧ New w w' := by
  by_cases g1 : 1 ≤ x.op
  rotate_left
  · have D := Lib.hid (show insS n n1 n2 x = false by simp [insS, g1])
    go_enter Try.func52, Try.ntmps52
    go_wp2
    go_ret
    exact ⟨retB D.out.symm, ((Kp.refl _ _).alloc _).alloc _⟩
  by_cases g2 : x.op ≤ 13
  rotate_left
  · have D := Lib.hid (show insS n n1 n2 x = false by simp [insS, g2])
    go_enter Try.func52, Try.ntmps52
    go_wp2
    go_ret
    exact ⟨retB D.out.symm, ((Kp.refl _ _).alloc _).alloc _⟩
  · go_enter Try.func52, Try.ntmps52
    go_wp2_with fail
    have N0 : New w ((w.alloc (.cells #[.slice a n c, .slice a1 n1 c1, .slice a2 n2 c2] 26)).alloc (.cells #[.int .i64 x.op, .int .i64 x.a, .int .i64 x.b, .int .i64 x.c, .int .i64 x.d] 42)) := (((Kp.refl _ _).alloc _).alloc _)
    have bA_0 : ((w.alloc (.cells #[.slice a n c, .slice a1 n1 c1, .slice a2 n2 c2] 26)).alloc (.cells #[.int .i64 x.op, .int .i64 x.a, .int .i64 x.b, .int .i64 x.c, .int .i64 x.d] 42)).heap[w.heap.size]? = some (.cells #[.slice a n c, .slice a1 n1 c1, .slice a2 n2 c2] 26) := heap_old (alloc_heap _ _)
    have bB_0 : ((w.alloc (.cells #[.slice a n c, .slice a1 n1 c1, .slice a2 n2 c2] 26)).alloc (.cells #[.int .i64 x.op, .int .i64 x.a, .int .i64 x.b, .int .i64 x.c, .int .i64 x.d] 42)).heap[w.heap.size + 1]? = some (.cells #[.int .i64 x.op, .int .i64 x.a, .int .i64 x.b, .int .i64 x.c, .int .i64 x.d] 42) := heap_at (by simp)
    have z0 : w.heap.size + 1 < ((w.alloc (.cells #[.slice a n c, .slice a1 n1 c1, .slice a2 n2 c2] 26)).alloc (.cells #[.int .i64 x.op, .int .i64 x.a, .int .i64 x.b, .int .i64 x.c, .int .i64 x.d] 42)).heap.size := by simp
    generalize ((w.alloc (.cells #[.slice a n c, .slice a1 n1 c1, .slice a2 n2 c2] 26)).alloc (.cells #[.int .i64 x.op, .int .i64 x.a, .int .i64 x.b, .int .i64 x.c, .int .i64 x.d] 42)) = w0 at *
    have bB_0_c0 := cell_of_heap bB_0 0
    refine (l6Fields g1 g2).mono ?_
    rintro e w1 ⟨ks, rfl, hks, hn1⟩
    have z1 := hn1.size
    have N1 : New w w1 := N0.trans hn1
    have bA_1 := heap_new hn1 bA_0
    have bB_1 := heap_new hn1 bB_0
    clear bB_0_c0
    clear bA_0 bB_0 hn1
    have KS := Lib.hid hks
    have kl : ks.size ≤ 4 := by rw [ba_len hks]; exact lettersS_len _
    clear hks
    obtain ⟨bB_1_c0, bB_1_c1, bB_1_c2, bB_1_c3, bB_1_c4⟩ := cells5 bB_1
    go_wp2_with fail
    refine (l6Parts x).mono ?_
    rintro e w2 ⟨rfl, hn2, hp⟩
    have z2 := hn2.size
    have N2 : New w w2 := N1.trans hn2
    have bA_2 := heap_new hn2 bA_1
    have bB_2 := heap_new hn2 bB_1
    clear bB_1_c0 bB_1_c1 bB_1_c2 bB_1_c3 bB_1_c4
    clear bA_1 bB_1 hn2
    have oP_2 := hp
    clear hp
    obtain ⟨pn, hpn⟩ : ∃ q, q = w1.heap.size + 1 := ⟨_, rfl⟩
    rw [← hpn] at oP_2 ⊢
    clear hpn
    go_wp2_with fail
    go_loopw [7] (fun i wr => ∃ j : Nat, j ≤ 4 ∧ i = .int .i64 j ∧ New w2 wr ∧ Hid (fieldsS n n1 n2 (lettersS x.op) (parts x) = fieldsS n n1 n2 ((lettersS x.op).drop j) ((parts x).drop j))) (fun i _ => 4 - (intOf i).toNat)
    case atStart => exact ⟨0, by omega, rfl, Kp.refl _ _, Lib.hid rfl⟩
    case round =>
      obtain ⟨j, hj, rfl, hNA, hD⟩ := hrel
      have N3 := N2.trans hNA
      have bA3 := heap_new hNA bA_2
      obtain ⟨cA0, cA1, cA2⟩ := cells3 bA3
      by_cases hlt : j < 4
      · have hpl : j < (parts x).length := by simpa [parts] using hlt
        obtain ⟨b, o, e, hb1, hb2, c0⟩ := IntsR.at (oP_2.new (Nat.le_refl _) hNA) j hpl
        cases e
        rw [Nat.zero_add] at c0
        have hF := Lib.hid (fieldsS_drop (nv := n) (na := n1) (nl := n2) (ks := lettersS x.op) hpl)
        have Z0 := Lib.hid (show insS n n1 n2 x = fieldsS n n1 n2 (lettersS x.op) (parts x) by simp [insS, g1, g2])
        generalize (parts x)[j] = y at *
        clear oP_2
        by_cases hk : j < ks.size
        · have hk2 : j < (lettersS x.op).length := by rw [← ba_len KS.out]; exact hk
          have hR := Lib.hid (show (if hq : j < (lettersS x.op).length then rangeS n n1 n2 (lettersS x.op)[j].toNat y else y == 0) = rangeS n n1 n2 (ks[j].toNat : Int) y by
            rw [dif_pos hk2, ba_get KS.out j hk hk2])
          clear hk2
          have k1 : decide (j < ks.size) = true := by simpa using hk
          have k2 : decide (ks.size ≤ j) = false := by simpa using hk
          cases hp0 : rangeS n n1 n2 (ks[j].toNat : Int) y
          · have hfin := Lib.hid (show insS n n1 n2 x = false by rw [Z0.out, hD.out, hF.out, hR.out, hp0]; rfl)
            have hp := Lib.hid hp0
            clear hD hF hR Z0 hp0
            go_wp2_with fail
            refine wp_region_held_drew (S := fun w' => w'.cell? ⟨w.heap.size, 0, none⟩ = some (.slice a n c) ∧ w'.cell? ⟨w.heap.size, 1, none⟩ = some (.slice a1 n1 c1) ∧ w'.cell? ⟨w.heap.size, 2, none⟩ = some (.slice a2 n2 c2) ∧ w'.cell? ⟨pn, j, none⟩ = some (.int .i64 y)) (by kernel_rfl) ?_ (fun hHeld => ?_)
            · exact ⟨cA0, cA1, cA2, c0⟩
            refine HT 0 rfl ?_
            try simp only [AP]
            refine HT 1 rfl ?_
            try simp only [AP]
            refine HT 2 rfl ?_
            try simp only [AP]
            refine HT 3 rfl ?_
            try simp only [AP]
            refine HT 4 rfl ?_
            try simp only [AP]
            refine HT 5 rfl ?_
            try simp only [AP]
            refine HT 6 rfl ?_
            try simp only [AP]
            refine HT 7 rfl ?_
            try simp only [AP]
            refine HT 8 rfl ?_
            try simp only [AP]
            refine HT 9 rfl ?_
            try simp only [AP]
            refine HT 10 rfl ?_
            try simp only [AP]
            refine HT 11 rfl ?_
            try simp only [AP]
            refine HT 12 rfl ?_
            try simp only [AP]
            refine HR 13 rfl fun K hK => ?_
            go_simp
            refine (l6Range hn hn1 hn2).mono ?_
            rintro r w3 ⟨rfl, hn3⟩
            rw [hp.out]
            have N4 := N3.drew.trans hn3
            have hNA2 := hNA.drew.trans hn3
            have bA4 := heap_new hNA2 bA_2
            obtain ⟨d0, d1, d2⟩ := cells3 bA4
            have d3 := (hn3.cell (b := pn) (by have := cell_lt c0; simpa using this) (fun f => f) j).trans c0
            go_simp
            refine hK.out _ _ ?_ (fun hHeld2 => ?_)
            · exact ⟨d0, d1, d2, d3⟩
            clear hK K hHeld
            have hHeld := hHeld2
            clear hHeld2
            try simp only [AP]
            refine HT 14 rfl ?_
            try simp only [AP]
            refine HT 15 rfl ?_
            try simp only [AP]
            refine HT 16 rfl ?_
            try simp only [AP]
            refine HS 17 rfl ?_
            try simp only [AP]
            refine HS 18 rfl ?_
            try simp only [AP]
            refine HS 19 rfl ?_
            try simp only [AP]
            refine HS 20 rfl ?_
            try simp only [AP]
            refine HS 21 rfl ?_
            try simp only [AP]
            refine HS 22 rfl ?_
            try simp only [AP]
            refine HS 23 rfl ?_
            try simp only [AP]
            refine HS 24 rfl ?_
            try simp only [AP]
            refine HS 25 rfl ?_
            try simp only [AP]
            refine HS 26 rfl ?_
            try simp only [AP]
            refine HS 27 rfl ?_
            try simp only [AP]
            refine HT 28 rfl ?_
            try simp only [AP]
            refine wpAnyH_done (by kernel_rfl) ?_ _
            go_wp2
            go_ret
            exact ⟨retB hfin.out.symm, N4⟩
          · have hD2 := Lib.hid (show fieldsS n n1 n2 (lettersS x.op) (parts x) = fieldsS n n1 n2 ((lettersS x.op).drop (j + 1)) ((parts x).drop (j + 1)) by rw [hD.out, hF.out, hR.out, hp0]; rfl)
            have hp := Lib.hid hp0
            clear hD hF hR Z0 hp0
            go_wp2_with fail
            refine wp_region_held_drew (S := fun w' => w'.cell? ⟨w.heap.size, 0, none⟩ = some (.slice a n c) ∧ w'.cell? ⟨w.heap.size, 1, none⟩ = some (.slice a1 n1 c1) ∧ w'.cell? ⟨w.heap.size, 2, none⟩ = some (.slice a2 n2 c2) ∧ w'.cell? ⟨pn, j, none⟩ = some (.int .i64 y)) (by kernel_rfl) ?_ (fun hHeld => ?_)
            · exact ⟨cA0, cA1, cA2, c0⟩
            refine HT 0 rfl ?_
            try simp only [AP]
            refine HT 1 rfl ?_
            try simp only [AP]
            refine HT 2 rfl ?_
            try simp only [AP]
            refine HT 3 rfl ?_
            try simp only [AP]
            refine HT 4 rfl ?_
            try simp only [AP]
            refine HT 5 rfl ?_
            try simp only [AP]
            refine HT 6 rfl ?_
            try simp only [AP]
            refine HT 7 rfl ?_
            try simp only [AP]
            refine HT 8 rfl ?_
            try simp only [AP]
            refine HT 9 rfl ?_
            try simp only [AP]
            refine HT 10 rfl ?_
            try simp only [AP]
            refine HT 11 rfl ?_
            try simp only [AP]
            refine HT 12 rfl ?_
            try simp only [AP]
            refine HR 13 rfl fun K hK => ?_
            go_simp
            refine (l6Range hn hn1 hn2).mono ?_
            rintro r w3 ⟨rfl, hn3⟩
            rw [hp.out]
            have N4 := N3.drew.trans hn3
            have hNA2 := hNA.drew.trans hn3
            have bA4 := heap_new hNA2 bA_2
            obtain ⟨d0, d1, d2⟩ := cells3 bA4
            have d3 := (hn3.cell (b := pn) (by have := cell_lt c0; simpa using this) (fun f => f) j).trans c0
            go_simp
            refine hK.out _ _ ?_ (fun hHeld2 => ?_)
            · exact ⟨d0, d1, d2, d3⟩
            clear hK K hHeld
            have hHeld := hHeld2
            clear hHeld2
            try simp only [AP]
            refine HT 14 rfl ?_
            try simp only [AP]
            refine HT 15 rfl ?_
            try simp only [AP]
            refine HT 16 rfl ?_
            try simp only [AP]
            refine HT 17 rfl ?_
            try simp only [AP]
            refine HT 18 rfl ?_
            try simp only [AP]
            refine HT 19 rfl ?_
            try simp only [AP]
            refine HT 20 rfl ?_
            try simp only [AP]
            refine HT 21 rfl ?_
            try simp only [AP]
            refine HS 22 rfl ?_
            try simp only [AP]
            refine HS 23 rfl ?_
            try simp only [AP]
            refine HS 24 rfl ?_
            try simp only [AP]
            refine HS 25 rfl ?_
            try simp only [AP]
            refine HS 26 rfl ?_
            try simp only [AP]
            refine HT 27 rfl ?_
            try simp only [AP]
            refine HT 28 rfl ?_
            try simp only [AP]
            refine wpAnyH_done (by kernel_rfl) ?_ _
            go_wp2
            go_roundw
            case rel => exact ⟨j + 1, by omega, by go_num, hNA2, hD2⟩
            case measure => simp [intOf]; omega
        · have hR := Lib.hid (show (if hq : j < (lettersS x.op).length then rangeS n n1 n2 (lettersS x.op)[j].toNat y else y == 0) = (y == 0) by
            rw [dif_neg (by rw [← ba_len KS.out]; exact hk)])
          have hk3 : ks.size ≤ j := by omega
          have k1 : decide (j < ks.size) = false := by simp; omega
          have k2 : decide (ks.size ≤ j) = true := by simp; omega
          by_cases hy : y = 0
          · have hy2 : (y != 0) = false := by simp [hy]
            have hD2 := Lib.hid (show fieldsS n n1 n2 (lettersS x.op) (parts x) = fieldsS n n1 n2 ((lettersS x.op).drop (j + 1)) ((parts x).drop (j + 1)) by rw [hD.out, hF.out, hR.out, hy]; rfl)
            clear hD hF hR Z0 hy
            go_wp2_with fail
            go_quiet (fail)
            go_wp2
            go_roundw
            case rel => exact ⟨j + 1, by omega, by go_num, drewN_kp _ _ hNA, hD2⟩
            case measure => simp [intOf]; omega
          · have hy2 : (y != 0) = true := by simp [hy]
            have hfin := Lib.hid (show insS n n1 n2 x = false by
              have : (y == 0) = false := by simp [hy]
              rw [Z0.out, hD.out, hF.out, hR.out, this]; rfl)
            clear hD hF hR Z0 hy
            go_wp2_with fail
            go_quiet (fail)
            go_wp2
            go_ret
            exact ⟨retB hfin.out.symm, drewN_kp _ _ N3⟩
      · have hfin := Lib.hid (show insS n n1 n2 x = true by
          have Z0 : insS n n1 n2 x = fieldsS n n1 n2 (lettersS x.op) (parts x) := by simp [insS, g1, g2]
          rw [Z0, hD.out, List.drop_of_length_le (l := parts x) (by simp [parts]; omega)]
          cases (lettersS x.op).drop j <;> rfl)
        have hge : 4 ≤ j := by omega
        clear hD
        go_wp2
        go_ret
        exact ⟨retB hfin.out.symm, N3⟩
end Go.Proofs.Ytbicpkmlionldaa.InsV

/- instrOk of impl, the literal of CodeValid, IndexFunc and ContainsFunc at instructions. No conditions. -/
namespace Go.Proofs.Ytbicpkmlionldaa.InsW
open Go.RowKit Kit Val CodeV
set_option linter.unusedVariables false
set_option maxHeartbeats 1000000 in
theorem instrOff {w : World} {a a1 a2 : Option Addr} {n c n1 c1 n2 c2 : Nat} (x : Ins) (g : x.op < 1 ∨ 13 < x.op) :
    Calls Try.prog 59 #[.agg #[.slice a n c, .slice a1 n1 c1, .slice a2 n2 c2], .agg #[.int .i64 x.op, .int .i64 x.a, .int .i64 x.b, .int .i64 x.c, .int .i64 x.d]] w fun e w' => e = .returned (.bool (insI n n1 n2 x)) ∧ New w w' := by
  go_enter Try.func59, Try.ntmps59
  go_wp2_with fail
  have N0 : New w ((w.alloc (.cells #[.slice a n c, .slice a1 n1 c1, .slice a2 n2 c2] 26)).alloc (.cells #[.int .i64 x.op, .int .i64 x.a, .int .i64 x.b, .int .i64 x.c, .int .i64 x.d] 42)) := (((Kp.refl _ _).alloc _).alloc _)
  have bA_0 : ((w.alloc (.cells #[.slice a n c, .slice a1 n1 c1, .slice a2 n2 c2] 26)).alloc (.cells #[.int .i64 x.op, .int .i64 x.a, .int .i64 x.b, .int .i64 x.c, .int .i64 x.d] 42)).heap[w.heap.size]? = some (.cells #[.slice a n c, .slice a1 n1 c1, .slice a2 n2 c2] 26) := heap_old (alloc_heap _ _)
  have bB_0 : ((w.alloc (.cells #[.slice a n c, .slice a1 n1 c1, .slice a2 n2 c2] 26)).alloc (.cells #[.int .i64 x.op, .int .i64 x.a, .int .i64 x.b, .int .i64 x.c, .int .i64 x.d] 42)).heap[w.heap.size + 1]? = some (.cells #[.int .i64 x.op, .int .i64 x.a, .int .i64 x.b, .int .i64 x.c, .int .i64 x.d] 42) := heap_at (by simp)
  have z0 : w.heap.size + 1 < ((w.alloc (.cells #[.slice a n c, .slice a1 n1 c1, .slice a2 n2 c2] 26)).alloc (.cells #[.int .i64 x.op, .int .i64 x.a, .int .i64 x.b, .int .i64 x.c, .int .i64 x.d] 42)).heap.size := by simp
  generalize ((w.alloc (.cells #[.slice a n c, .slice a1 n1 c1, .slice a2 n2 c2] 26)).alloc (.cells #[.int .i64 x.op, .int .i64 x.a, .int .i64 x.b, .int .i64 x.c, .int .i64 x.d] 42)) = w0 at *
  have bB_0_c0 := cell_of_heap bB_0 0
  refine (shapeOff g).mono ?_
  rintro e w1 ⟨rfl, hn1⟩
  have z1 := hn1.size
  have N1 : New w w1 := N0.trans hn1
  have bA_1 := heap_new hn1 bA_0
  have bB_1 := heap_new hn1 bB_0
  clear bB_0_c0
  clear bA_0 bB_0 hn1
  obtain ⟨bB_1_c0, bB_1_c1, bB_1_c2, bB_1_c3, bB_1_c4⟩ := cells5 bB_1
  go_wp2_with fail
  refine (fields x).mono ?_
  rintro e w2 ⟨rfl, hn2, hp⟩
  have z2 := hn2.size
  have N2 : New w w2 := N1.trans hn2
  have bA_2 := heap_new hn2 bA_1
  have bB_2 := heap_new hn2 bB_1
  clear bB_1_c0 bB_1_c1 bB_1_c2 bB_1_c3 bB_1_c4
  clear bA_1 bB_1 hn2
  have oP_2 := hp
  clear hp
  obtain ⟨pn, hpn⟩ : ∃ q, q = w1.heap.size + 1 := ⟨_, rfl⟩
  rw [← hpn] at oP_2 ⊢
  clear hpn
  have hp0 : 0 < (parts x).length := by simp [parts]
  obtain ⟨b, o, e, hb1, hb2, c0⟩ := IntsR.at oP_2 0 hp0
  cases e
  rw [Nat.zero_add] at c0
  have D := Lib.hid (show insI n n1 n2 x = false by simp [insI, lettersI_off g, parts, fieldsI])
  generalize (parts x)[0] = y at *
  clear oP_2 g
  go_wp2_with fail
  go_loopw [14] (fun i wr => i = .int .i64 0 ∧ New w2 wr) (fun i _ => 4 - (intOf i).toNat)
  case atStart => exact ⟨rfl, Kp.refl _ _⟩
  case round =>
    obtain ⟨rfl, hNA⟩ := hrel
    have N3 := N2.trans hNA
    have d0 := (hNA.cell (b := pn) (by omega) (fun f => f) 0).trans c0
    go_wp2_with fail
    go_quiet (fail)
    go_wp2
    go_ret
    exact ⟨retB D.out.symm, drewN_kp _ _ N3⟩
set_option maxHeartbeats 1000000 in
theorem instrOn {w : World} {a a1 a2 : Option Addr} {n c n1 c1 n2 c2 : Nat} (x : Ins) (hn : n ≤ 9223372036854775807) (hn1 : n1 ≤ 9223372036854775807) (hn2 : n2 ≤ 9223372036854775807) (g1 : 1 ≤ x.op) (g2 : x.op ≤ 13) :
    Calls Try.prog 59 #[.agg #[.slice a n c, .slice a1 n1 c1, .slice a2 n2 c2], .agg #[.int .i64 x.op, .int .i64 x.a, .int .i64 x.b, .int .i64 x.c, .int .i64 x.d]] w fun e w' => e = .returned (.bool (insI n n1 n2 x)) ∧ New w w' := by
  go_enter Try.func59, Try.ntmps59
  go_wp2_with fail
  have N0 : New w ((w.alloc (.cells #[.slice a n c, .slice a1 n1 c1, .slice a2 n2 c2] 26)).alloc (.cells #[.int .i64 x.op, .int .i64 x.a, .int .i64 x.b, .int .i64 x.c, .int .i64 x.d] 42)) := (((Kp.refl _ _).alloc _).alloc _)
  have bA_0 : ((w.alloc (.cells #[.slice a n c, .slice a1 n1 c1, .slice a2 n2 c2] 26)).alloc (.cells #[.int .i64 x.op, .int .i64 x.a, .int .i64 x.b, .int .i64 x.c, .int .i64 x.d] 42)).heap[w.heap.size]? = some (.cells #[.slice a n c, .slice a1 n1 c1, .slice a2 n2 c2] 26) := heap_old (alloc_heap _ _)
  have bB_0 : ((w.alloc (.cells #[.slice a n c, .slice a1 n1 c1, .slice a2 n2 c2] 26)).alloc (.cells #[.int .i64 x.op, .int .i64 x.a, .int .i64 x.b, .int .i64 x.c, .int .i64 x.d] 42)).heap[w.heap.size + 1]? = some (.cells #[.int .i64 x.op, .int .i64 x.a, .int .i64 x.b, .int .i64 x.c, .int .i64 x.d] 42) := heap_at (by simp)
  have z0 : w.heap.size + 1 < ((w.alloc (.cells #[.slice a n c, .slice a1 n1 c1, .slice a2 n2 c2] 26)).alloc (.cells #[.int .i64 x.op, .int .i64 x.a, .int .i64 x.b, .int .i64 x.c, .int .i64 x.d] 42)).heap.size := by simp
  generalize ((w.alloc (.cells #[.slice a n c, .slice a1 n1 c1, .slice a2 n2 c2] 26)).alloc (.cells #[.int .i64 x.op, .int .i64 x.a, .int .i64 x.b, .int .i64 x.c, .int .i64 x.d] 42)) = w0 at *
  have bB_0_c0 := cell_of_heap bB_0 0
  refine (shapeOn g1 g2).mono ?_
  rintro e w1 ⟨ks, rfl, hks, hn1⟩
  have z1 := hn1.size
  have N1 : New w w1 := N0.trans hn1
  have bA_1 := heap_new hn1 bA_0
  have bB_1 := heap_new hn1 bB_0
  clear bB_0_c0
  clear bA_0 bB_0 hn1
  have KS := Lib.hid hks
  have kl : ks.size = 4 := by rw [ba_len hks]; exact lettersI_on g1 g2
  have klh := Lib.hid kl
  have k4 : 4 ≤ ks.size := by omega
  have k4b : ks.size ≤ 4 := by omega
  clear hks kl
  obtain ⟨bB_1_c0, bB_1_c1, bB_1_c2, bB_1_c3, bB_1_c4⟩ := cells5 bB_1
  go_wp2_with fail
  refine (fields x).mono ?_
  rintro e w2 ⟨rfl, hn2, hp⟩
  have z2 := hn2.size
  have N2 : New w w2 := N1.trans hn2
  have bA_2 := heap_new hn2 bA_1
  have bB_2 := heap_new hn2 bB_1
  clear bB_1_c0 bB_1_c1 bB_1_c2 bB_1_c3 bB_1_c4
  clear bA_1 bB_1 hn2
  have oP_2 := hp
  clear hp
  have hne : ks.toList.isEmpty = false := by
    rw [ByteArray.toList_eq]
    cases h : ks.data.toList with
    | nil => have h1 : ks.size = 0 := ba_len h; omega
    | cons => rfl
  obtain ⟨pn, hpn⟩ : ∃ q, q = w1.heap.size + 1 := ⟨_, rfl⟩
  rw [← hpn] at oP_2 ⊢
  clear hpn
  go_wp2_with fail
  go_loopw [14] (fun i wr => ∃ j : Nat, j ≤ 4 ∧ i = .int .i64 j ∧ New w2 wr ∧ Hid (insI n n1 n2 x = fieldsI n n1 n2 ((lettersI x.op).drop j) ((parts x).drop j))) (fun i _ => 4 - (intOf i).toNat)
  case atStart => exact ⟨0, by omega, rfl, Kp.refl _ _, Lib.hid rfl⟩
  case round =>
    obtain ⟨j, hj, rfl, hNA, hD⟩ := hrel
    have N3 := N2.trans hNA
    have bA3 := heap_new hNA bA_2
    obtain ⟨cA0, cA1, cA2⟩ := cells3 bA3
    by_cases hlt : j < 4
    · have hpl : j < (parts x).length := by simpa [parts] using hlt
      obtain ⟨b, o, e, hb1, hb2, c0⟩ := IntsR.at (oP_2.new (Nat.le_refl _) hNA) j hpl
      cases e
      rw [Nat.zero_add] at c0
      have hk : j < ks.size := by omega
      have hk2 : j < (lettersI x.op).length := by rw [← ba_len KS.out]; exact hk
      have hF := Lib.hid (fieldsI_drop (nv := n) (na := n1) (nl := n2) hpl hk2)
      have hR := Lib.hid (show (lettersI x.op)[j] = ks[j] from (ba_get KS.out j hk hk2).symm)
      clear oP_2
      generalize (parts x)[j] = y at *
      go_wp2_with fail
      set_option maxRecDepth 100000 in go_still_tail 8, (by kernel_rfl)
      change wpList _ _ _ _ _ wr.drew
      go_wp2_with fail
      refine (fieldOk hn hn1 hn2).mono ?_
      rintro r w3 ⟨rfl, hn3⟩
      have N4 := N3.drew.trans hn3
      have hNA2 := hNA.drew.trans hn3
      cases hp : rangeI n n1 n2 (ks[j].toNat : Int) y
      · have hfin := Lib.hid (show insI n n1 n2 x = false by rw [hD.out, hF.out, hR.out, hp]; rfl)
        clear hD hF hR hp
        go_wp2
        go_ret
        exact ⟨retB hfin.out.symm, N4⟩
      · have hD2 := Lib.hid (show insI n n1 n2 x = fieldsI n n1 n2 ((lettersI x.op).drop (j + 1)) ((parts x).drop (j + 1)) by rw [hD.out, hF.out, hR.out, hp]; rfl)
        clear hD hF hR hp
        go_wp2
        go_roundw
        case rel => exact ⟨j + 1, by omega, by go_num, hNA2, hD2⟩
        case measure => simp [intOf]; omega
    · have hfin := Lib.hid (show insI n n1 n2 x = true by
        rw [hD.out, List.drop_of_length_le (l := parts x) (by simp [parts]; omega)]
        cases (lettersI x.op).drop j <;> rfl)
      have hge : 4 ≤ j := by omega
      clear hD
      go_wp2
      go_ret
      exact ⟨retB hfin.out.symm, N3⟩
theorem instrOk {w : World} {a a1 a2 : Option Addr} {n c n1 c1 n2 c2 : Nat} (x : Ins) (hn : n ≤ 9223372036854775807) (hn1 : n1 ≤ 9223372036854775807) (hn2 : n2 ≤ 9223372036854775807) :
    Calls Try.prog 59 #[.agg #[.slice a n c, .slice a1 n1 c1, .slice a2 n2 c2], .agg #[.int .i64 x.op, .int .i64 x.a, .int .i64 x.b, .int .i64 x.c, .int .i64 x.d]] w fun e w' => e = .returned (.bool (insI n n1 n2 x)) ∧ New w w' := by
  by_cases g1 : 1 ≤ x.op
  · by_cases g2 : x.op ≤ 13
    · exact instrOn x hn hn1 hn2 g1 g2
    · exact instrOff x (by omega)
  · exact instrOff x (by omega)
set_option maxHeartbeats 1000000 in
theorem lit {w : World} {a a1 a2 : Option Addr} {n c n1 c1 n2 c2 : Nat} {bc : Nat} (x : Ins) (hn : n ≤ 9223372036854775807) (hn1 : n1 ≤ 9223372036854775807) (hn2 : n2 ≤ 9223372036854775807) (hb : w.heap[bc]? = some (.cells #[.slice a n c, .slice a1 n1 c1, .slice a2 n2 c2] 26 (0, 0))) :
    Calls Try.prog 58 #[.agg #[.int .i64 x.op, .int .i64 x.a, .int .i64 x.b, .int .i64 x.c, .int .i64 x.d], .pointer (some ⟨bc, 0, none⟩)] w fun e w' => e = .returned (.bool (!insI n n1 n2 x)) ∧ New w w' := by
  have hlt := heap_lt hb
  obtain ⟨d0, d1, d2⟩ := cells3 hb
  go_enter Try.func58, Try.ntmps58
  go_wp2_with fail
  refine (instrOk x hn hn1 hn2).mono ?_
  rintro r w3 ⟨rfl, hn3⟩
  go_wp2
  go_ret
  exact ⟨rfl, ((Kp.refl _ _).alloc _).trans hn3⟩
set_option maxHeartbeats 1000000 in
theorem indexFuncN (f : Nat) (he : ∀ args w, (callFunc f args).run Try.prog w = .ok (.enter f args) w) (bc : Nat) (p : Ins → Bool) (w : World) (hf : ∀ (w1 : World) (x : Ins), New w w1 → Calls Try.prog f #[.agg #[.int .i64 x.op, .int .i64 x.a, .int .i64 x.b, .int .i64 x.c, .int .i64 x.d], .pointer (some ⟨bc, 0, none⟩)] w1 fun e w' => e = .returned (.bool (p x)) ∧ New w1 w') (lo hi : Nat) (s : Value) (xs : List Ins) (hs : InssR w lo hi s xs) (h1 : hi ≤ w.heap.size) :
    Calls Try.prog 89 #[s, .func (.func f) #[] #[.pointer (some ⟨bc, 0, none⟩)]] w fun e w' => (∃ r : Int, e = .returned (.int .i64 r) ∧ decide (0 ≤ r) = xs.any p) ∧ New w w' := by
  obtain ⟨a, c, rfl, hl1⟩ := hs.len
  have H := Lib.hid hf; clear hf
  go_enter Try.func89, Try.ntmps89
  go_wp2_with fail
  go_loopw [8] (fun i wr => ∃ j : Nat, j ≤ xs.length ∧ i = .int .i64 j ∧ New w wr ∧ Hid ((xs.take j).any p = false)) (fun i _ => xs.length - (intOf i).toNat)
  case atStart => exact ⟨0, Nat.zero_le _, rfl, Kp.refl _ _, Lib.hid rfl⟩
  case round =>
    obtain ⟨j, hj, rfl, hN, hA⟩ := hrel
    by_cases hlt : j < xs.length
    · obtain ⟨b, o, rfl, hb1, hb2, c0, c1, c2, c3, c4⟩ := InssR.at (hs.new h1 hN) j hlt
      have hs1 := Lib.hid (show (xs.take (j + 1)).any p = p xs[j] by rw [List.take_succ_eq_append_getElem hlt, List.any_append, hA.out]; simp)
      have hs2 := Lib.hid (show p xs[j] = true → xs.any p = true from fun h => List.any_eq_true.2 ⟨_, List.getElem_mem hlt, h⟩)
      clear hs hA
      generalize xs[j] = x at *
      go_wp2_with fail
      refine (H.out _ _ hN).mono ?_
      rintro r w1 ⟨rfl, hn⟩
      have hN1 := hN.trans hn
      cases hp : p x
      · go_wp2
        go_roundw
        case rel => exact ⟨j + 1, by omega, by go_num, hN1, Lib.hid (by rw [hs1.out, hp])⟩
        case measure => simp [intOf]; omega
      · have hfin := Lib.hid (hs2.out hp)
        clear hs1 hs2 hp
        go_wp2
        go_ret
        exact ⟨⟨_, rfl, by rw [hfin.out]; simp⟩, hN1⟩
    · have hge : xs.length ≤ j := by omega
      have hfin := Lib.hid (show xs.any p = false by have h := hA.out; rwa [List.take_of_length_le hge] at h)
      clear hA hs
      go_wp2
      go_ret
      exact ⟨⟨_, rfl, by rw [hfin.out]; simp⟩, hN⟩
theorem containsFuncN (f : Nat) (he : ∀ args w, (callFunc f args).run Try.prog w = .ok (.enter f args) w) (bc : Nat) (p : Ins → Bool) (w : World) (hf : ∀ (w1 : World) (x : Ins), New w w1 → Calls Try.prog f #[.agg #[.int .i64 x.op, .int .i64 x.a, .int .i64 x.b, .int .i64 x.c, .int .i64 x.d], .pointer (some ⟨bc, 0, none⟩)] w1 fun e w' => e = .returned (.bool (p x)) ∧ New w1 w') (lo hi : Nat) (s : Value) (xs : List Ins) (hs : InssR w lo hi s xs) (h1 : hi ≤ w.heap.size) :
    Calls Try.prog 57 #[s, .func (.func f) #[] #[.pointer (some ⟨bc, 0, none⟩)]] w fun e w' => e = .returned (.bool (xs.any p)) ∧ New w w' := by
  have H := Lib.hid hf; clear hf
  go_enter Try.func57, Try.ntmps57
  go_wp2_with fail
  refine (indexFuncN f he bc p w H.out lo hi s xs hs h1).mono ?_
  rintro e w1 ⟨⟨r, rfl, hr⟩, hn⟩
  have hR := Lib.hid hr; clear hr
  go_wp2
  go_ret
  exact ⟨retB hR.out, hn⟩
end Go.Proofs.Ytbicpkmlionldaa.InsW

/- CodeValid of spec and of impl. No conditions. -/
namespace Go.Proofs.Ytbicpkmlionldaa.CodeW
open Go.RowKit Kit Val
set_option linter.unusedVariables false
set_option maxHeartbeats 2000000 in
theorem specV {w : World} {lo hi : Nat} {ta tb tc : Value} {xa xb : List Int} {x : List Ins} (sa : IntsR w lo hi ta xa) (sb : IntsR w lo hi tb xb) (s : InssR w lo hi tc x) (h1 : hi ≤ w.heap.size) :
    Calls Try.prog 19 #[.agg #[ta, tb, tc]] w fun e w' => e = .returned (.bool (codeB xa xb x)) ∧ New w w' := by
  obtain ⟨a, c, rfl, m1⟩ := sa.len
  obtain ⟨a1, c1, rfl, m2⟩ := sb.len
  obtain ⟨a2, c2, rfl, m3⟩ := s.len
  go_enter Try.func19, Try.ntmps19
  go_wp2_with fail
  have N0 : New w (w.alloc (.cells #[.slice a xa.length c, .slice a1 xb.length c1, .slice a2 x.length c2] 26)) := ((Kp.refl _ _).alloc _)
  have bA_0 : (w.alloc (.cells #[.slice a xa.length c, .slice a1 xb.length c1, .slice a2 x.length c2] 26)).heap[w.heap.size]? = some (.cells #[.slice a xa.length c, .slice a1 xb.length c1, .slice a2 x.length c2] 26) := alloc_heap _ _
  have z0 : w.heap.size < (w.alloc (.cells #[.slice a xa.length c, .slice a1 xb.length c1, .slice a2 x.length c2] 26)).heap.size := by simp
  generalize (w.alloc (.cells #[.slice a xa.length c, .slice a1 xb.length c1, .slice a2 x.length c2] 26)) = w0 at *
  obtain ⟨bA_0_c0, bA_0_c1, bA_0_c2⟩ := cells3 bA_0
  refine (Decl.l6Heads _ _ _ _ _ _ _).mono ?_
  rintro e w1 ⟨rfl, hn1⟩
  have z1 := hn1.size
  have N1 : New w w1 := N0.trans hn1
  have bA_1 := heap_new hn1 bA_0
  clear bA_0_c0 bA_0_c1 bA_0_c2
  clear bA_0 hn1
  obtain ⟨bA_1_c0, bA_1_c1, bA_1_c2⟩ := cells3 bA_1
  go_wp2_with fail
  refine (Decl.heads (sa.new h1 N1) (sb.new h1 N1) (by omega)).mono ?_
  rintro e w2 ⟨rfl, hn2⟩
  have z2 := hn2.size
  have N2 : New w w2 := N1.trans hn2
  have bA_2 := heap_new hn2 bA_1
  clear bA_1_c0 bA_1_c1 bA_1_c2
  clear bA_1 hn2
  obtain ⟨bA_2_c0, bA_2_c1, bA_2_c2⟩ := cells3 bA_2
  cases hd : declB xa xb
  · have D := Lib.hid (show codeB xa xb x = false by rw [codeB, hd]; rfl)
    go_wp2
    go_ret
    exact ⟨retB D.out.symm, N2⟩
  have HD := Lib.hid hd
  clear hd
  by_cases g1 : (1 : Int) ≤ x.length
  rotate_left
  · have D := Lib.hid (show codeB xa xb x = false by
      have : decide (1 ≤ x.length) = false := by rw [decide_eq_false_iff_not]; omega
      rw [codeB, this]; simp)
    go_wp2
    go_ret
    exact ⟨retB D.out.symm, N2⟩
  by_cases g2 : (x.length : Int) ≤ 400
  rotate_left
  · have D := Lib.hid (show codeB xa xb x = false by
      have : decide (x.length ≤ 400) = false := by rw [decide_eq_false_iff_not]; omega
      rw [codeB, this]; simp)
    go_wp2
    go_ret
    exact ⟨retB D.out.symm, N2⟩
  have C := Lib.hid (show codeB xa xb x = (x.all (insS xa.length xb.length x.length) && (lastOp x == 13 || lastOp x == 8)) by
    have e1 : decide (1 ≤ x.length) = true := by rw [decide_eq_true_eq]; omega
    have e2 : decide (x.length ≤ 400) = true := by rw [decide_eq_true_eq]; omega
    rw [codeB, HD.out, e1, e2]; simp)
  go_wp2_with fail
  go_loopw [4] (fun i wr => ∃ j : Nat, j ≤ x.length ∧ i = .int .i64 j ∧ New w2 wr ∧ Hid ((x.take j).all (insS xa.length xb.length x.length) = true)) (fun i _ => x.length - (intOf i).toNat)
  case atStart => exact ⟨0, Nat.zero_le _, rfl, Kp.refl _ _, Lib.hid rfl⟩
  case round =>
    obtain ⟨j, hj, rfl, hNA, hG⟩ := hrel
    have N3 := N2.trans hNA
    have bA3 := heap_new hNA bA_2
    obtain ⟨cA0, cA1, cA2⟩ := cells3 bA3
    by_cases hlt : j < x.length
    · obtain ⟨b, o, rfl, hb1, hb2, c0, c1, c2, c3, c4⟩ := InssR.at (s.new h1 N3) j hlt
      have hB := Lib.hid (all_bad (p := insS xa.length xb.length x.length) (xs := x) hlt)
      have hT := Lib.hid (all_take (p := insS xa.length xb.length x.length) (xs := x) hlt)
      clear s
      generalize x[j] = y at *
      go_wp2_with fail
      set_option maxRecDepth 100000 in go_still_tail 6, (by kernel_rfl)
      change wpList _ _ _ _ _ wr.drew
      go_wp2_with fail
      refine (InsV.l6Instr y m1 m2 m3).mono ?_
      rintro r w3 ⟨rfl, hn3⟩
      have N4 := N3.drew.trans hn3
      have hNA2 := hNA.drew.trans hn3
      cases hp : insS xa.length xb.length x.length y
      · have hfin := Lib.hid (show codeB xa xb x = false by rw [C.out, hB.out hp]; rfl)
        clear hB hT hG hp
        go_wp2
        go_ret
        exact ⟨retB hfin.out.symm, N4⟩
      · have hG2 := Lib.hid (show (x.take (j + 1)).all (insS xa.length xb.length x.length) = true by rw [hT.out, hG.out, hp]; rfl)
        clear hB hT hG hp
        go_wp2
        go_roundw
        case rel => exact ⟨j + 1, by omega, by go_num, hNA2, hG2⟩
        case measure => simp [intOf]; omega
    · have E := Lib.hid (show codeB xa xb x = (lastOp x == 13 || lastOp x == 8) by
        have h := hG.out
        rw [List.take_of_length_le (by omega)] at h
        rw [C.out, h]; rfl)
      have hge : x.length ≤ j := by omega
      clear hG C
      have hlast : x.length - 1 < x.length := by omega
      obtain ⟨b, o, rfl, hb1, hb2, c0, k1, k2, k3, k4⟩ := InssR.at (s.new h1 N3) (x.length - 1) hlast
      clear k1 k2 k3 k4
      have hl0 := Lib.hid (lastOp_get hlast)
      have hge1 : 1 ≤ x.length := by omega
      have hi1 : ((x.length : Int) - 1).toNat = x.length - 1 := by omega
      generalize x[x.length - 1].op = op at *
      clear s hlast
      by_cases g13 : op = 13
      · have D := Lib.hid (show codeB xa xb x = true by rw [E.out, hl0.out, g13]; rfl)
        have e13 : (op == 13) = true := by simp [g13]
        clear g13 E hl0
        go_wp2
        go_ret
        exact ⟨retB D.out.symm, N3⟩
      · by_cases g8 : op = 8
        · have D := Lib.hid (show codeB xa xb x = true by rw [E.out, hl0.out, g8]; rfl)
          have e13 : (op == 13) = false := by simp [g13]
          have e8 : (op == 8) = true := by simp [g8]
          clear g13 g8 E hl0
          go_wp2
          go_ret
          exact ⟨retB D.out.symm, N3⟩
        · have D := Lib.hid (show codeB xa xb x = false by rw [E.out, hl0.out]; simp [g13, g8])
          have e13 : (op == 13) = false := by simp [g13]
          have e8 : (op == 8) = false := by simp [g8]
          clear g13 g8 E hl0
          go_wp2
          go_ret
          exact ⟨retB D.out.symm, N3⟩
set_option maxHeartbeats 2000000 in
theorem implV {w : World} {lo hi : Nat} {ta tb tc : Value} {xa xb : List Int} {x : List Ins} (sa : IntsR w lo hi ta xa) (sb : IntsR w lo hi tb xb) (s : InssR w lo hi tc x) (h1 : hi ≤ w.heap.size) :
    Calls Try.prog 26 #[.agg #[ta, tb, tc]] w fun e w' => e = .returned (.bool (codeB xa xb x)) ∧ New w w' := by
  obtain ⟨a, c, rfl, m1⟩ := sa.len
  obtain ⟨a1, c1, rfl, m2⟩ := sb.len
  obtain ⟨a2, c2, rfl, m3⟩ := s.len
  go_enter Try.func26, Try.ntmps26
  go_wp2_with fail
  have N0 : New w (w.alloc (.cells #[.slice a xa.length c, .slice a1 xb.length c1, .slice a2 x.length c2] 26)) := ((Kp.refl _ _).alloc _)
  have bA_0 : (w.alloc (.cells #[.slice a xa.length c, .slice a1 xb.length c1, .slice a2 x.length c2] 26)).heap[w.heap.size]? = some (.cells #[.slice a xa.length c, .slice a1 xb.length c1, .slice a2 x.length c2] 26) := alloc_heap _ _
  have z0 : w.heap.size < (w.alloc (.cells #[.slice a xa.length c, .slice a1 xb.length c1, .slice a2 x.length c2] 26)).heap.size := by simp
  generalize (w.alloc (.cells #[.slice a xa.length c, .slice a1 xb.length c1, .slice a2 x.length c2] 26)) = w0 at *
  obtain ⟨bA_0_c0, bA_0_c1, bA_0_c2⟩ := cells3 bA_0
  have sa0 := Lib.hid (sa.new h1 N0)
  have sb0 := Lib.hid (sb.new h1 N0)
  refine (Decl.declared sa0.out sb0.out).mono ?_
  rintro e w' ⟨rfl, rfl⟩
  cases hd : declB xa xb
  · have D := Lib.hid (show codeB xa xb x = false by rw [codeB, hd]; rfl)
    go_wp2
    go_ret
    exact ⟨retB D.out.symm, N0⟩
  have HD := Lib.hid hd
  clear hd
  go_wp2_with fail
  refine (Lab.within _ _ _ _).mono ?_
  rintro e w' ⟨rfl, rfl⟩
  cases hin : Lab.inside (x.length : Int) 1 400
  · have D := Lib.hid (show codeB xa xb x = false by
      have : (decide (1 ≤ x.length) && decide (x.length ≤ 400)) = false := by rw [← hin]; rw [Bool.eq_iff_iff]; simp [Lab.inside]; omega
      simp only [codeB, HD.out, Bool.true_and, this]; simp)
    go_wp2
    go_ret
    exact ⟨retB D.out.symm, N0⟩
  have hin2 : 1 ≤ x.length ∧ x.length ≤ 400 := by simp [Lab.inside] at hin; omega
  obtain ⟨g1, g2⟩ := hin2
  have C := Lib.hid (show codeB xa xb x = ((!(x.any fun y => !insI xa.length xb.length x.length y)) && (lastOp x == 13 || lastOp x == 8)) by
    have e1 : decide (1 ≤ x.length) = true := by rw [decide_eq_true_eq]; omega
    have e2 : decide (x.length ≤ 400) = true := by rw [decide_eq_true_eq]; omega
    have e3 : x.all (insS xa.length xb.length x.length) = !(x.any fun y => !insI xa.length xb.length x.length y) := by
      rw [List.all_eq_not_any_not]; congr 2; funext y; rw [ins_eq]
    rw [codeB, HD.out, e1, e2, e3]; simp)
  clear hin
  go_wp2_with fail
  refine (InsW.containsFuncN 58 (enters_of Try.func58 (by kernel_rfl) rfl) w.heap.size (fun y => !insI xa.length xb.length x.length y) _ (fun w1 y hnw => InsW.lit y m1 m2 m3 (heap_new hnw bA_0)) lo hi _ x (s.new h1 N0) (by omega)).mono ?_
  rintro e w1 ⟨rfl, hn1⟩
  have N1 := N0.trans hn1
  have z1 := hn1.size
  have bA_1 := heap_new hn1 bA_0
  obtain ⟨d0, d1, d2⟩ := cells3 bA_1
  cases hany : x.any fun y => !insI xa.length xb.length x.length y
  rotate_left
  · have D := Lib.hid (show codeB xa xb x = false by rw [C.out, hany]; rfl)
    clear C hany
    go_wp2
    go_ret
    exact ⟨retB D.out.symm, N1⟩
  have E := Lib.hid (show codeB xa xb x = (lastOp x == 13 || lastOp x == 8) by rw [C.out, hany]; rfl)
  clear C hany
  have hlast : x.length - 1 < x.length := by omega
  obtain ⟨b, o, rfl, hb1, hb2, c0, k1, k2, k3, k4⟩ := InssR.at (s.new h1 N1) (x.length - 1) hlast
  clear k1 k2 k3 k4
  have hl0 := Lib.hid (lastOp_get hlast)
  have hge1 : 1 ≤ x.length := by omega
  have hi1 : ((x.length : Int) - 1).toNat = x.length - 1 := by omega
  generalize x[x.length - 1].op = op at *
  clear s hlast
  by_cases g13 : op = 13
  · have D := Lib.hid (show codeB xa xb x = true by rw [E.out, hl0.out, g13]; rfl)
    have e13 : (op == 13) = true := by simp [g13]
    clear g13 E hl0
    go_wp2
    go_ret
    exact ⟨retB D.out.symm, N1⟩
  · by_cases g8 : op = 8
    · have D := Lib.hid (show codeB xa xb x = true by rw [E.out, hl0.out, g8]; rfl)
      have e13 : (op == 13) = false := by simp [g13]
      have e8 : (op == 8) = true := by simp [g8]
      clear g13 g8 E hl0
      go_wp2
      go_ret
      exact ⟨retB D.out.symm, N1⟩
    · have D := Lib.hid (show codeB xa xb x = false by rw [E.out, hl0.out]; simp [g13, g8])
      have e13 : (op == 13) = false := by simp [g13]
      have e8 : (op == 8) = false := by simp [g8]
      clear g13 g8 E hl0
      go_wp2
      go_ret
      exact ⟨retB D.out.symm, N1⟩
end Go.Proofs.Ytbicpkmlionldaa.CodeW

/- impl.started, and StartMachine of both: the state with a memory. Condition: bounds on the lengths. -/
namespace Go.Proofs.Ytbicpkmlionldaa.StartM
open Go.RowKit Kit
set_option linter.unusedVariables false
def zeros : List Int := List.replicate 14 0
theorem zeros_own (w : World) : OwnF 1 encI (w.alloc (.cells (mkCells (.int .i64 0) 1 14) 3)) w.heap.size 3 (.slice (some ⟨w.heap.size, 0, none⟩) 14 14) zeros := by
  have e : (mkCells (.int .i64 0) 1 14).toList = List.replicate 14 (.int .i64 0) := toList_madeCells_one _ _
  refine OwnF.mk' (alloc_heap _ _) (Nat.le_refl _) (by simp [zeros]) (by simp [maxLen]) (by rw [mkCells_size]) fun i hi t ht => ?_
  obtain rfl : t = 0 := by omega
  have hi' : i < 14 := by simpa [zeros] using hi
  rw [← Array.getElem?_toList, e, List.getElem?_replicate, if_pos (by omega)]
  exact congrArg (fun x => some (Value.int .i64 x)) (List.getElem_replicate (h := hi)).symm
theorem lens3 {w : World} {lo hi : Nat} {vr va vb : Value} {yr ya : List Int} {yb : List (List Int)} (h : MarkC.MachO w lo hi vr va vb yr ya yb) : (∃ a d, vr = .slice a yr.length d) ∧ (∃ a d, va = .slice a ya.length d) ∧ ∃ a d, vb = .slice a yb.length d := by
  obtain ⟨p1, p2, p3, p4, _, _, _, _, _, A, B⟩ := h
  obtain ⟨a1, d1, e, _⟩ := A.reads.len
  exact ⟨⟨a1, d1, e⟩, B.lens⟩
set_option maxHeartbeats 2000000 in
set_option maxRecDepth 100000 in
theorem started (w : World) (lo hi : Nat) (va vb : Value) (ya : List Int) (yb : List (List Int)) (h : MarkC.MemO w lo hi va vb ya yb) (hh : hi ≤ w.heap.size) (m0 : ya.length ≤ 1099511627776) (m1 : yb.length ≤ 1073741824) (m2 : ∀ x ∈ yb, x.length ≤ 1099511627776) :
    Calls Try.prog 28 #[.agg #[va, vb]] w fun e w' => ∃ vr ua ub, e = .returned (.agg #[.int .i64 0, vr, ua, ub]) ∧ New w w' ∧ MarkC.MachO w' w.heap.size w'.heap.size vr ua ub zeros ya yb := by
  obtain ⟨⟨a1, d1, rfl⟩, a2, d2, rfl⟩ := h.lens
  have hmk : ∀ w : World, (Instr.makeSlice 23 (.int .i64 14) (.int .i64 14)).run Try.prog w = .ok (.slice (some ⟨w.heap.size, 0, none⟩) 14 14) (w.alloc (.cells (mkCells (.int .i64 0) 1 14) 3)) := fun w => run_mk (P := Try.prog) _ _ _ _ _ Try.underlying23 LawF.infoI 14 (by omega) (by omega) w
  go_enter Try.func28, Try.ntmps28
  go_wp2_with fail
  have N0 : New w (((w.alloc (.cells #[.slice a1 ya.length d1, .slice a2 yb.length d2] 29)).alloc (.cells #[.int .i64 0, .slice none 0 0, .slice none 0 0, .slice none 0 0] 38))) := ((Kp.refl _ _).alloc _).alloc _
  have bM : (((w.alloc (.cells #[.slice a1 ya.length d1, .slice a2 yb.length d2] 29)).alloc (.cells #[.int .i64 0, .slice none 0 0, .slice none 0 0, .slice none 0 0] 38))).heap[w.heap.size]? = some (.cells #[.slice a1 ya.length d1, .slice a2 yb.length d2] 29) := heap_old (alloc_heap _ _)
  have bR : (((w.alloc (.cells #[.slice a1 ya.length d1, .slice a2 yb.length d2] 29)).alloc (.cells #[.int .i64 0, .slice none 0 0, .slice none 0 0, .slice none 0 0] 38))).heap[w.heap.size + 1]? = some (.cells #[.int .i64 0, .slice none 0 0, .slice none 0 0, .slice none 0 0] 38) := heap_at (by simp)
  have z0 : w.heap.size + 1 < (((w.alloc (.cells #[.slice a1 ya.length d1, .slice a2 yb.length d2] 29)).alloc (.cells #[.int .i64 0, .slice none 0 0, .slice none 0 0, .slice none 0 0] 38))).heap.size := by simp
  generalize (((w.alloc (.cells #[.slice a1 ya.length d1, .slice a2 yb.length d2] 29)).alloc (.cells #[.int .i64 0, .slice none 0 0, .slice none 0 0, .slice none 0 0] 38))) = w0 at *
  have kd := (Kp.refl (fun _ => False) w0).drew
  have hM := Lib.hid ((h.new hh N0).new (by have := N0.size; omega) kd)
  have hh0 : hi ≤ w0.heap.size := by have := N0.size; omega
  have hz : OwnF 1 encI (w0.alloc (.cells (mkCells (.int .i64 0) 1 14) 3)).drew w0.heap.size 3 (.slice (some ⟨w0.heap.size, 0, none⟩) 14 14) zeros := zeros_own w0.drew
  have kz : New w0.drew (w0.alloc (.cells (mkCells (.int .i64 0) 1 14) 3)).drew := (show New w0.drew (w0.drew.alloc (.cells (mkCells (.int .i64 0) 1 14) 3)) from (Kp.refl _ _).alloc _)
  have bMd := heap_new kd bM
  have cM0 : w0.drew.cell? ⟨w.heap.size, 0, none⟩ = some (.slice a1 ya.length d1) := cell_of_heap bMd 0
  have cM1 : w0.drew.cell? ⟨w.heap.size, 1, none⟩ = some (.slice a2 yb.length d2) := cell_of_heap bMd 1
  have bMz := heap_new kz bMd
  have cMz0 : (w0.alloc (.cells (mkCells (.int .i64 0) 1 14) 3)).drew.cell? ⟨w.heap.size, 0, none⟩ = some (.slice a1 ya.length d1) := cell_of_heap bMz 0
  have cMz1 : (w0.alloc (.cells (mkCells (.int .i64 0) 1 14) 3)).drew.cell? ⟨w.heap.size, 1, none⟩ = some (.slice a2 yb.length d2) := cell_of_heap bMz 1
  have bRd := heap_new kd bR
  have hzh := Lib.hid hz
  clear hz h
  refine wp_region_tail (k := 4) (S := fun w' => w'.cell? ⟨w.heap.size, 0, none⟩ = some (.slice a1 ya.length d1) ∧ w'.cell? ⟨w.heap.size, 1, none⟩ = some (.slice a2 yb.length d2)) (by kernel_rfl) ?_ (fun hHeld => ?_)
  · exact ⟨cM0, cM1⟩
  refine AnyK.tk 1 rfl ?_
  try simp only [AP]
  refine AnyK.two (i := 0) (j := 2) (by kernel_rfl) rfl rfl (fun K hK => ?_) (fun K hK => ?_)
  · go_simp
    refine hK.out _ _ ?_ (fun hHeld2 => ?_)
    · exact ⟨cMz0, cMz1⟩
    clear hK K hHeld
    have hHeld := hHeld2
    clear hHeld2
    try simp only [AP]
    refine AnyK.step (i := 2) (by kernel_rfl) rfl (fun K hK => ?_)
    go_simp
    refine (OwnM.ownMem _ lo hi _ _ _ _ (hM.out.new (by have : w0.drew.heap.size = w0.heap.size := rfl; have := kz.size; omega) kz) (by have : w0.drew.heap.size = w0.heap.size := rfl; have := kz.size; omega) m0 m1 m2).mono ?_
    rintro e w1 ⟨ua, ub, rfl, hn1, hO⟩
    have bM1 := heap_new hn1 bMz
    have bR1 := heap_new hn1 (heap_new kz bRd)
    obtain ⟨⟨a3, d3, rfl⟩, a4, d4, rfl⟩ := hO.lens
    have hO1 := Lib.hid hO
    clear hO
    have d0 : w1.cell? ⟨w.heap.size, 0, none⟩ = some (.slice a1 ya.length d1) := cell_of_heap bM1 0
    have d1' : w1.cell? ⟨w.heap.size, 1, none⟩ = some (.slice a2 yb.length d2) := cell_of_heap bM1 1
    refine hK.out _ _ ?_ (fun hHeld2 => ?_)
    · exact ⟨d0, d1'⟩
    clear hK K hHeld
    have hHeld := hHeld2
    clear hHeld2
    try simp only [AP]
    refine AnyK.tw 3 rfl ?_
    try simp only [AP]
    refine AnyK.last (by kernel_rfl) ?_
    simp only [List.drop_succ_cons, List.drop_zero]
    clear hHeld
    obtain ⟨e0, e1, e2, e3⟩ := cells4 bR1
    have ef := frozen_of_heap bR1
    go_wp2
    have zd : w0.drew.heap.size = w0.heap.size := rfl
    have zz : (w0.alloc (.cells (mkCells (.int .i64 0) 1 14) 3)).drew.heap.size = w0.heap.size + 1 := by show (w0.alloc _).heap.size = _; simp
    have z1 := hn1.size
    have NN : New w w1 := (N0.trans kd).trans (kz.trans hn1)
    have oR := hzh.out.new hn1
    have oM := hO1.out
    have hkz := setMany_kp (w.heap.size + 1) [.int .i64 0, .slice (some ⟨w0.heap.size, 0, none⟩) 14 14, .slice a3 ya.length d3, .slice a4 yb.length d4] w1 0
    have zs := setMany_size (w.heap.size + 1) [.int .i64 0, .slice (some ⟨w0.heap.size, 0, none⟩) 14 14, .slice a3 ya.length d3, .slice a4 yb.length d4] w1 0
    have hR := setMany_row [.int .i64 0, .slice (some ⟨w0.heap.size, 0, none⟩) 14 14, .slice a3 ya.length d3, .slice a4 yb.length d4] bR1 rfl
    have oM2 := oM.kp hkz (fun b e => .inl (by omega))
    have oR2 := oR.kp hkz (fun b hb e => by have := (oR.lt b hb).1; omega)
    have hMO : MarkC.MachO (setMany w1 (w.heap.size + 1) 0 [.int .i64 0, .slice (some ⟨w0.heap.size, 0, none⟩) 14 14, .slice a3 ya.length d3, .slice a4 yb.length d4]) w.heap.size (setMany w1 (w.heap.size + 1) 0 [.int .i64 0, .slice (some ⟨w0.heap.size, 0, none⟩) 14 14, .slice a3 ya.length d3, .slice a4 yb.length d4]).heap.size (.slice (some ⟨w0.heap.size, 0, none⟩) 14 14) (.slice a3 ya.length d3) (.slice a4 yb.length d4) zeros ya yb := ⟨w0.heap.size, w0.heap.size + 1, _, _, by omega, by omega, by omega, by omega, .inl (by omega), ⟨oR2, fun b hb => by simp [Value.ownBlock] at hb; omega⟩, oM2⟩
    refine bodyPost_ret (results_cell_row rfl _ _ _ _ _ _ _ rfl hR Try.underlying38 rfl (by kernel_rfl)) rfl ⟨_, _, _, rfl, New.one NN hkz (by omega), hMO⟩
  · go_simp
    refine (OwnM.ownMem _ lo hi _ _ _ _ hM.out (by have : w0.drew.heap.size = w0.heap.size := rfl; have := kz.size; omega) m0 m1 m2).mono ?_
    rintro e w1 ⟨ua, ub, rfl, hn1, hO⟩
    have bM1 := heap_new hn1 bMd
    have bR1 := heap_new hn1 bRd
    obtain ⟨⟨a3, d3, rfl⟩, a4, d4, rfl⟩ := hO.lens
    have hO1 := Lib.hid hO
    clear hO
    have d0 : w1.cell? ⟨w.heap.size, 0, none⟩ = some (.slice a1 ya.length d1) := cell_of_heap bM1 0
    have d1' : w1.cell? ⟨w.heap.size, 1, none⟩ = some (.slice a2 yb.length d2) := cell_of_heap bM1 1
    refine hK.out _ _ ?_ (fun hHeld2 => ?_)
    · exact ⟨d0, d1'⟩
    clear hK K hHeld
    have hHeld := hHeld2
    clear hHeld2
    try simp only [AP]
    refine AnyK.step (i := 0) (by kernel_rfl) rfl (fun K hK => ?_)
    go_simp
    have bM2 := heap_old (x := (.cells (mkCells (.int .i64 0) 1 14) 3)) bM1
    have bR2 := heap_old (x := (.cells (mkCells (.int .i64 0) 1 14) 3)) bR1
    have f0 : (w1.alloc (.cells (mkCells (.int .i64 0) 1 14) 3)).cell? ⟨w.heap.size, 0, none⟩ = some (.slice a1 ya.length d1) := cell_of_heap bM2 0
    have f1 : (w1.alloc (.cells (mkCells (.int .i64 0) 1 14) 3)).cell? ⟨w.heap.size, 1, none⟩ = some (.slice a2 yb.length d2) := cell_of_heap bM2 1
    refine hK.out _ _ ?_ (fun hHeld2 => ?_)
    · exact ⟨f0, f1⟩
    clear hK K hHeld
    have hHeld := hHeld2
    clear hHeld2
    try simp only [AP]
    refine AnyK.tw 3 rfl ?_
    try simp only [AP]
    refine AnyK.last (by kernel_rfl) ?_
    simp only [List.drop_succ_cons, List.drop_zero]
    clear hHeld
    obtain ⟨e0, e1, e2, e3⟩ := cells4 bR2
    have ef := frozen_of_heap bR2
    go_wp2
    have zd : w0.drew.heap.size = w0.heap.size := rfl
    have zz : (w0.alloc (.cells (mkCells (.int .i64 0) 1 14) 3)).drew.heap.size = w0.heap.size + 1 := by show (w0.alloc _).heap.size = _; simp
    have z1 := hn1.size
    have ka : New w1 (w1.alloc (.cells (mkCells (.int .i64 0) 1 14) 3)) := (Kp.refl _ _).alloc _
    have NN : New w (w1.alloc (.cells (mkCells (.int .i64 0) 1 14) 3)) := ((N0.trans kd).trans hn1).trans ka
    have oR := zeros_own w1
    have oM := hO1.out.new (Nat.le_refl _) ka
    have za : (w1.alloc (.cells (mkCells (.int .i64 0) 1 14) 3)).heap.size = w1.heap.size + 1 := by simp
    have hkz := setMany_kp (w.heap.size + 1) [.int .i64 0, .slice (some ⟨w1.heap.size, 0, none⟩) 14 14, .slice a3 ya.length d3, .slice a4 yb.length d4] (w1.alloc (.cells (mkCells (.int .i64 0) 1 14) 3)) 0
    have zs := setMany_size (w.heap.size + 1) [.int .i64 0, .slice (some ⟨w1.heap.size, 0, none⟩) 14 14, .slice a3 ya.length d3, .slice a4 yb.length d4] (w1.alloc (.cells (mkCells (.int .i64 0) 1 14) 3)) 0
    have hR := setMany_row [.int .i64 0, .slice (some ⟨w1.heap.size, 0, none⟩) 14 14, .slice a3 ya.length d3, .slice a4 yb.length d4] bR2 rfl
    have oM2 := oM.kp hkz (fun b e => .inl (by omega))
    have oR2 := oR.kp hkz (fun b hb e => by have := (oR.lt b hb).1; omega)
    have hMO : MarkC.MachO (setMany (w1.alloc (.cells (mkCells (.int .i64 0) 1 14) 3)) (w.heap.size + 1) 0 [.int .i64 0, .slice (some ⟨w1.heap.size, 0, none⟩) 14 14, .slice a3 ya.length d3, .slice a4 yb.length d4]) w.heap.size (setMany (w1.alloc (.cells (mkCells (.int .i64 0) 1 14) 3)) (w.heap.size + 1) 0 [.int .i64 0, .slice (some ⟨w1.heap.size, 0, none⟩) 14 14, .slice a3 ya.length d3, .slice a4 yb.length d4]).heap.size (.slice (some ⟨w1.heap.size, 0, none⟩) 14 14) (.slice a3 ya.length d3) (.slice a4 yb.length d4) zeros ya yb := ⟨w1.heap.size, w1.heap.size + 1, _, _, by omega, by omega, by omega, by omega, .inr (by omega), ⟨oR2, fun b hb => by simp [Value.ownBlock] at hb; omega⟩, oM2⟩
    refine bodyPost_ret (results_cell_row rfl _ _ _ _ _ _ _ rfl hR Try.underlying38 rfl (by kernel_rfl)) rfl ⟨_, _, _, rfl, New.one NN hkz (by omega), hMO⟩
end Go.Proofs.Ytbicpkmlionldaa.StartM

/- Copies of a machine's state: of the program, of the reference. Conditions: bounds on the lengths. -/
namespace Go.Proofs.Ytbicpkmlionldaa.CopyS
open Go.RowKit Kit MarkC
set_option linter.unusedVariables false
set_option maxHeartbeats 2000000 in
set_option maxRecDepth 100000 in
theorem ownMach (w : World) (lo hi : Nat) (pc : Int) (vr va vb : Value) (yr ya : List Int) (yb : List (List Int)) (h : MachO w lo hi vr va vb yr ya yb) (hh : hi ≤ w.heap.size) (mr : yr.length ≤ 1099511627776) (m0 : ya.length ≤ 1099511627776) (m1 : yb.length ≤ 1073741824) (m2 : ∀ x ∈ yb, x.length ≤ 1099511627776) :
    Calls Try.prog 29 #[.agg #[.int .i64 pc, vr, va, vb]] w fun e w' => ∃ ur ua ub, e = .returned (.agg #[.int .i64 pc, ur, ua, ub]) ∧ New w w' ∧ MachO w' w.heap.size w'.heap.size ur ua ub yr ya yb := by
  obtain ⟨p1, p2, p3, p4, q1, q2, q3, q4, q5, A, B⟩ := h
  obtain ⟨a1, d1, rfl, l1⟩ := A.reads.len
  obtain ⟨⟨a2, d2, rfl⟩, a3, d3, rfl⟩ := B.lens
  have hA0 := Lib.hid A
  have hB0 := Lib.hid B
  clear A B
  go_enter Try.func29, Try.ntmps29
  go_wp2_with fail
  have N0 : New w ((w.alloc (.cells #[.int .i64 pc, .slice a1 yr.length d1, .slice a2 ya.length d2, .slice a3 yb.length d3] 38)).alloc (.cells #[.int .i64 0, .slice none 0 0, .slice none 0 0, .slice none 0 0] 38)) := ((Kp.refl _ _).alloc _).alloc _
  have bS : ((w.alloc (.cells #[.int .i64 pc, .slice a1 yr.length d1, .slice a2 ya.length d2, .slice a3 yb.length d3] 38)).alloc (.cells #[.int .i64 0, .slice none 0 0, .slice none 0 0, .slice none 0 0] 38)).heap[w.heap.size]? = some (.cells #[.int .i64 pc, .slice a1 yr.length d1, .slice a2 ya.length d2, .slice a3 yb.length d3] 38) := heap_old (alloc_heap _ _)
  have bR : ((w.alloc (.cells #[.int .i64 pc, .slice a1 yr.length d1, .slice a2 ya.length d2, .slice a3 yb.length d3] 38)).alloc (.cells #[.int .i64 0, .slice none 0 0, .slice none 0 0, .slice none 0 0] 38)).heap[w.heap.size + 1]? = some (.cells #[.int .i64 0, .slice none 0 0, .slice none 0 0, .slice none 0 0] 38) := heap_at (by simp)
  have z0 : w.heap.size + 1 < ((w.alloc (.cells #[.int .i64 pc, .slice a1 yr.length d1, .slice a2 ya.length d2, .slice a3 yb.length d3] 38)).alloc (.cells #[.int .i64 0, .slice none 0 0, .slice none 0 0, .slice none 0 0] 38)).heap.size := by simp
  generalize ((w.alloc (.cells #[.int .i64 pc, .slice a1 yr.length d1, .slice a2 ya.length d2, .slice a3 yb.length d3] 38)).alloc (.cells #[.int .i64 0, .slice none 0 0, .slice none 0 0, .slice none 0 0] 38)) = w0 at *
  have kd := (Kp.refl (fun _ => False) w0).drew
  have Nd := N0.trans kd
  have zd : w0.drew.heap.size = w0.heap.size := rfl
  have bSd := heap_new kd bS
  have bRd := heap_new kd bR
  have hA := Lib.hid (hA0.out.new (by omega) Nd)
  have hB := Lib.hid (hB0.out.new (by omega) Nd)
  obtain ⟨c0, c1, c2, c3⟩ := cells4 bSd
  refine wp_region_tail (k := 9) (S := fun w' => w'.cell? ⟨w.heap.size, 0, none⟩ = some (.int .i64 pc) ∧ w'.cell? ⟨w.heap.size, 1, none⟩ = some (.slice a1 yr.length d1) ∧ w'.cell? ⟨w.heap.size, 2, none⟩ = some (.slice a2 ya.length d2) ∧ w'.cell? ⟨w.heap.size, 3, none⟩ = some (.slice a3 yb.length d3)) (by kernel_rfl) ?_ (fun hHeld => ?_)
  · exact ⟨c0, c1, c2, c3⟩
  refine AnyK.tw 0 rfl ?_
  try simp only [AP]
  refine AnyK.tk 1 rfl ?_
  try simp only [AP]
  refine AnyK.tw 2 rfl ?_
  try simp only [AP]
  refine AnyK.tk 3 rfl ?_
  try simp only [AP]
  refine AnyK.tw 5 rfl ?_
  try simp only [AP]
  refine AnyK.tk 6 rfl ?_
  try simp only [AP]
  refine AnyK.step (i := 4) (by kernel_rfl) rfl (fun K hK => ?_)
  go_simp
  refine (AppM.cloneI _ _ _ _ hA.out.own (by omega)).mono ?_
  rintro e w1 ⟨u1, rfl, hn1, hO⟩
  have bS1 := heap_new hn1 bSd
  have bR1 := heap_new hn1 bRd
  obtain ⟨a4, d4, rfl, _⟩ := hO.reads.len
  have hO1 := Lib.hid hO
  clear hO
  have z1 := hn1.size
  have hB1 := Lib.hid (hB.out.new (by omega) hn1)
  obtain ⟨f0, f1, f2, f3⟩ := cells4 bS1
  refine hK.out _ _ ?_ (fun hHeld2 => ?_)
  · exact ⟨f0, f1, f2, f3⟩
  clear hK K hHeld
  have hHeld := hHeld2
  clear hHeld2
  try simp only [AP]
  refine AnyK.step (i := 7) (by kernel_rfl) rfl (fun K hK => ?_)
  go_simp
  refine (OwnM.ownMem _ _ _ _ _ _ _ hB1.out (by omega) m0 m1 m2).mono ?_
  rintro e w2 ⟨ua, ub, rfl, hn2, hO⟩
  have bS2 := heap_new hn2 bS1
  have bR2 := heap_new hn2 bR1
  obtain ⟨⟨a5, d5, rfl⟩, a6, d6, rfl⟩ := hO.lens
  have hO2 := Lib.hid hO
  clear hO
  have z2 := hn2.size
  obtain ⟨g0, g1, g2, g3⟩ := cells4 bS2
  refine hK.out _ _ ?_ (fun hHeld2 => ?_)
  · exact ⟨g0, g1, g2, g3⟩
  clear hK K hHeld
  have hHeld := hHeld2
  clear hHeld2
  try simp only [AP]
  refine AnyK.tw 8 rfl ?_
  try simp only [AP]
  refine AnyK.last (by kernel_rfl) ?_
  simp only [List.drop_succ_cons, List.drop_zero]
  clear hHeld
  obtain ⟨e0, e1, e2, e3⟩ := cells4 bR2
  have ef := frozen_of_heap bR2
  go_wp2
  have hkz := setMany_kp (w.heap.size + 1) [.int .i64 pc, .slice a4 yr.length d4, .slice a5 ya.length d5, .slice a6 yb.length d6] w2 0
  have zs := setMany_size (w.heap.size + 1) [.int .i64 pc, .slice a4 yr.length d4, .slice a5 ya.length d5, .slice a6 yb.length d6] w2 0
  have hR := setMany_row [.int .i64 pc, .slice a4 yr.length d4, .slice a5 ya.length d5, .slice a6 yb.length d6] bR2 rfl
  have oM2 := (hO2.out).kp hkz (fun b e => .inl (by omega))
  have oR2 := (hO1.out.new hn2).kp hkz (fun b hb e => by have := ((hO1.out.new hn2).lt b hb).1; omega)
  have hMO : MachO (setMany w2 (w.heap.size + 1) 0 [.int .i64 pc, .slice a4 yr.length d4, .slice a5 ya.length d5, .slice a6 yb.length d6]) w.heap.size (setMany w2 (w.heap.size + 1) 0 [.int .i64 pc, .slice a4 yr.length d4, .slice a5 ya.length d5, .slice a6 yb.length d6]).heap.size (.slice a4 yr.length d4) (.slice a5 ya.length d5) (.slice a6 yb.length d6) yr ya yb := ⟨w0.heap.size, w1.heap.size, w1.heap.size, w2.heap.size, by omega, by omega, by omega, by omega, .inl (by omega), ⟨oR2, fun b hb => (hO1.out.lt b hb).2⟩, oM2⟩
  exact bodyPost_ret (results_cell_row rfl _ _ _ _ _ _ _ rfl hR Try.underlying38 rfl (by kernel_rfl)) rfl ⟨_, _, _, rfl, New.one ((Nd.trans hn1).trans hn2) hkz (by omega), hMO⟩
end Go.Proofs.Ytbicpkmlionldaa.CopyS
